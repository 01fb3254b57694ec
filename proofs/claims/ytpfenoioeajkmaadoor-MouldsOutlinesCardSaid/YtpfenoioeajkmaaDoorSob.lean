/- Texts of this claim, merged by a program (wip/tools/shake.py); what nothing names is left out. -/
import Derived.Shelf.Strings.BuilderK
import Derived.Test.YtpfenoioeajkmaaDoorSoa
section
set_option linter.unusedVariables false
set_option linter.unusedSimpArgs false
namespace Go.Proofs.YtpfenoioeajkmaaDoor.X
open Go.RowKit Go.Proofs.YtpfenoioeajkmaaDoorW.PrintWords Go.Proofs.YtpfenoioeajkmaaDoorW.PrintLast Go.Proofs.YtpfenoioeajkmaaDoorW.PrintMore
section
variable {P : Program} {md : Region.Mode} {ops : Array Oper} {Q : Exit → Act → World → Prop} {S : World → Prop} {ds : List Nat}
theorem off_ {i : Nat} {N : Option Tmp} {oi : Oper} {fuel : Nat} {l : Array Bool} {a : Act} {w : World} (l' : Array Bool) (hi : ops[i]? = some oi) (hN : oi.dst = N) (hc : anyB md ops l l' i = true)
    (hQ : ∀ c a w, Q (.panic c) (a.put oi.dst undef) w → Q (.panic c) a w) (hw : Region.wanted oi (yielded ops a.tmps) = false) {a' : Act} (ha : a.put N undef = a')
    (h : wpAnyLast P md ops Q S ds fuel l' a' w) : wpAnyLast P md ops Q S ds (fuel + 1) l a w := pure_ l' hi hN hc hQ (Or.inr ⟨hw, rfl⟩) ha h
end
structure Pts (w : World) (b off n : Nat) (x y : Nat → Int) : Prop where
  c0 : ∀ i : Nat, i < n → w.cell? ⟨b, off + i * 2, none⟩ = some (.int .i64 (x i))
  c1 : ∀ i : Nat, i < n → w.cell? ⟨b, off + i * 2 + 1, none⟩ = some (.int .i64 (y i))
theorem Pts.later {w w' : World} {b off n : Nat} {x y : Nat → Int} (h : Pts w b off n x y) (hb : Below w.heap.size w w') : Pts w' b off n x y :=
  ⟨fun i hi => (hb.cell (p := ⟨b, off + i * 2, none⟩) (World.block_lt_of_cell? w _ (h.c0 i hi))).trans (h.c0 i hi), fun i hi => (hb.cell (p := ⟨b, off + i * 2 + 1, none⟩) (World.block_lt_of_cell? w _ (h.c1 i hi))).trans (h.c1 i hi)⟩
theorem Pts.less {w : World} {b off n m : Nat} {x y : Nat → Int} (h : Pts w b off n x y) (hm : m ≤ n) : Pts w b off m x y := ⟨fun i hi => h.c0 i (by omega), fun i hi => h.c1 i (by omega)⟩
def flat (x y : Nat → Int) : Nat → List Value
  | 0 => []
  | k + 1 => flat x y k ++ [.int .i64 (x k), .int .i64 (y k)]
theorem flat_length (x y : Nat → Int) : ∀ k, (flat x y k).length = k * 2
  | 0 => rfl
  | k + 1 => by rw [flat, List.length_append, flat_length x y k]; simp; omega
theorem flat_get (x y : Nat → Int) : ∀ k i, i < k → (flat x y k)[i * 2]? = some (.int .i64 (x i)) ∧ (flat x y k)[i * 2 + 1]? = some (.int .i64 (y i))
  | 0, i, h => by omega
  | k + 1, i, h => by
    have hl := flat_length x y k
    rw [flat]
    by_cases e : i = k
    · subst e
      rw [List.getElem?_append_right (by omega), List.getElem?_append_right (by omega), hl]
      simp
    · rw [List.getElem?_append_left (by omega), List.getElem?_append_left (by omega)]
      exact flat_get x y k i (by omega)
theorem own_pts {w : World} {base e n : Nat} {v : Value} {x y : Nat → Int} (h : w.ownsRow base e 2 v n (flat x y n)) :
    (v = .slice none 0 0 ∧ n = 0) ∨ ∃ g cap, v = .slice (some ⟨g, 0, none⟩) n cap ∧ base ≤ g ∧ g < w.heap.size ∧ n ≤ cap ∧ Pts w g 0 n x y := by
  obtain ⟨_, h | ⟨g, cap, cur, rfl, hg, hb, hn, _, hs, ht⟩⟩ := h
  · exact .inl h
  · refine .inr ⟨g, cap, rfl, hg, (Array.getElem?_eq_some_iff.1 hb).1, hn, ?_⟩
    have key : ∀ j u, (flat x y n)[j]? = some u → j < n * 2 → w.cell? ⟨g, 0 + j, none⟩ = some u := fun j u hu hj => by
      rw [← ht, List.getElem?_take, if_pos hj] at hu
      have hu' : cur[j]? = some u := by simpa using hu
      rw [Nat.zero_add]
      unfold World.cell?
      simp only [hb]
      simpa using hu'
    exact ⟨fun i hi => key _ _ (flat_get x y n i hi).1 (by omega), fun i hi => by rw [Nat.add_assoc]; exact key _ _ (flat_get x y n i hi).2 (by omega)⟩
theorem info63 : (Tryd.prog.info? 63).map (fun i => (i.zero, i.size, i.bytes)) = some (some (.agg #[.int .i64 0, .int .i64 0]), 2, 16) := by kernel_rfl
theorem two_new (w : World) (t : TypeId) (u v : Value) : ∀ (j : Nat) z, ([u, v] : List Value)[j]? = some z → (w.alloc (.cells #[u, v] t)).cell? ((⟨w.heap.size, 0, none⟩ : Addr).add j) = some z := fun j z hz => by
  have hj : j = 0 ∨ j = 1 := by
    have := (List.getElem?_eq_some_iff.1 hz).1
    simp at this
    omega
  rcases hj with rfl | rfl
  · simp at hz
    simp [Addr.add, hz]
  · simp at hz
    simp [Addr.add, hz]
theorem own_grow {B : Nat} {u w w1 : World} {e n : Nat} {v : Value} {xs : List Value} (hb : Below B u w) (hs : w.ownsRow u.heap.size e 2 v n xs) (hg : w.grownBy w1 v.ownBlock) (hB : B = u.heap.size := by rfl) : Below B u w1 := by
  subst hB
  refine hb.grown hg hb.size fun k hk => ?_
  obtain ⟨_, ⟨h, _⟩ | ⟨g, cap, cur, h, h2, _⟩⟩ := hs
  · rw [h] at hk
    simp [Value.ownBlock] at hk
  · rw [h] at hk
    simp [Value.ownBlock] at hk
    omega
def goodTo (x y : Nat → Int) : Nat → Bool
  | 0 => true
  | k + 1 => goodTo x y k && (decide (-100 ≤ x k ∧ x k ≤ 100 ∧ -100 ≤ y k ∧ y k ≤ 100) && (k == 0 || decide (cmpP (x (k - 1)) (y (k - 1)) (x k) (y k) < 0)))
theorem goodTo_less {x y : Nat → Int} : ∀ d k, goodTo x y (k + d) = true → goodTo x y k = true
  | 0, k, h => h
  | d + 1, k, h => by
    rw [← Nat.add_assoc, goodTo, Bool.and_eq_true] at h
    exact goodTo_less d k h.1
theorem goodTo_at {x y : Nat → Int} {n k : Nat} (h : goodTo x y n = true) (hk : k < n) : (-100 ≤ x k ∧ x k ≤ 100 ∧ -100 ≤ y k ∧ y k ≤ 100) ∧ (k = 0 ∨ cmpP (x (k - 1)) (y (k - 1)) (x k) (y k) < 0) := by
  have h1 := goodTo_less (n - (k + 1)) (k + 1) (x := x) (y := y) (by rw [show k + 1 + (n - (k + 1)) = n by omega]; exact h)
  rw [goodTo, Bool.and_eq_true, Bool.and_eq_true, Bool.or_eq_true, decide_eq_true_eq, decide_eq_true_eq, beq_iff_eq] at h1
  exact h1.2
theorem goodTo_next {x y : Nat → Int} {k : Nat} (h : goodTo x y k = true) (hk : (-100 ≤ x k ∧ x k ≤ 100 ∧ -100 ≤ y k ∧ y k ≤ 100) ∧ (k = 0 ∨ cmpP (x (k - 1)) (y (k - 1)) (x k) (y k) < 0)) : goodTo x y (k + 1) = true := by
  rw [goodTo, Bool.and_eq_true, Bool.and_eq_true, Bool.or_eq_true, decide_eq_true_eq, decide_eq_true_eq, beq_iff_eq]
  exact ⟨h, hk⟩
theorem goodTo_bad {x y : Nat → Int} {n k : Nat} (hk : k < n) (h : ¬ ((-100 ≤ x k ∧ x k ≤ 100 ∧ -100 ≤ y k ∧ y k ≤ 100) ∧ (k = 0 ∨ cmpP (x (k - 1)) (y (k - 1)) (x k) (y k) < 0))) : goodTo x y n = false := by
  rw [Bool.eq_false_iff]
  exact fun q => h (goodTo_at q hk)
set_option maxHeartbeats 16000000 in
set_option maxRecDepth 100000 in
theorem read_any (A : Option Addr) (n c : Nat) (x y : Nat → Int) (w : World) (hA : 0 < n → ∃ b off, A = some ⟨b, off, none⟩ ∧ Pts w b off n x y) (hn : 1 ≤ n ∧ n ≤ 30) :
    Calls Tryd.prog 62 #[.slice A n c] w fun e w' => ((goodTo x y n = true ∧ ∃ v, e = .returned (.tuple #[v, .bool true]) ∧ w'.ownsRow w.heap.size 63 2 v n (flat x y n)) ∨ (goodTo x y n = false ∧ e = .returned (.tuple #[.slice none 0 0, .bool false]))) ∧ Below w.heap.size w w' := by
  obtain ⟨b, off, rfl, hP⟩ := hA (by omega)
  have HP := Lib.hid hP
  clear hA hP
  have hn1 : ¬ (n : Int) < 1 := by omega
  have hn2 : ¬ (n : Int) > 30 := by omega
  go_enter Tryd.func62, Tryd.ntmps62
  go_wp2_with fail
  have HB := Lib.hid (Below.refl w.heap.size w)
  have HO := Lib.hid (World.ownsRow_nil w w.heap.size 63 2)
  go_loopw [17, 4] (fun i v wr => ∃ k : Nat, k ≤ n ∧ i = .int .i64 k ∧ Hid (goodTo x y k = true) ∧ Hid (wr.ownsRow w.heap.size 63 2 v k (flat x y k)) ∧ Hid (Below w.heap.size w wr)) (fun i _ _ => n - (intOf i).toNat)
  case atStart => exact ⟨0, by omega, rfl, Lib.hid rfl, HO, HB⟩
  case round =>
    clear HO HB
    obtain ⟨k, hk, rfl, HG, HO, HB⟩ := hrel
    by_cases hlt : k < n
    · have hP := HP.out.later HB.out
      have h0 := hP.c0 k hlt
      have h1 := hP.c1 k hlt
      go_wp2_with fail
      have hP := HP.out.later HB.out
      obtain ⟨wa, hwa⟩ : ∃ wa, wa = wr.alloc (.cells #[.int .i64 (x k), .int .i64 (y k)] 29) := ⟨_, rfl⟩
      have q0 : wa.cell? ⟨wr.heap.size, 0, none⟩ = some (.int .i64 (x k)) := by rw [hwa]; simp
      have q1 : wa.cell? ⟨wr.heap.size, 1, none⟩ = some (.int .i64 (y k)) := by rw [hwa]; simp
      have hba : Below wr.heap.size wr wa := by rw [hwa]; exact below_one _
      have HBA := Lib.hid (HB.out.trans (hba.mono HB.out.size))
      have HOA := Lib.hid (pw_own_below HO.out hba)
      have HPA := Lib.hid (hP.later hba)
      rw [← hwa]
      clear hwa hba hP
      generalize wr.heap.size = G at q0 q1 ⊢
      by_cases hgk : (-100 ≤ x k ∧ x k ≤ 100 ∧ -100 ≤ y k ∧ y k ≤ 100) ∧ (k = 0 ∨ cmpP (x (k - 1)) (y (k - 1)) (x k) (y k) < 0)
      · have HGK := Lib.hid hgk
        obtain ⟨hx, hxy⟩ := hgk
        have e1 : max (x k) (y k) ≤ 100 := by omega
        have e2 : -100 ≤ min (x k) (y k) := by omega
        rcases Nat.eq_zero_or_pos k with hk0 | hk0
        · subst hk0
          refine start_ (n := 28) (S := fun w' => w'.cell? ⟨G, 0, none⟩ = some (.int .i64 (x 0)) ∧ w'.cell? ⟨G, 1, none⟩ = some (.int .i64 (y 0))) (ds := []) #[false, false, false, false, false, false, false, false, false, false, false, false, false, false, false, false, false, false, false, false, false, false, false, false, false, false, false, false] (by kernel_rfl) rfl rfl ⟨by simpa using q0, by simpa using q1⟩ (fun hHeld => ?_)
          refine pure_ (i := 0) (N := (some 22)) (v := ?_) (a' := ?_) #[true, false, false, false, false, false, false, false, false, false, false, false, false, false, false, false, false, false, false, false, false, false, false, false, false, false, false, false] rfl rfl (by kernel_rfl) (fun _ _ _ h => h) (Or.inl ⟨by rfl, ?_⟩) ?_ ?_
          rotate_left
          · intro w'; go_simp; first | done | with_reducible rfl
          rotate_left
          · simp only [Act.put, List.setIfInBounds_toArray, List.set_cons_zero, List.set_cons_succ, i64_w, i32_w]; rfl
          refine take_ (i := 1) (N := (some 23)) (v := ?_) (a' := ?_) #[true, true, false, false, false, false, false, false, false, false, false, false, false, false, false, false, false, false, false, false, false, false, false, false, false, false, false, false] rfl rfl (by kernel_rfl) (fun _ _ _ h => h) (Or.inl ⟨by rfl, ?_⟩) hHeld ?_ ?_
          rotate_left
          · rintro w' ⟨s0, s1⟩; go_simp; first | done | with_reducible rfl
          rotate_left
          · simp only [Act.put, List.setIfInBounds_toArray, List.set_cons_zero, List.set_cons_succ, i64_w, i32_w]; rfl
          refine pure_ (i := 2) (N := (some 24)) (v := ?_) (a' := ?_) #[true, true, true, false, false, false, false, false, false, false, false, false, false, false, false, false, false, false, false, false, false, false, false, false, false, false, false, false] rfl rfl (by kernel_rfl) (fun _ _ _ h => h) (Or.inl ⟨by rfl, ?_⟩) ?_ ?_
          rotate_left
          · intro w'; go_simp; first | done | with_reducible rfl
          rotate_left
          · simp only [Act.put, List.setIfInBounds_toArray, List.set_cons_zero, List.set_cons_succ, i64_w, i32_w]; rfl
          refine take_ (i := 3) (N := (some 25)) (v := ?_) (a' := ?_) #[true, true, true, true, false, false, false, false, false, false, false, false, false, false, false, false, false, false, false, false, false, false, false, false, false, false, false, false] rfl rfl (by kernel_rfl) (fun _ _ _ h => h) (Or.inl ⟨by rfl, ?_⟩) hHeld ?_ ?_
          rotate_left
          · rintro w' ⟨s0, s1⟩; go_simp; first | done | with_reducible rfl
          rotate_left
          · simp only [Act.put, List.setIfInBounds_toArray, List.set_cons_zero, List.set_cons_succ, i64_w, i32_w]; rfl
          refine pure_ (i := 4) (N := (some 26)) (v := ?_) (a' := ?_) #[true, true, true, true, true, false, false, false, false, false, false, false, false, false, false, false, false, false, false, false, false, false, false, false, false, false, false, false] rfl rfl (by kernel_rfl) (fun _ _ _ h => h) (Or.inl ⟨by rfl, ?_⟩) ?_ ?_
          rotate_left
          · intro w'; go_simp; first | done | with_reducible rfl
          rotate_left
          · simp only [Act.put, List.setIfInBounds_toArray, List.set_cons_zero, List.set_cons_succ, i64_w, i32_w]; rfl
          refine pure_ (i := 5) (N := (some 27)) (v := (.bool false)) (a' := ?_) #[true, true, true, true, true, true, false, false, false, false, false, false, false, false, false, false, false, false, false, false, false, false, false, false, false, false, false, false] rfl rfl (by kernel_rfl) (fun _ _ _ h => h) (Or.inl ⟨by rfl, ?_⟩) ?_ ?_
          · intro w'; go_simp; first | done | with_reducible rfl
          rotate_left
          · simp only [Act.put, List.setIfInBounds_toArray, List.set_cons_zero, List.set_cons_succ, i64_w, i32_w]; rfl
          refine pure_ (i := 6) (N := (some 28)) (v := ?_) (a' := ?_) #[true, true, true, true, true, true, true, false, false, false, false, false, false, false, false, false, false, false, false, false, false, false, false, false, false, false, false, false] rfl rfl (by kernel_rfl) (fun _ _ _ h => h) (Or.inl ⟨by rfl, ?_⟩) ?_ ?_
          rotate_left
          · intro w'; go_simp; first | done | with_reducible rfl
          rotate_left
          · simp only [Act.put, List.setIfInBounds_toArray, List.set_cons_zero, List.set_cons_succ, i64_w, i32_w]; rfl
          refine pure_ (i := 7) (N := (some 29)) (v := ?_) (a' := ?_) #[true, true, true, true, true, true, true, true, false, false, false, false, false, false, false, false, false, false, false, false, false, false, false, false, false, false, false, false] rfl rfl (by kernel_rfl) (fun _ _ _ h => h) (Or.inl ⟨by rfl, ?_⟩) ?_ ?_
          rotate_left
          · intro w'; go_simp; first | done | with_reducible rfl
          rotate_left
          · simp only [Act.put, List.setIfInBounds_toArray, List.set_cons_zero, List.set_cons_succ, i64_w, i32_w]; rfl
          refine take_ (i := 8) (N := (some 30)) (v := ?_) (a' := ?_) #[true, true, true, true, true, true, true, true, true, false, false, false, false, false, false, false, false, false, false, false, false, false, false, false, false, false, false, false] rfl rfl (by kernel_rfl) (fun _ _ _ h => h) (Or.inl ⟨by rfl, ?_⟩) hHeld ?_ ?_
          rotate_left
          · rintro w' ⟨s0, s1⟩; go_simp; first | done | with_reducible rfl
          rotate_left
          · simp only [Act.put, List.setIfInBounds_toArray, List.set_cons_zero, List.set_cons_succ, i64_w, i32_w]; rfl
          refine pure_ (i := 9) (N := (some 31)) (v := ?_) (a' := ?_) #[true, true, true, true, true, true, true, true, true, true, false, false, false, false, false, false, false, false, false, false, false, false, false, false, false, false, false, false] rfl rfl (by kernel_rfl) (fun _ _ _ h => h) (Or.inl ⟨by rfl, ?_⟩) ?_ ?_
          rotate_left
          · intro w'; go_simp; first | done | with_reducible rfl
          rotate_left
          · simp only [Act.put, List.setIfInBounds_toArray, List.set_cons_zero, List.set_cons_succ, i64_w, i32_w]; rfl
          refine take_ (i := 10) (N := (some 32)) (v := ?_) (a' := ?_) #[true, true, true, true, true, true, true, true, true, true, true, false, false, false, false, false, false, false, false, false, false, false, false, false, false, false, false, false] rfl rfl (by kernel_rfl) (fun _ _ _ h => h) (Or.inl ⟨by rfl, ?_⟩) hHeld ?_ ?_
          rotate_left
          · rintro w' ⟨s0, s1⟩; go_simp; first | done | with_reducible rfl
          rotate_left
          · simp only [Act.put, List.setIfInBounds_toArray, List.set_cons_zero, List.set_cons_succ, i64_w, i32_w]; rfl
          refine pure_ (i := 11) (N := (some 33)) (v := ?_) (a' := ?_) #[true, true, true, true, true, true, true, true, true, true, true, true, false, false, false, false, false, false, false, false, false, false, false, false, false, false, false, false] rfl rfl (by kernel_rfl) (fun _ _ _ h => h) (Or.inl ⟨by rfl, ?_⟩) ?_ ?_
          rotate_left
          · intro w'; go_simp; first | done | with_reducible rfl
          rotate_left
          · simp only [Act.put, List.setIfInBounds_toArray, List.set_cons_zero, List.set_cons_succ, i64_w, i32_w]; rfl
          refine pure_ (i := 12) (N := (some 34)) (v := (.bool false)) (a' := ?_) #[true, true, true, true, true, true, true, true, true, true, true, true, true, false, false, false, false, false, false, false, false, false, false, false, false, false, false, false] rfl rfl (by kernel_rfl) (fun _ _ _ h => h) (Or.inl ⟨by rfl, ?_⟩) ?_ ?_
          · intro w'; go_simp; first | done | with_reducible rfl
          rotate_left
          · simp only [Act.put, List.setIfInBounds_toArray, List.set_cons_zero, List.set_cons_succ, i64_w, i32_w]; rfl
          refine pure_ (i := 13) (N := (some 35)) (v := ?_) (a' := ?_) #[true, true, true, true, true, true, true, true, true, true, true, true, true, true, false, false, false, false, false, false, false, false, false, false, false, false, false, false] rfl rfl (by kernel_rfl) (fun _ _ _ h => h) (Or.inl ⟨by rfl, ?_⟩) ?_ ?_
          rotate_left
          · intro w'; go_simp; first | done | with_reducible rfl
          rotate_left
          · simp only [Act.put, List.setIfInBounds_toArray, List.set_cons_zero, List.set_cons_succ, i64_w, i32_w]; rfl
          refine pure_ (i := 14) (N := (some 36)) (v := ?_) (a' := ?_) #[true, true, true, true, true, true, true, true, true, true, true, true, true, true, true, false, false, false, false, false, false, false, false, false, false, false, false, false] rfl rfl (by kernel_rfl) (fun _ _ _ h => h) (Or.inl ⟨by rfl, ?_⟩) ?_ ?_
          rotate_left
          · intro w'; go_simp; first | done | with_reducible rfl
          rotate_left
          · simp only [Act.put, List.setIfInBounds_toArray, List.set_cons_zero, List.set_cons_succ, i64_w, i32_w]; rfl
          refine pure_ (i := 15) (N := (some 37)) (v := ?_) (a' := ?_) #[true, true, true, true, true, true, true, true, true, true, true, true, true, true, true, true, false, false, false, false, false, false, false, false, false, false, false, false] rfl rfl (by kernel_rfl) (fun _ _ _ h => h) (Or.inl ⟨by rfl, ?_⟩) ?_ ?_
          rotate_left
          · intro w'; go_simp; first | done | with_reducible rfl
          rotate_left
          · simp only [Act.put, List.setIfInBounds_toArray, List.set_cons_zero, List.set_cons_succ, i64_w, i32_w]; rfl
          refine pure_ (i := 16) (N := (some 38)) (v := ?_) (a' := ?_) #[true, true, true, true, true, true, true, true, true, true, true, true, true, true, true, true, true, false, false, false, false, false, false, false, false, false, false, false] rfl rfl (by kernel_rfl) (fun _ _ _ h => h) (Or.inl ⟨by rfl, ?_⟩) ?_ ?_
          rotate_left
          · intro w'; go_simp; first | done | with_reducible rfl
          rotate_left
          · simp only [Act.put, List.setIfInBounds_toArray, List.set_cons_zero, List.set_cons_succ, i64_w, i32_w]; rfl
          refine pure_ (i := 17) (N := (some 39)) (v := ?_) (a' := ?_) #[true, true, true, true, true, true, true, true, true, true, true, true, true, true, true, true, true, true, false, false, false, false, false, false, false, false, false, false] rfl rfl (by kernel_rfl) (fun _ _ _ h => h) (Or.inl ⟨by rfl, ?_⟩) ?_ ?_
          rotate_left
          · intro w'; go_simp; first | done | with_reducible rfl
          rotate_left
          · simp only [Act.put, List.setIfInBounds_toArray, List.set_cons_zero, List.set_cons_succ, i64_w, i32_w]; rfl
          refine off_ (i := 18) (N := (some 40)) #[true, true, true, true, true, true, true, true, true, true, true, true, true, true, true, true, true, true, true, false, false, false, false, false, false, false, false, false] rfl rfl (by kernel_rfl) (fun _ _ _ h => h) (by rfl) (by simp only [Act.put, List.setIfInBounds_toArray, List.set_cons_zero, List.set_cons_succ, i64_w, i32_w]; rfl) ?_
          refine off_ (i := 19) (N := (some 41)) #[true, true, true, true, true, true, true, true, true, true, true, true, true, true, true, true, true, true, true, true, false, false, false, false, false, false, false, false] rfl rfl (by kernel_rfl) (fun _ _ _ h => h) (by rfl) (by simp only [Act.put, List.setIfInBounds_toArray, List.set_cons_zero, List.set_cons_succ, i64_w, i32_w]; rfl) ?_
          refine off_ (i := 20) (N := (some 42)) #[true, true, true, true, true, true, true, true, true, true, true, true, true, true, true, true, true, true, true, true, true, false, false, false, false, false, false, false] rfl rfl (by kernel_rfl) (fun _ _ _ h => h) (by rfl) (by simp only [Act.put, List.setIfInBounds_toArray, List.set_cons_zero, List.set_cons_succ, i64_w, i32_w]; rfl) ?_
          refine off_ (i := 21) (N := (some 43)) #[true, true, true, true, true, true, true, true, true, true, true, true, true, true, true, true, true, true, true, true, true, true, false, false, false, false, false, false] rfl rfl (by kernel_rfl) (fun _ _ _ h => h) (by rfl) (by simp only [Act.put, List.setIfInBounds_toArray, List.set_cons_zero, List.set_cons_succ, i64_w, i32_w]; rfl) ?_
          refine off_ (i := 22) (N := (some 44)) #[true, true, true, true, true, true, true, true, true, true, true, true, true, true, true, true, true, true, true, true, true, true, true, false, false, false, false, false] rfl rfl (by kernel_rfl) (fun _ _ _ h => h) (by rfl) (by simp only [Act.put, List.setIfInBounds_toArray, List.set_cons_zero, List.set_cons_succ, i64_w, i32_w]; rfl) ?_
          refine off_ (i := 23) (N := (some 45)) #[true, true, true, true, true, true, true, true, true, true, true, true, true, true, true, true, true, true, true, true, true, true, true, true, false, false, false, false] rfl rfl (by kernel_rfl) (fun _ _ _ h => h) (by rfl) (by simp only [Act.put, List.setIfInBounds_toArray, List.set_cons_zero, List.set_cons_succ, i64_w, i32_w]; rfl) ?_
          refine off_ (i := 24) (N := (some 46)) #[true, true, true, true, true, true, true, true, true, true, true, true, true, true, true, true, true, true, true, true, true, true, true, true, true, false, false, false] rfl rfl (by kernel_rfl) (fun _ _ _ h => h) (by rfl) (by simp only [Act.put, List.setIfInBounds_toArray, List.set_cons_zero, List.set_cons_succ, i64_w, i32_w]; rfl) ?_
          refine off_ (i := 25) (N := (some 47)) #[true, true, true, true, true, true, true, true, true, true, true, true, true, true, true, true, true, true, true, true, true, true, true, true, true, true, false, false] rfl rfl (by kernel_rfl) (fun _ _ _ h => h) (by rfl) (by simp only [Act.put, List.setIfInBounds_toArray, List.set_cons_zero, List.set_cons_succ, i64_w, i32_w]; rfl) ?_
          refine pure_ (i := 26) (N := (some 48)) (v := ?_) (a' := ?_) #[true, true, true, true, true, true, true, true, true, true, true, true, true, true, true, true, true, true, true, true, true, true, true, true, true, true, true, false] rfl rfl (by kernel_rfl) (fun _ _ _ h => h) (Or.inl ⟨by rfl, ?_⟩) ?_ ?_
          rotate_left
          · intro w'; go_simp; first | done | with_reducible rfl
          rotate_left
          · simp only [Act.put, List.setIfInBounds_toArray, List.set_cons_zero, List.set_cons_succ, i64_w, i32_w]; rfl
          refine pure_ (i := 27) (N := (some 49)) (v := ?_) (a' := ?_) #[true, true, true, true, true, true, true, true, true, true, true, true, true, true, true, true, true, true, true, true, true, true, true, true, true, true, true, true] rfl rfl (by kernel_rfl) (fun _ _ _ h => h) (Or.inl ⟨by rfl, ?_⟩) ?_ ?_
          rotate_left
          · intro w'; go_simp; first | done | with_reducible rfl
          rotate_left
          · simp only [Act.put, List.setIfInBounds_toArray, List.set_cons_zero, List.set_cons_succ, i64_w, i32_w]; rfl
          refine done_ (by kernel_rfl) ?_
          have q0' : wa.drew.cell? ⟨G, 0, none⟩ = some (.int .i64 (x 0)) := by simpa using q0
          have q1' : wa.drew.cell? ⟨G, 1, none⟩ = some (.int .i64 (y 0)) := by simpa using q1
          have HBD := Lib.hid HBA.out.drew
          have HOD := Lib.hid (pw_own_below HOA.out (Below.refl _ wa).drew)
          clear q0 q1 HBA HOA h0 h1 e1 e2 hHeld
          generalize wa.drew = wd at q0' q1' HBD HOD ⊢
          obtain ⟨i0, hi0, hz0, hz1, hz2⟩ := info_parts info63
          have HBD2 := Lib.hid (HBD.out.trans ((below_one (w := wd) (.cells #[.int .i64 (x 0), .int .i64 (y 0)] 63)).mono HBD.out.size))
          have HOE := Lib.hid (pw_own_below HOD.out (below_one (w := wd) (.cells #[.int .i64 (x 0), .int .i64 (y 0)] 63)))
          have HI := Lib.hid hi0
          have HZ := Lib.hid (And.intro hz0 (And.intro hz1 hz2))
          clear hi0 hz0 hz1 hz2
          go_wp2_with (first | (at_builtin; go_loud (refine wpList_append_own_at _ rfl (.tmp 50) (.tmp 52) 67 rfl w.heap.size 63 i0 _ 2 16 Tryd.underlying67 HI.out HZ.out.1 HZ.out.2.1 HZ.out.2.2 rfl (by decide) u4 0 (flat x y 0) rfl HOE.out ⟨wd.heap.size, 0, none⟩ 1 1 [.int .i64 (x 0), .int .i64 (y 0)] rfl rfl (two_new _ _ _ _) (by simp [Value.oneCell']) (by decide) (by decide) HBD2.out.size ?_); intro v1 w1 hown1 hgrow1 _ _; have HOF := Lib.hid hown1; have HBF := Lib.hid (own_grow HBD2.out HOE.out hgrow1); clear hown1 hgrow1) | go_in)
          refine ⟨⟨0 + 1, by omega, by go_num, Lib.hid (goodTo_next HG.out HGK.out), HOF, HBF⟩, by simp [intOf]; omega⟩
        · obtain ⟨m, rfl⟩ : ∃ m, k = m + 1 := ⟨k - 1, by omega⟩
          have hpm := HPA.out
          have q2 := hpm.c0 m (by omega)
          have q3 := hpm.c1 m (by omega)
          have hmn : m < n := by omega
          have e3 : cmpP (x m) (y m) (x (m + 1)) (y (m + 1)) < 0 := by
            rcases hxy with h | h
            · omega
            · simpa using h
          have hwm : wrap64 (m : Int) = m := by unfold wrap64; omega
          clear hpm hxy
          refine start_ (n := 28) (S := fun w' => w'.cell? ⟨G, 0, none⟩ = some (.int .i64 (x (m + 1))) ∧ w'.cell? ⟨G, 1, none⟩ = some (.int .i64 (y (m + 1))) ∧ w'.cell? ⟨b, off + m * 2, none⟩ = some (.int .i64 (x m)) ∧ w'.cell? ⟨b, off + m * 2 + 1, none⟩ = some (.int .i64 (y m))) (ds := []) #[false, false, false, false, false, false, false, false, false, false, false, false, false, false, false, false, false, false, false, false, false, false, false, false, false, false, false, false] (by kernel_rfl) rfl rfl ⟨by simpa using q0, by simpa using q1, by simpa using q2, by simpa using q3⟩ (fun hHeld => ?_)
          refine pure_ (i := 0) (N := (some 22)) (v := ?_) (a' := ?_) #[true, false, false, false, false, false, false, false, false, false, false, false, false, false, false, false, false, false, false, false, false, false, false, false, false, false, false, false] rfl rfl (by kernel_rfl) (fun _ _ _ h => h) (Or.inl ⟨by rfl, ?_⟩) ?_ ?_
          rotate_left
          · intro w'; go_simp; first | done | with_reducible rfl
          rotate_left
          · simp only [Act.put, List.setIfInBounds_toArray, List.set_cons_zero, List.set_cons_succ, i64_w, i32_w]; rfl
          refine take_ (i := 1) (N := (some 23)) (v := ?_) (a' := ?_) #[true, true, false, false, false, false, false, false, false, false, false, false, false, false, false, false, false, false, false, false, false, false, false, false, false, false, false, false] rfl rfl (by kernel_rfl) (fun _ _ _ h => h) (Or.inl ⟨by rfl, ?_⟩) hHeld ?_ ?_
          rotate_left
          · rintro w' ⟨s0, s1, s2, s3⟩; go_simp; first | done | with_reducible rfl
          rotate_left
          · simp only [Act.put, List.setIfInBounds_toArray, List.set_cons_zero, List.set_cons_succ, i64_w, i32_w]; rfl
          refine pure_ (i := 2) (N := (some 24)) (v := ?_) (a' := ?_) #[true, true, true, false, false, false, false, false, false, false, false, false, false, false, false, false, false, false, false, false, false, false, false, false, false, false, false, false] rfl rfl (by kernel_rfl) (fun _ _ _ h => h) (Or.inl ⟨by rfl, ?_⟩) ?_ ?_
          rotate_left
          · intro w'; go_simp; first | done | with_reducible rfl
          rotate_left
          · simp only [Act.put, List.setIfInBounds_toArray, List.set_cons_zero, List.set_cons_succ, i64_w, i32_w]; rfl
          refine take_ (i := 3) (N := (some 25)) (v := ?_) (a' := ?_) #[true, true, true, true, false, false, false, false, false, false, false, false, false, false, false, false, false, false, false, false, false, false, false, false, false, false, false, false] rfl rfl (by kernel_rfl) (fun _ _ _ h => h) (Or.inl ⟨by rfl, ?_⟩) hHeld ?_ ?_
          rotate_left
          · rintro w' ⟨s0, s1, s2, s3⟩; go_simp; first | done | with_reducible rfl
          rotate_left
          · simp only [Act.put, List.setIfInBounds_toArray, List.set_cons_zero, List.set_cons_succ, i64_w, i32_w]; rfl
          refine pure_ (i := 4) (N := (some 26)) (v := ?_) (a' := ?_) #[true, true, true, true, true, false, false, false, false, false, false, false, false, false, false, false, false, false, false, false, false, false, false, false, false, false, false, false] rfl rfl (by kernel_rfl) (fun _ _ _ h => h) (Or.inl ⟨by rfl, ?_⟩) ?_ ?_
          rotate_left
          · intro w'; go_simp; first | done | with_reducible rfl
          rotate_left
          · simp only [Act.put, List.setIfInBounds_toArray, List.set_cons_zero, List.set_cons_succ, i64_w, i32_w]; rfl
          refine pure_ (i := 5) (N := (some 27)) (v := (.bool false)) (a' := ?_) #[true, true, true, true, true, true, false, false, false, false, false, false, false, false, false, false, false, false, false, false, false, false, false, false, false, false, false, false] rfl rfl (by kernel_rfl) (fun _ _ _ h => h) (Or.inl ⟨by rfl, ?_⟩) ?_ ?_
          · intro w'; go_simp; first | done | with_reducible rfl
          rotate_left
          · simp only [Act.put, List.setIfInBounds_toArray, List.set_cons_zero, List.set_cons_succ, i64_w, i32_w]; rfl
          refine pure_ (i := 6) (N := (some 28)) (v := ?_) (a' := ?_) #[true, true, true, true, true, true, true, false, false, false, false, false, false, false, false, false, false, false, false, false, false, false, false, false, false, false, false, false] rfl rfl (by kernel_rfl) (fun _ _ _ h => h) (Or.inl ⟨by rfl, ?_⟩) ?_ ?_
          rotate_left
          · intro w'; go_simp; first | done | with_reducible rfl
          rotate_left
          · simp only [Act.put, List.setIfInBounds_toArray, List.set_cons_zero, List.set_cons_succ, i64_w, i32_w]; rfl
          refine pure_ (i := 7) (N := (some 29)) (v := ?_) (a' := ?_) #[true, true, true, true, true, true, true, true, false, false, false, false, false, false, false, false, false, false, false, false, false, false, false, false, false, false, false, false] rfl rfl (by kernel_rfl) (fun _ _ _ h => h) (Or.inl ⟨by rfl, ?_⟩) ?_ ?_
          rotate_left
          · intro w'; go_simp; first | done | with_reducible rfl
          rotate_left
          · simp only [Act.put, List.setIfInBounds_toArray, List.set_cons_zero, List.set_cons_succ, i64_w, i32_w]; rfl
          refine take_ (i := 8) (N := (some 30)) (v := ?_) (a' := ?_) #[true, true, true, true, true, true, true, true, true, false, false, false, false, false, false, false, false, false, false, false, false, false, false, false, false, false, false, false] rfl rfl (by kernel_rfl) (fun _ _ _ h => h) (Or.inl ⟨by rfl, ?_⟩) hHeld ?_ ?_
          rotate_left
          · rintro w' ⟨s0, s1, s2, s3⟩; go_simp; first | done | with_reducible rfl
          rotate_left
          · simp only [Act.put, List.setIfInBounds_toArray, List.set_cons_zero, List.set_cons_succ, i64_w, i32_w]; rfl
          refine pure_ (i := 9) (N := (some 31)) (v := ?_) (a' := ?_) #[true, true, true, true, true, true, true, true, true, true, false, false, false, false, false, false, false, false, false, false, false, false, false, false, false, false, false, false] rfl rfl (by kernel_rfl) (fun _ _ _ h => h) (Or.inl ⟨by rfl, ?_⟩) ?_ ?_
          rotate_left
          · intro w'; go_simp; first | done | with_reducible rfl
          rotate_left
          · simp only [Act.put, List.setIfInBounds_toArray, List.set_cons_zero, List.set_cons_succ, i64_w, i32_w]; rfl
          refine take_ (i := 10) (N := (some 32)) (v := ?_) (a' := ?_) #[true, true, true, true, true, true, true, true, true, true, true, false, false, false, false, false, false, false, false, false, false, false, false, false, false, false, false, false] rfl rfl (by kernel_rfl) (fun _ _ _ h => h) (Or.inl ⟨by rfl, ?_⟩) hHeld ?_ ?_
          rotate_left
          · rintro w' ⟨s0, s1, s2, s3⟩; go_simp; first | done | with_reducible rfl
          rotate_left
          · simp only [Act.put, List.setIfInBounds_toArray, List.set_cons_zero, List.set_cons_succ, i64_w, i32_w]; rfl
          refine pure_ (i := 11) (N := (some 33)) (v := ?_) (a' := ?_) #[true, true, true, true, true, true, true, true, true, true, true, true, false, false, false, false, false, false, false, false, false, false, false, false, false, false, false, false] rfl rfl (by kernel_rfl) (fun _ _ _ h => h) (Or.inl ⟨by rfl, ?_⟩) ?_ ?_
          rotate_left
          · intro w'; go_simp; first | done | with_reducible rfl
          rotate_left
          · simp only [Act.put, List.setIfInBounds_toArray, List.set_cons_zero, List.set_cons_succ, i64_w, i32_w]; rfl
          refine pure_ (i := 12) (N := (some 34)) (v := (.bool false)) (a' := ?_) #[true, true, true, true, true, true, true, true, true, true, true, true, true, false, false, false, false, false, false, false, false, false, false, false, false, false, false, false] rfl rfl (by kernel_rfl) (fun _ _ _ h => h) (Or.inl ⟨by rfl, ?_⟩) ?_ ?_
          · intro w'; go_simp; first | done | with_reducible rfl
          rotate_left
          · simp only [Act.put, List.setIfInBounds_toArray, List.set_cons_zero, List.set_cons_succ, i64_w, i32_w]; rfl
          refine pure_ (i := 13) (N := (some 35)) (v := ?_) (a' := ?_) #[true, true, true, true, true, true, true, true, true, true, true, true, true, true, false, false, false, false, false, false, false, false, false, false, false, false, false, false] rfl rfl (by kernel_rfl) (fun _ _ _ h => h) (Or.inl ⟨by rfl, ?_⟩) ?_ ?_
          rotate_left
          · intro w'; go_simp; first | done | with_reducible rfl
          rotate_left
          · simp only [Act.put, List.setIfInBounds_toArray, List.set_cons_zero, List.set_cons_succ, i64_w, i32_w]; rfl
          refine pure_ (i := 14) (N := (some 36)) (v := ?_) (a' := ?_) #[true, true, true, true, true, true, true, true, true, true, true, true, true, true, true, false, false, false, false, false, false, false, false, false, false, false, false, false] rfl rfl (by kernel_rfl) (fun _ _ _ h => h) (Or.inl ⟨by rfl, ?_⟩) ?_ ?_
          rotate_left
          · intro w'; go_simp; first | done | with_reducible rfl
          rotate_left
          · simp only [Act.put, List.setIfInBounds_toArray, List.set_cons_zero, List.set_cons_succ, i64_w, i32_w]; rfl
          refine pure_ (i := 15) (N := (some 37)) (v := ?_) (a' := ?_) #[true, true, true, true, true, true, true, true, true, true, true, true, true, true, true, true, false, false, false, false, false, false, false, false, false, false, false, false] rfl rfl (by kernel_rfl) (fun _ _ _ h => h) (Or.inl ⟨by rfl, ?_⟩) ?_ ?_
          rotate_left
          · intro w'; go_simp; first | done | with_reducible rfl
          rotate_left
          · simp only [Act.put, List.setIfInBounds_toArray, List.set_cons_zero, List.set_cons_succ, i64_w, i32_w]; rfl
          refine pure_ (i := 16) (N := (some 38)) (v := ?_) (a' := ?_) #[true, true, true, true, true, true, true, true, true, true, true, true, true, true, true, true, true, false, false, false, false, false, false, false, false, false, false, false] rfl rfl (by kernel_rfl) (fun _ _ _ h => h) (Or.inl ⟨by rfl, ?_⟩) ?_ ?_
          rotate_left
          · intro w'; go_simp; first | done | with_reducible rfl
          rotate_left
          · simp only [Act.put, List.setIfInBounds_toArray, List.set_cons_zero, List.set_cons_succ, i64_w, i32_w]; rfl
          refine pure_ (i := 17) (N := (some 39)) (v := ?_) (a' := ?_) #[true, true, true, true, true, true, true, true, true, true, true, true, true, true, true, true, true, true, false, false, false, false, false, false, false, false, false, false] rfl rfl (by kernel_rfl) (fun _ _ _ h => h) (Or.inl ⟨by rfl, ?_⟩) ?_ ?_
          rotate_left
          · intro w'; go_simp; first | done | with_reducible rfl
          rotate_left
          · simp only [Act.put, List.setIfInBounds_toArray, List.set_cons_zero, List.set_cons_succ, i64_w, i32_w]; rfl
          refine pure_ (i := 18) (N := (some 40)) (v := ?_) (a' := ?_) #[true, true, true, true, true, true, true, true, true, true, true, true, true, true, true, true, true, true, true, false, false, false, false, false, false, false, false, false] rfl rfl (by kernel_rfl) (fun _ _ _ h => h) (Or.inl ⟨by rfl, ?_⟩) ?_ ?_
          rotate_left
          · intro w'; go_simp; first | done | with_reducible rfl
          rotate_left
          · simp only [Act.put, List.setIfInBounds_toArray, List.set_cons_zero, List.set_cons_succ, i64_w, i32_w]; rfl
          refine pure_ (i := 19) (N := (some 41)) (v := ?_) (a' := ?_) #[true, true, true, true, true, true, true, true, true, true, true, true, true, true, true, true, true, true, true, true, false, false, false, false, false, false, false, false] rfl rfl (by kernel_rfl) (fun _ _ _ h => h) (Or.inl ⟨by rfl, ?_⟩) ?_ ?_
          rotate_left
          · intro w'; go_simp; first | done | with_reducible rfl
          rotate_left
          · simp only [Act.put, List.setIfInBounds_toArray, List.set_cons_zero, List.set_cons_succ, i64_w, i32_w]; rfl
          refine pure_ (i := 20) (N := (some 42)) (v := ?_) (a' := ?_) #[true, true, true, true, true, true, true, true, true, true, true, true, true, true, true, true, true, true, true, true, true, false, false, false, false, false, false, false] rfl rfl (by kernel_rfl) (fun _ _ _ h => h) (Or.inl ⟨by rfl, ?_⟩) ?_ ?_
          rotate_left
          · intro w'; go_simp; first | done | with_reducible rfl
          rotate_left
          · simp only [Act.put, List.setIfInBounds_toArray, List.set_cons_zero, List.set_cons_succ, i64_w, i32_w]; rfl
          refine pure_ (i := 21) (N := (some 43)) (v := ?_) (a' := ?_) #[true, true, true, true, true, true, true, true, true, true, true, true, true, true, true, true, true, true, true, true, true, true, false, false, false, false, false, false] rfl rfl (by kernel_rfl) (fun _ _ _ h => h) (Or.inl ⟨by rfl, ?_⟩) ?_ ?_
          rotate_left
          · intro w'; go_simp; first | done | with_reducible rfl
          rotate_left
          · simp only [Act.put, List.setIfInBounds_toArray, List.set_cons_zero, List.set_cons_succ, i64_w, i32_w]; rfl
          refine take_ (i := 22) (N := (some 44)) (v := ?_) (a' := ?_) #[true, true, true, true, true, true, true, true, true, true, true, true, true, true, true, true, true, true, true, true, true, true, true, false, false, false, false, false] rfl rfl (by kernel_rfl) (fun _ _ _ h => h) (Or.inl ⟨by rfl, ?_⟩) hHeld ?_ ?_
          rotate_left
          · rintro w' ⟨s0, s1, s2, s3⟩; go_simp; first | done | with_reducible rfl
          rotate_left
          · simp only [Act.put, List.setIfInBounds_toArray, List.set_cons_zero, List.set_cons_succ, i64_w, i32_w]; rfl
          refine take_ (i := 23) (N := (some 45)) (v := ?_) (a' := ?_) #[true, true, true, true, true, true, true, true, true, true, true, true, true, true, true, true, true, true, true, true, true, true, true, true, false, false, false, false] rfl rfl (by kernel_rfl) (fun _ _ _ h => h) (Or.inl ⟨by rfl, ?_⟩) hHeld ?_ ?_
          rotate_left
          · rintro w' ⟨s0, s1, s2, s3⟩; go_simp; first | done | with_reducible rfl
          rotate_left
          · simp only [Act.put, List.setIfInBounds_toArray, List.set_cons_zero, List.set_cons_succ, i64_w, i32_w]; rfl
          refine one_ (i := 24) (N := (some 46)) #[true, true, true, true, true, true, true, true, true, true, true, true, true, true, true, true, true, true, true, true, true, true, true, true, true, false, false, false] rfl rfl (by kernel_rfl) (by decide) (fun K hK => ?_)
          refine goes_ Tryd.func67 (by kernel_rfl) rfl #[ptV (x m) (y m), ptV (x (m + 1)) (y (m + 1))] (by rfl) rfl rfl (by (try simp only [List.map_toArray, List.map_cons, List.map_nil]); first | done | rfl) ?_
          refine (compare_calls _ _ _ _ _).mono ?_
          rintro e wc ⟨rfl, hbc⟩
          refine ⟨_, rfl, ?_⟩
          have HBC := Lib.hid (HBA.out.drew.trans (hbc.mono HBA.out.drew.size))
          have HOC := Lib.hid (pw_own_below (pw_own_below HOA.out (Below.refl _ wa).drew) hbc)
          obtain ⟨g0, g1, g2, g3⟩ := hHeld
          have g0' := (hbc.cell (p := ⟨G, 0, none⟩) (World.block_lt_of_cell? _ _ g0)).trans g0
          have g1' := (hbc.cell (p := ⟨G, 1, none⟩) (World.block_lt_of_cell? _ _ g1)).trans g1
          have g2' := (hbc.cell (p := ⟨b, off + m * 2, none⟩) (World.block_lt_of_cell? _ _ g2)).trans g2
          have g3' := (hbc.cell (p := ⟨b, off + m * 2 + 1, none⟩) (World.block_lt_of_cell? _ _ g3)).trans g3
          refine hK.out _ _ ⟨g0', g1', g2', g3'⟩ (fun hHeld => ?_)
          clear hK K
          refine norm_ (a' := ?_) ?_ ?_
          rotate_left
          · show Act.put _ (some 46) _ = _; simp only [Act.put, List.setIfInBounds_toArray, List.set_cons_zero, List.set_cons_succ, i64_w, i32_w]; rfl
          refine pure_ (i := 25) (N := (some 47)) (v := (.bool false)) (a' := ?_) #[true, true, true, true, true, true, true, true, true, true, true, true, true, true, true, true, true, true, true, true, true, true, true, true, true, true, false, false] rfl rfl (by kernel_rfl) (fun _ _ _ h => h) (Or.inl ⟨by rfl, ?_⟩) ?_ ?_
          · intro w'; go_simp; first | done | with_reducible rfl
          rotate_left
          · simp only [Act.put, List.setIfInBounds_toArray, List.set_cons_zero, List.set_cons_succ, i64_w, i32_w]; rfl
          refine pure_ (i := 26) (N := (some 48)) (v := ?_) (a' := ?_) #[true, true, true, true, true, true, true, true, true, true, true, true, true, true, true, true, true, true, true, true, true, true, true, true, true, true, true, false] rfl rfl (by kernel_rfl) (fun _ _ _ h => h) (Or.inl ⟨by rfl, ?_⟩) ?_ ?_
          rotate_left
          · intro w'; go_simp; first | done | with_reducible rfl
          rotate_left
          · simp only [Act.put, List.setIfInBounds_toArray, List.set_cons_zero, List.set_cons_succ, i64_w, i32_w]; rfl
          refine pure_ (i := 27) (N := (some 49)) (v := ?_) (a' := ?_) #[true, true, true, true, true, true, true, true, true, true, true, true, true, true, true, true, true, true, true, true, true, true, true, true, true, true, true, true] rfl rfl (by kernel_rfl) (fun _ _ _ h => h) (Or.inl ⟨by rfl, ?_⟩) ?_ ?_
          rotate_left
          · intro w'; go_simp; first | done | with_reducible rfl
          rotate_left
          · simp only [Act.put, List.setIfInBounds_toArray, List.set_cons_zero, List.set_cons_succ, i64_w, i32_w]; rfl
          refine done_ (by kernel_rfl) ?_
          obtain ⟨q0', q1', _, _⟩ := hHeld
          have HBD := Lib.hid HBC.out
          have HOD := Lib.hid HOC.out
          clear q0 q1 q2 q3 HBA HOA h0 h1 e1 e2 e3 HBC HOC
          generalize wc = wd at q0' q1' HBD HOD ⊢
          obtain ⟨i0, hi0, hz0, hz1, hz2⟩ := info_parts info63
          have HBD2 := Lib.hid (HBD.out.trans ((below_one (w := wd) (.cells #[.int .i64 (x (m + 1)), .int .i64 (y (m + 1))] 63)).mono HBD.out.size))
          have HOE := Lib.hid (pw_own_below HOD.out (below_one (w := wd) (.cells #[.int .i64 (x (m + 1)), .int .i64 (y (m + 1))] 63)))
          have HI := Lib.hid hi0
          have HZ := Lib.hid (And.intro hz0 (And.intro hz1 hz2))
          clear hi0 hz0 hz1 hz2
          go_wp2_with (first | (at_builtin; go_loud (refine wpList_append_own_at _ rfl (.tmp 50) (.tmp 52) 67 rfl w.heap.size 63 i0 _ 2 16 Tryd.underlying67 HI.out HZ.out.1 HZ.out.2.1 HZ.out.2.2 rfl (by decide) u4 (m + 1) (flat x y (m + 1)) rfl HOE.out ⟨wd.heap.size, 0, none⟩ 1 1 [.int .i64 (x (m + 1)), .int .i64 (y (m + 1))] rfl rfl (two_new _ _ _ _) (by simp [Value.oneCell']) (by unfold maxLen; omega) (by omega) HBD2.out.size ?_); intro v1 w1 hown1 hgrow1 _ _; have HOF := Lib.hid hown1; have HBF := Lib.hid (own_grow HBD2.out HOE.out hgrow1); clear hown1 hgrow1) | go_in)
          refine ⟨⟨m + 1 + 1, by omega, by go_num, Lib.hid (goodTo_next HG.out HGK.out), HOF, HBF⟩, by simp [intOf]; omega⟩
      · have HGN := Lib.hid (goodTo_bad hlt hgk)
        by_cases e1 : max (x k) (y k) ≤ 100
        · by_cases e2 : -100 ≤ min (x k) (y k)
          · have hxy : k ≠ 0 ∧ 0 ≤ cmpP (x (k - 1)) (y (k - 1)) (x k) (y k) := by
              by_cases h : k = 0
              · exact absurd ⟨by omega, .inl h⟩ hgk
              · refine ⟨h, ?_⟩
                have := fun q => hgk ⟨by omega, .inr q⟩
                omega
            obtain ⟨hk0, hxy⟩ := hxy
            clear hgk
            obtain ⟨m, rfl⟩ : ∃ m, k = m + 1 := ⟨k - 1, by omega⟩
            have hpm := HPA.out
            have q2 := hpm.c0 m (by omega)
            have q3 := hpm.c1 m (by omega)
            have hmn : m < n := by omega
            have e3 : 0 ≤ cmpP (x m) (y m) (x (m + 1)) (y (m + 1)) := by simpa using hxy
            have hwm : wrap64 (m : Int) = m := by unfold wrap64; omega
            clear hpm hxy
            refine start_ (n := 28) (S := fun w' => w'.cell? ⟨G, 0, none⟩ = some (.int .i64 (x (m + 1))) ∧ w'.cell? ⟨G, 1, none⟩ = some (.int .i64 (y (m + 1))) ∧ w'.cell? ⟨b, off + m * 2, none⟩ = some (.int .i64 (x m)) ∧ w'.cell? ⟨b, off + m * 2 + 1, none⟩ = some (.int .i64 (y m))) (ds := []) #[false, false, false, false, false, false, false, false, false, false, false, false, false, false, false, false, false, false, false, false, false, false, false, false, false, false, false, false] (by kernel_rfl) rfl rfl ⟨by simpa using q0, by simpa using q1, by simpa using q2, by simpa using q3⟩ (fun hHeld => ?_)
            refine pure_ (i := 0) (N := (some 22)) (v := ?_) (a' := ?_) #[true, false, false, false, false, false, false, false, false, false, false, false, false, false, false, false, false, false, false, false, false, false, false, false, false, false, false, false] rfl rfl (by kernel_rfl) (fun _ _ _ h => h) (Or.inl ⟨by rfl, ?_⟩) ?_ ?_
            rotate_left
            · intro w'; go_simp; first | done | with_reducible rfl
            rotate_left
            · simp only [Act.put, List.setIfInBounds_toArray, List.set_cons_zero, List.set_cons_succ, i64_w, i32_w]; rfl
            refine take_ (i := 1) (N := (some 23)) (v := ?_) (a' := ?_) #[true, true, false, false, false, false, false, false, false, false, false, false, false, false, false, false, false, false, false, false, false, false, false, false, false, false, false, false] rfl rfl (by kernel_rfl) (fun _ _ _ h => h) (Or.inl ⟨by rfl, ?_⟩) hHeld ?_ ?_
            rotate_left
            · rintro w' ⟨s0, s1, s2, s3⟩; go_simp; first | done | with_reducible rfl
            rotate_left
            · simp only [Act.put, List.setIfInBounds_toArray, List.set_cons_zero, List.set_cons_succ, i64_w, i32_w]; rfl
            refine pure_ (i := 2) (N := (some 24)) (v := ?_) (a' := ?_) #[true, true, true, false, false, false, false, false, false, false, false, false, false, false, false, false, false, false, false, false, false, false, false, false, false, false, false, false] rfl rfl (by kernel_rfl) (fun _ _ _ h => h) (Or.inl ⟨by rfl, ?_⟩) ?_ ?_
            rotate_left
            · intro w'; go_simp; first | done | with_reducible rfl
            rotate_left
            · simp only [Act.put, List.setIfInBounds_toArray, List.set_cons_zero, List.set_cons_succ, i64_w, i32_w]; rfl
            refine take_ (i := 3) (N := (some 25)) (v := ?_) (a' := ?_) #[true, true, true, true, false, false, false, false, false, false, false, false, false, false, false, false, false, false, false, false, false, false, false, false, false, false, false, false] rfl rfl (by kernel_rfl) (fun _ _ _ h => h) (Or.inl ⟨by rfl, ?_⟩) hHeld ?_ ?_
            rotate_left
            · rintro w' ⟨s0, s1, s2, s3⟩; go_simp; first | done | with_reducible rfl
            rotate_left
            · simp only [Act.put, List.setIfInBounds_toArray, List.set_cons_zero, List.set_cons_succ, i64_w, i32_w]; rfl
            refine pure_ (i := 4) (N := (some 26)) (v := ?_) (a' := ?_) #[true, true, true, true, true, false, false, false, false, false, false, false, false, false, false, false, false, false, false, false, false, false, false, false, false, false, false, false] rfl rfl (by kernel_rfl) (fun _ _ _ h => h) (Or.inl ⟨by rfl, ?_⟩) ?_ ?_
            rotate_left
            · intro w'; go_simp; first | done | with_reducible rfl
            rotate_left
            · simp only [Act.put, List.setIfInBounds_toArray, List.set_cons_zero, List.set_cons_succ, i64_w, i32_w]; rfl
            refine pure_ (i := 5) (N := (some 27)) (v := (.bool false)) (a' := ?_) #[true, true, true, true, true, true, false, false, false, false, false, false, false, false, false, false, false, false, false, false, false, false, false, false, false, false, false, false] rfl rfl (by kernel_rfl) (fun _ _ _ h => h) (Or.inl ⟨by rfl, ?_⟩) ?_ ?_
            · intro w'; go_simp; first | done | with_reducible rfl
            rotate_left
            · simp only [Act.put, List.setIfInBounds_toArray, List.set_cons_zero, List.set_cons_succ, i64_w, i32_w]; rfl
            refine pure_ (i := 6) (N := (some 28)) (v := ?_) (a' := ?_) #[true, true, true, true, true, true, true, false, false, false, false, false, false, false, false, false, false, false, false, false, false, false, false, false, false, false, false, false] rfl rfl (by kernel_rfl) (fun _ _ _ h => h) (Or.inl ⟨by rfl, ?_⟩) ?_ ?_
            rotate_left
            · intro w'; go_simp; first | done | with_reducible rfl
            rotate_left
            · simp only [Act.put, List.setIfInBounds_toArray, List.set_cons_zero, List.set_cons_succ, i64_w, i32_w]; rfl
            refine pure_ (i := 7) (N := (some 29)) (v := ?_) (a' := ?_) #[true, true, true, true, true, true, true, true, false, false, false, false, false, false, false, false, false, false, false, false, false, false, false, false, false, false, false, false] rfl rfl (by kernel_rfl) (fun _ _ _ h => h) (Or.inl ⟨by rfl, ?_⟩) ?_ ?_
            rotate_left
            · intro w'; go_simp; first | done | with_reducible rfl
            rotate_left
            · simp only [Act.put, List.setIfInBounds_toArray, List.set_cons_zero, List.set_cons_succ, i64_w, i32_w]; rfl
            refine take_ (i := 8) (N := (some 30)) (v := ?_) (a' := ?_) #[true, true, true, true, true, true, true, true, true, false, false, false, false, false, false, false, false, false, false, false, false, false, false, false, false, false, false, false] rfl rfl (by kernel_rfl) (fun _ _ _ h => h) (Or.inl ⟨by rfl, ?_⟩) hHeld ?_ ?_
            rotate_left
            · rintro w' ⟨s0, s1, s2, s3⟩; go_simp; first | done | with_reducible rfl
            rotate_left
            · simp only [Act.put, List.setIfInBounds_toArray, List.set_cons_zero, List.set_cons_succ, i64_w, i32_w]; rfl
            refine pure_ (i := 9) (N := (some 31)) (v := ?_) (a' := ?_) #[true, true, true, true, true, true, true, true, true, true, false, false, false, false, false, false, false, false, false, false, false, false, false, false, false, false, false, false] rfl rfl (by kernel_rfl) (fun _ _ _ h => h) (Or.inl ⟨by rfl, ?_⟩) ?_ ?_
            rotate_left
            · intro w'; go_simp; first | done | with_reducible rfl
            rotate_left
            · simp only [Act.put, List.setIfInBounds_toArray, List.set_cons_zero, List.set_cons_succ, i64_w, i32_w]; rfl
            refine take_ (i := 10) (N := (some 32)) (v := ?_) (a' := ?_) #[true, true, true, true, true, true, true, true, true, true, true, false, false, false, false, false, false, false, false, false, false, false, false, false, false, false, false, false] rfl rfl (by kernel_rfl) (fun _ _ _ h => h) (Or.inl ⟨by rfl, ?_⟩) hHeld ?_ ?_
            rotate_left
            · rintro w' ⟨s0, s1, s2, s3⟩; go_simp; first | done | with_reducible rfl
            rotate_left
            · simp only [Act.put, List.setIfInBounds_toArray, List.set_cons_zero, List.set_cons_succ, i64_w, i32_w]; rfl
            refine pure_ (i := 11) (N := (some 33)) (v := ?_) (a' := ?_) #[true, true, true, true, true, true, true, true, true, true, true, true, false, false, false, false, false, false, false, false, false, false, false, false, false, false, false, false] rfl rfl (by kernel_rfl) (fun _ _ _ h => h) (Or.inl ⟨by rfl, ?_⟩) ?_ ?_
            rotate_left
            · intro w'; go_simp; first | done | with_reducible rfl
            rotate_left
            · simp only [Act.put, List.setIfInBounds_toArray, List.set_cons_zero, List.set_cons_succ, i64_w, i32_w]; rfl
            refine pure_ (i := 12) (N := (some 34)) (v := (.bool false)) (a' := ?_) #[true, true, true, true, true, true, true, true, true, true, true, true, true, false, false, false, false, false, false, false, false, false, false, false, false, false, false, false] rfl rfl (by kernel_rfl) (fun _ _ _ h => h) (Or.inl ⟨by rfl, ?_⟩) ?_ ?_
            · intro w'; go_simp; first | done | with_reducible rfl
            rotate_left
            · simp only [Act.put, List.setIfInBounds_toArray, List.set_cons_zero, List.set_cons_succ, i64_w, i32_w]; rfl
            refine pure_ (i := 13) (N := (some 35)) (v := ?_) (a' := ?_) #[true, true, true, true, true, true, true, true, true, true, true, true, true, true, false, false, false, false, false, false, false, false, false, false, false, false, false, false] rfl rfl (by kernel_rfl) (fun _ _ _ h => h) (Or.inl ⟨by rfl, ?_⟩) ?_ ?_
            rotate_left
            · intro w'; go_simp; first | done | with_reducible rfl
            rotate_left
            · simp only [Act.put, List.setIfInBounds_toArray, List.set_cons_zero, List.set_cons_succ, i64_w, i32_w]; rfl
            refine pure_ (i := 14) (N := (some 36)) (v := ?_) (a' := ?_) #[true, true, true, true, true, true, true, true, true, true, true, true, true, true, true, false, false, false, false, false, false, false, false, false, false, false, false, false] rfl rfl (by kernel_rfl) (fun _ _ _ h => h) (Or.inl ⟨by rfl, ?_⟩) ?_ ?_
            rotate_left
            · intro w'; go_simp; first | done | with_reducible rfl
            rotate_left
            · simp only [Act.put, List.setIfInBounds_toArray, List.set_cons_zero, List.set_cons_succ, i64_w, i32_w]; rfl
            refine pure_ (i := 15) (N := (some 37)) (v := ?_) (a' := ?_) #[true, true, true, true, true, true, true, true, true, true, true, true, true, true, true, true, false, false, false, false, false, false, false, false, false, false, false, false] rfl rfl (by kernel_rfl) (fun _ _ _ h => h) (Or.inl ⟨by rfl, ?_⟩) ?_ ?_
            rotate_left
            · intro w'; go_simp; first | done | with_reducible rfl
            rotate_left
            · simp only [Act.put, List.setIfInBounds_toArray, List.set_cons_zero, List.set_cons_succ, i64_w, i32_w]; rfl
            refine pure_ (i := 16) (N := (some 38)) (v := ?_) (a' := ?_) #[true, true, true, true, true, true, true, true, true, true, true, true, true, true, true, true, true, false, false, false, false, false, false, false, false, false, false, false] rfl rfl (by kernel_rfl) (fun _ _ _ h => h) (Or.inl ⟨by rfl, ?_⟩) ?_ ?_
            rotate_left
            · intro w'; go_simp; first | done | with_reducible rfl
            rotate_left
            · simp only [Act.put, List.setIfInBounds_toArray, List.set_cons_zero, List.set_cons_succ, i64_w, i32_w]; rfl
            refine pure_ (i := 17) (N := (some 39)) (v := ?_) (a' := ?_) #[true, true, true, true, true, true, true, true, true, true, true, true, true, true, true, true, true, true, false, false, false, false, false, false, false, false, false, false] rfl rfl (by kernel_rfl) (fun _ _ _ h => h) (Or.inl ⟨by rfl, ?_⟩) ?_ ?_
            rotate_left
            · intro w'; go_simp; first | done | with_reducible rfl
            rotate_left
            · simp only [Act.put, List.setIfInBounds_toArray, List.set_cons_zero, List.set_cons_succ, i64_w, i32_w]; rfl
            refine pure_ (i := 18) (N := (some 40)) (v := ?_) (a' := ?_) #[true, true, true, true, true, true, true, true, true, true, true, true, true, true, true, true, true, true, true, false, false, false, false, false, false, false, false, false] rfl rfl (by kernel_rfl) (fun _ _ _ h => h) (Or.inl ⟨by rfl, ?_⟩) ?_ ?_
            rotate_left
            · intro w'; go_simp; first | done | with_reducible rfl
            rotate_left
            · simp only [Act.put, List.setIfInBounds_toArray, List.set_cons_zero, List.set_cons_succ, i64_w, i32_w]; rfl
            refine pure_ (i := 19) (N := (some 41)) (v := ?_) (a' := ?_) #[true, true, true, true, true, true, true, true, true, true, true, true, true, true, true, true, true, true, true, true, false, false, false, false, false, false, false, false] rfl rfl (by kernel_rfl) (fun _ _ _ h => h) (Or.inl ⟨by rfl, ?_⟩) ?_ ?_
            rotate_left
            · intro w'; go_simp; first | done | with_reducible rfl
            rotate_left
            · simp only [Act.put, List.setIfInBounds_toArray, List.set_cons_zero, List.set_cons_succ, i64_w, i32_w]; rfl
            refine pure_ (i := 20) (N := (some 42)) (v := ?_) (a' := ?_) #[true, true, true, true, true, true, true, true, true, true, true, true, true, true, true, true, true, true, true, true, true, false, false, false, false, false, false, false] rfl rfl (by kernel_rfl) (fun _ _ _ h => h) (Or.inl ⟨by rfl, ?_⟩) ?_ ?_
            rotate_left
            · intro w'; go_simp; first | done | with_reducible rfl
            rotate_left
            · simp only [Act.put, List.setIfInBounds_toArray, List.set_cons_zero, List.set_cons_succ, i64_w, i32_w]; rfl
            refine pure_ (i := 21) (N := (some 43)) (v := ?_) (a' := ?_) #[true, true, true, true, true, true, true, true, true, true, true, true, true, true, true, true, true, true, true, true, true, true, false, false, false, false, false, false] rfl rfl (by kernel_rfl) (fun _ _ _ h => h) (Or.inl ⟨by rfl, ?_⟩) ?_ ?_
            rotate_left
            · intro w'; go_simp; first | done | with_reducible rfl
            rotate_left
            · simp only [Act.put, List.setIfInBounds_toArray, List.set_cons_zero, List.set_cons_succ, i64_w, i32_w]; rfl
            refine take_ (i := 22) (N := (some 44)) (v := ?_) (a' := ?_) #[true, true, true, true, true, true, true, true, true, true, true, true, true, true, true, true, true, true, true, true, true, true, true, false, false, false, false, false] rfl rfl (by kernel_rfl) (fun _ _ _ h => h) (Or.inl ⟨by rfl, ?_⟩) hHeld ?_ ?_
            rotate_left
            · rintro w' ⟨s0, s1, s2, s3⟩; go_simp; first | done | with_reducible rfl
            rotate_left
            · simp only [Act.put, List.setIfInBounds_toArray, List.set_cons_zero, List.set_cons_succ, i64_w, i32_w]; rfl
            refine take_ (i := 23) (N := (some 45)) (v := ?_) (a' := ?_) #[true, true, true, true, true, true, true, true, true, true, true, true, true, true, true, true, true, true, true, true, true, true, true, true, false, false, false, false] rfl rfl (by kernel_rfl) (fun _ _ _ h => h) (Or.inl ⟨by rfl, ?_⟩) hHeld ?_ ?_
            rotate_left
            · rintro w' ⟨s0, s1, s2, s3⟩; go_simp; first | done | with_reducible rfl
            rotate_left
            · simp only [Act.put, List.setIfInBounds_toArray, List.set_cons_zero, List.set_cons_succ, i64_w, i32_w]; rfl
            refine one_ (i := 24) (N := (some 46)) #[true, true, true, true, true, true, true, true, true, true, true, true, true, true, true, true, true, true, true, true, true, true, true, true, true, false, false, false] rfl rfl (by kernel_rfl) (by decide) (fun K hK => ?_)
            refine goes_ Tryd.func67 (by kernel_rfl) rfl #[ptV (x m) (y m), ptV (x (m + 1)) (y (m + 1))] (by rfl) rfl rfl (by (try simp only [List.map_toArray, List.map_cons, List.map_nil]); first | done | rfl) ?_
            refine (compare_calls _ _ _ _ _).mono ?_
            rintro e wc ⟨rfl, hbc⟩
            refine ⟨_, rfl, ?_⟩
            have HBC := Lib.hid (HBA.out.drew.trans (hbc.mono HBA.out.drew.size))
            have HOC := Lib.hid (pw_own_below (pw_own_below HOA.out (Below.refl _ wa).drew) hbc)
            obtain ⟨g0, g1, g2, g3⟩ := hHeld
            have g0' := (hbc.cell (p := ⟨G, 0, none⟩) (World.block_lt_of_cell? _ _ g0)).trans g0
            have g1' := (hbc.cell (p := ⟨G, 1, none⟩) (World.block_lt_of_cell? _ _ g1)).trans g1
            have g2' := (hbc.cell (p := ⟨b, off + m * 2, none⟩) (World.block_lt_of_cell? _ _ g2)).trans g2
            have g3' := (hbc.cell (p := ⟨b, off + m * 2 + 1, none⟩) (World.block_lt_of_cell? _ _ g3)).trans g3
            refine hK.out _ _ ⟨g0', g1', g2', g3'⟩ (fun hHeld => ?_)
            clear hK K
            refine norm_ (a' := ?_) ?_ ?_
            rotate_left
            · show Act.put _ (some 46) _ = _; simp only [Act.put, List.setIfInBounds_toArray, List.set_cons_zero, List.set_cons_succ, i64_w, i32_w]; rfl
            refine pure_ (i := 25) (N := (some 47)) (v := (.bool true)) (a' := ?_) #[true, true, true, true, true, true, true, true, true, true, true, true, true, true, true, true, true, true, true, true, true, true, true, true, true, true, false, false] rfl rfl (by kernel_rfl) (fun _ _ _ h => h) (Or.inl ⟨by rfl, ?_⟩) ?_ ?_
            · intro w'; go_simp; first | done | with_reducible rfl
            rotate_left
            · simp only [Act.put, List.setIfInBounds_toArray, List.set_cons_zero, List.set_cons_succ, i64_w, i32_w]; rfl
            refine pure_ (i := 26) (N := (some 48)) (v := ?_) (a' := ?_) #[true, true, true, true, true, true, true, true, true, true, true, true, true, true, true, true, true, true, true, true, true, true, true, true, true, true, true, false] rfl rfl (by kernel_rfl) (fun _ _ _ h => h) (Or.inl ⟨by rfl, ?_⟩) ?_ ?_
            rotate_left
            · intro w'; go_simp; first | done | with_reducible rfl
            rotate_left
            · simp only [Act.put, List.setIfInBounds_toArray, List.set_cons_zero, List.set_cons_succ, i64_w, i32_w]; rfl
            refine pure_ (i := 27) (N := (some 49)) (v := ?_) (a' := ?_) #[true, true, true, true, true, true, true, true, true, true, true, true, true, true, true, true, true, true, true, true, true, true, true, true, true, true, true, true] rfl rfl (by kernel_rfl) (fun _ _ _ h => h) (Or.inl ⟨by rfl, ?_⟩) ?_ ?_
            rotate_left
            · intro w'; go_simp; first | done | with_reducible rfl
            rotate_left
            · simp only [Act.put, List.setIfInBounds_toArray, List.set_cons_zero, List.set_cons_succ, i64_w, i32_w]; rfl
            refine done_ (by kernel_rfl) ?_
            have HBD := Lib.hid HBC.out
            clear q0 q1 q2 q3 HBA HOA h0 h1 e1 e2 e3 HOC hHeld g0 g1 g2 g3
            generalize wc = wd at HBD ⊢
            go_wp2
            go_ret2
            exact ⟨.inr ⟨HGN.out, rfl⟩, HBD.out⟩
          · have e2 : min (x k) (y k) < -100 := by omega
            clear hgk
            refine start_ (n := 28) (S := fun w' => w'.cell? ⟨G, 0, none⟩ = some (.int .i64 (x k)) ∧ w'.cell? ⟨G, 1, none⟩ = some (.int .i64 (y k))) (ds := []) #[false, false, false, false, false, false, false, false, false, false, false, false, false, false, false, false, false, false, false, false, false, false, false, false, false, false, false, false] (by kernel_rfl) rfl rfl ⟨by simpa using q0, by simpa using q1⟩ (fun hHeld => ?_)
            refine pure_ (i := 0) (N := (some 22)) (v := ?_) (a' := ?_) #[true, false, false, false, false, false, false, false, false, false, false, false, false, false, false, false, false, false, false, false, false, false, false, false, false, false, false, false] rfl rfl (by kernel_rfl) (fun _ _ _ h => h) (Or.inl ⟨by rfl, ?_⟩) ?_ ?_
            rotate_left
            · intro w'; go_simp; first | done | with_reducible rfl
            rotate_left
            · simp only [Act.put, List.setIfInBounds_toArray, List.set_cons_zero, List.set_cons_succ, i64_w, i32_w]; rfl
            refine take_ (i := 1) (N := (some 23)) (v := ?_) (a' := ?_) #[true, true, false, false, false, false, false, false, false, false, false, false, false, false, false, false, false, false, false, false, false, false, false, false, false, false, false, false] rfl rfl (by kernel_rfl) (fun _ _ _ h => h) (Or.inl ⟨by rfl, ?_⟩) hHeld ?_ ?_
            rotate_left
            · rintro w' ⟨s0, s1⟩; go_simp; first | done | with_reducible rfl
            rotate_left
            · simp only [Act.put, List.setIfInBounds_toArray, List.set_cons_zero, List.set_cons_succ, i64_w, i32_w]; rfl
            refine pure_ (i := 2) (N := (some 24)) (v := ?_) (a' := ?_) #[true, true, true, false, false, false, false, false, false, false, false, false, false, false, false, false, false, false, false, false, false, false, false, false, false, false, false, false] rfl rfl (by kernel_rfl) (fun _ _ _ h => h) (Or.inl ⟨by rfl, ?_⟩) ?_ ?_
            rotate_left
            · intro w'; go_simp; first | done | with_reducible rfl
            rotate_left
            · simp only [Act.put, List.setIfInBounds_toArray, List.set_cons_zero, List.set_cons_succ, i64_w, i32_w]; rfl
            refine take_ (i := 3) (N := (some 25)) (v := ?_) (a' := ?_) #[true, true, true, true, false, false, false, false, false, false, false, false, false, false, false, false, false, false, false, false, false, false, false, false, false, false, false, false] rfl rfl (by kernel_rfl) (fun _ _ _ h => h) (Or.inl ⟨by rfl, ?_⟩) hHeld ?_ ?_
            rotate_left
            · rintro w' ⟨s0, s1⟩; go_simp; first | done | with_reducible rfl
            rotate_left
            · simp only [Act.put, List.setIfInBounds_toArray, List.set_cons_zero, List.set_cons_succ, i64_w, i32_w]; rfl
            refine pure_ (i := 4) (N := (some 26)) (v := ?_) (a' := ?_) #[true, true, true, true, true, false, false, false, false, false, false, false, false, false, false, false, false, false, false, false, false, false, false, false, false, false, false, false] rfl rfl (by kernel_rfl) (fun _ _ _ h => h) (Or.inl ⟨by rfl, ?_⟩) ?_ ?_
            rotate_left
            · intro w'; go_simp; first | done | with_reducible rfl
            rotate_left
            · simp only [Act.put, List.setIfInBounds_toArray, List.set_cons_zero, List.set_cons_succ, i64_w, i32_w]; rfl
            refine pure_ (i := 5) (N := (some 27)) (v := (.bool false)) (a' := ?_) #[true, true, true, true, true, true, false, false, false, false, false, false, false, false, false, false, false, false, false, false, false, false, false, false, false, false, false, false] rfl rfl (by kernel_rfl) (fun _ _ _ h => h) (Or.inl ⟨by rfl, ?_⟩) ?_ ?_
            · intro w'; go_simp; first | done | with_reducible rfl
            rotate_left
            · simp only [Act.put, List.setIfInBounds_toArray, List.set_cons_zero, List.set_cons_succ, i64_w, i32_w]; rfl
            refine pure_ (i := 6) (N := (some 28)) (v := ?_) (a' := ?_) #[true, true, true, true, true, true, true, false, false, false, false, false, false, false, false, false, false, false, false, false, false, false, false, false, false, false, false, false] rfl rfl (by kernel_rfl) (fun _ _ _ h => h) (Or.inl ⟨by rfl, ?_⟩) ?_ ?_
            rotate_left
            · intro w'; go_simp; first | done | with_reducible rfl
            rotate_left
            · simp only [Act.put, List.setIfInBounds_toArray, List.set_cons_zero, List.set_cons_succ, i64_w, i32_w]; rfl
            refine pure_ (i := 7) (N := (some 29)) (v := ?_) (a' := ?_) #[true, true, true, true, true, true, true, true, false, false, false, false, false, false, false, false, false, false, false, false, false, false, false, false, false, false, false, false] rfl rfl (by kernel_rfl) (fun _ _ _ h => h) (Or.inl ⟨by rfl, ?_⟩) ?_ ?_
            rotate_left
            · intro w'; go_simp; first | done | with_reducible rfl
            rotate_left
            · simp only [Act.put, List.setIfInBounds_toArray, List.set_cons_zero, List.set_cons_succ, i64_w, i32_w]; rfl
            refine take_ (i := 8) (N := (some 30)) (v := ?_) (a' := ?_) #[true, true, true, true, true, true, true, true, true, false, false, false, false, false, false, false, false, false, false, false, false, false, false, false, false, false, false, false] rfl rfl (by kernel_rfl) (fun _ _ _ h => h) (Or.inl ⟨by rfl, ?_⟩) hHeld ?_ ?_
            rotate_left
            · rintro w' ⟨s0, s1⟩; go_simp; first | done | with_reducible rfl
            rotate_left
            · simp only [Act.put, List.setIfInBounds_toArray, List.set_cons_zero, List.set_cons_succ, i64_w, i32_w]; rfl
            refine pure_ (i := 9) (N := (some 31)) (v := ?_) (a' := ?_) #[true, true, true, true, true, true, true, true, true, true, false, false, false, false, false, false, false, false, false, false, false, false, false, false, false, false, false, false] rfl rfl (by kernel_rfl) (fun _ _ _ h => h) (Or.inl ⟨by rfl, ?_⟩) ?_ ?_
            rotate_left
            · intro w'; go_simp; first | done | with_reducible rfl
            rotate_left
            · simp only [Act.put, List.setIfInBounds_toArray, List.set_cons_zero, List.set_cons_succ, i64_w, i32_w]; rfl
            refine take_ (i := 10) (N := (some 32)) (v := ?_) (a' := ?_) #[true, true, true, true, true, true, true, true, true, true, true, false, false, false, false, false, false, false, false, false, false, false, false, false, false, false, false, false] rfl rfl (by kernel_rfl) (fun _ _ _ h => h) (Or.inl ⟨by rfl, ?_⟩) hHeld ?_ ?_
            rotate_left
            · rintro w' ⟨s0, s1⟩; go_simp; first | done | with_reducible rfl
            rotate_left
            · simp only [Act.put, List.setIfInBounds_toArray, List.set_cons_zero, List.set_cons_succ, i64_w, i32_w]; rfl
            refine pure_ (i := 11) (N := (some 33)) (v := ?_) (a' := ?_) #[true, true, true, true, true, true, true, true, true, true, true, true, false, false, false, false, false, false, false, false, false, false, false, false, false, false, false, false] rfl rfl (by kernel_rfl) (fun _ _ _ h => h) (Or.inl ⟨by rfl, ?_⟩) ?_ ?_
            rotate_left
            · intro w'; go_simp; first | done | with_reducible rfl
            rotate_left
            · simp only [Act.put, List.setIfInBounds_toArray, List.set_cons_zero, List.set_cons_succ, i64_w, i32_w]; rfl
            refine pure_ (i := 12) (N := (some 34)) (v := (.bool true)) (a' := ?_) #[true, true, true, true, true, true, true, true, true, true, true, true, true, false, false, false, false, false, false, false, false, false, false, false, false, false, false, false] rfl rfl (by kernel_rfl) (fun _ _ _ h => h) (Or.inl ⟨by rfl, ?_⟩) ?_ ?_
            · intro w'; go_simp; first | done | with_reducible rfl
            rotate_left
            · simp only [Act.put, List.setIfInBounds_toArray, List.set_cons_zero, List.set_cons_succ, i64_w, i32_w]; rfl
            refine pure_ (i := 13) (N := (some 35)) (v := ?_) (a' := ?_) #[true, true, true, true, true, true, true, true, true, true, true, true, true, true, false, false, false, false, false, false, false, false, false, false, false, false, false, false] rfl rfl (by kernel_rfl) (fun _ _ _ h => h) (Or.inl ⟨by rfl, ?_⟩) ?_ ?_
            rotate_left
            · intro w'; go_simp; first | done | with_reducible rfl
            rotate_left
            · simp only [Act.put, List.setIfInBounds_toArray, List.set_cons_zero, List.set_cons_succ, i64_w, i32_w]; rfl
            refine pure_ (i := 14) (N := (some 36)) (v := ?_) (a' := ?_) #[true, true, true, true, true, true, true, true, true, true, true, true, true, true, true, false, false, false, false, false, false, false, false, false, false, false, false, false] rfl rfl (by kernel_rfl) (fun _ _ _ h => h) (Or.inl ⟨by rfl, ?_⟩) ?_ ?_
            rotate_left
            · intro w'; go_simp; first | done | with_reducible rfl
            rotate_left
            · simp only [Act.put, List.setIfInBounds_toArray, List.set_cons_zero, List.set_cons_succ, i64_w, i32_w]; rfl
            refine off_ (i := 15) (N := (some 37)) #[true, true, true, true, true, true, true, true, true, true, true, true, true, true, true, true, false, false, false, false, false, false, false, false, false, false, false, false] rfl rfl (by kernel_rfl) (fun _ _ _ h => h) (by rfl) (by simp only [Act.put, List.setIfInBounds_toArray, List.set_cons_zero, List.set_cons_succ, i64_w, i32_w]; rfl) ?_
            refine off_ (i := 16) (N := (some 38)) #[true, true, true, true, true, true, true, true, true, true, true, true, true, true, true, true, true, false, false, false, false, false, false, false, false, false, false, false] rfl rfl (by kernel_rfl) (fun _ _ _ h => h) (by rfl) (by simp only [Act.put, List.setIfInBounds_toArray, List.set_cons_zero, List.set_cons_succ, i64_w, i32_w]; rfl) ?_
            refine off_ (i := 17) (N := (some 39)) #[true, true, true, true, true, true, true, true, true, true, true, true, true, true, true, true, true, true, false, false, false, false, false, false, false, false, false, false] rfl rfl (by kernel_rfl) (fun _ _ _ h => h) (by rfl) (by simp only [Act.put, List.setIfInBounds_toArray, List.set_cons_zero, List.set_cons_succ, i64_w, i32_w]; rfl) ?_
            refine off_ (i := 18) (N := (some 40)) #[true, true, true, true, true, true, true, true, true, true, true, true, true, true, true, true, true, true, true, false, false, false, false, false, false, false, false, false] rfl rfl (by kernel_rfl) (fun _ _ _ h => h) (by rfl) (by simp only [Act.put, List.setIfInBounds_toArray, List.set_cons_zero, List.set_cons_succ, i64_w, i32_w]; rfl) ?_
            refine off_ (i := 19) (N := (some 41)) #[true, true, true, true, true, true, true, true, true, true, true, true, true, true, true, true, true, true, true, true, false, false, false, false, false, false, false, false] rfl rfl (by kernel_rfl) (fun _ _ _ h => h) (by rfl) (by simp only [Act.put, List.setIfInBounds_toArray, List.set_cons_zero, List.set_cons_succ, i64_w, i32_w]; rfl) ?_
            refine off_ (i := 20) (N := (some 42)) #[true, true, true, true, true, true, true, true, true, true, true, true, true, true, true, true, true, true, true, true, true, false, false, false, false, false, false, false] rfl rfl (by kernel_rfl) (fun _ _ _ h => h) (by rfl) (by simp only [Act.put, List.setIfInBounds_toArray, List.set_cons_zero, List.set_cons_succ, i64_w, i32_w]; rfl) ?_
            refine off_ (i := 21) (N := (some 43)) #[true, true, true, true, true, true, true, true, true, true, true, true, true, true, true, true, true, true, true, true, true, true, false, false, false, false, false, false] rfl rfl (by kernel_rfl) (fun _ _ _ h => h) (by rfl) (by simp only [Act.put, List.setIfInBounds_toArray, List.set_cons_zero, List.set_cons_succ, i64_w, i32_w]; rfl) ?_
            refine off_ (i := 22) (N := (some 44)) #[true, true, true, true, true, true, true, true, true, true, true, true, true, true, true, true, true, true, true, true, true, true, true, false, false, false, false, false] rfl rfl (by kernel_rfl) (fun _ _ _ h => h) (by rfl) (by simp only [Act.put, List.setIfInBounds_toArray, List.set_cons_zero, List.set_cons_succ, i64_w, i32_w]; rfl) ?_
            refine off_ (i := 23) (N := (some 45)) #[true, true, true, true, true, true, true, true, true, true, true, true, true, true, true, true, true, true, true, true, true, true, true, true, false, false, false, false] rfl rfl (by kernel_rfl) (fun _ _ _ h => h) (by rfl) (by simp only [Act.put, List.setIfInBounds_toArray, List.set_cons_zero, List.set_cons_succ, i64_w, i32_w]; rfl) ?_
            refine off_ (i := 24) (N := (some 46)) #[true, true, true, true, true, true, true, true, true, true, true, true, true, true, true, true, true, true, true, true, true, true, true, true, true, false, false, false] rfl rfl (by kernel_rfl) (fun _ _ _ h => h) (by rfl) (by simp only [Act.put, List.setIfInBounds_toArray, List.set_cons_zero, List.set_cons_succ, i64_w, i32_w]; rfl) ?_
            refine off_ (i := 25) (N := (some 47)) #[true, true, true, true, true, true, true, true, true, true, true, true, true, true, true, true, true, true, true, true, true, true, true, true, true, true, false, false] rfl rfl (by kernel_rfl) (fun _ _ _ h => h) (by rfl) (by simp only [Act.put, List.setIfInBounds_toArray, List.set_cons_zero, List.set_cons_succ, i64_w, i32_w]; rfl) ?_
            refine off_ (i := 26) (N := (some 48)) #[true, true, true, true, true, true, true, true, true, true, true, true, true, true, true, true, true, true, true, true, true, true, true, true, true, true, true, false] rfl rfl (by kernel_rfl) (fun _ _ _ h => h) (by rfl) (by simp only [Act.put, List.setIfInBounds_toArray, List.set_cons_zero, List.set_cons_succ, i64_w, i32_w]; rfl) ?_
            refine pure_ (i := 27) (N := (some 49)) (v := ?_) (a' := ?_) #[true, true, true, true, true, true, true, true, true, true, true, true, true, true, true, true, true, true, true, true, true, true, true, true, true, true, true, true] rfl rfl (by kernel_rfl) (fun _ _ _ h => h) (Or.inl ⟨by rfl, ?_⟩) ?_ ?_
            rotate_left
            · intro w'; go_simp; first | done | with_reducible rfl
            rotate_left
            · simp only [Act.put, List.setIfInBounds_toArray, List.set_cons_zero, List.set_cons_succ, i64_w, i32_w]; rfl
            refine done_ (by kernel_rfl) ?_
            have HBD := Lib.hid HBA.out.drew
            clear q0 q1 HBA HOA h0 h1 hHeld
            generalize wa.drew = wd at HBD ⊢
            go_wp2
            go_ret2
            exact ⟨.inr ⟨HGN.out, rfl⟩, HBD.out⟩
        · have e1 : 100 < max (x k) (y k) := by omega
          clear hgk
          refine start_ (n := 28) (S := fun w' => w'.cell? ⟨G, 0, none⟩ = some (.int .i64 (x k)) ∧ w'.cell? ⟨G, 1, none⟩ = some (.int .i64 (y k))) (ds := []) #[false, false, false, false, false, false, false, false, false, false, false, false, false, false, false, false, false, false, false, false, false, false, false, false, false, false, false, false] (by kernel_rfl) rfl rfl ⟨by simpa using q0, by simpa using q1⟩ (fun hHeld => ?_)
          refine pure_ (i := 0) (N := (some 22)) (v := ?_) (a' := ?_) #[true, false, false, false, false, false, false, false, false, false, false, false, false, false, false, false, false, false, false, false, false, false, false, false, false, false, false, false] rfl rfl (by kernel_rfl) (fun _ _ _ h => h) (Or.inl ⟨by rfl, ?_⟩) ?_ ?_
          rotate_left
          · intro w'; go_simp; first | done | with_reducible rfl
          rotate_left
          · simp only [Act.put, List.setIfInBounds_toArray, List.set_cons_zero, List.set_cons_succ, i64_w, i32_w]; rfl
          refine take_ (i := 1) (N := (some 23)) (v := ?_) (a' := ?_) #[true, true, false, false, false, false, false, false, false, false, false, false, false, false, false, false, false, false, false, false, false, false, false, false, false, false, false, false] rfl rfl (by kernel_rfl) (fun _ _ _ h => h) (Or.inl ⟨by rfl, ?_⟩) hHeld ?_ ?_
          rotate_left
          · rintro w' ⟨s0, s1⟩; go_simp; first | done | with_reducible rfl
          rotate_left
          · simp only [Act.put, List.setIfInBounds_toArray, List.set_cons_zero, List.set_cons_succ, i64_w, i32_w]; rfl
          refine pure_ (i := 2) (N := (some 24)) (v := ?_) (a' := ?_) #[true, true, true, false, false, false, false, false, false, false, false, false, false, false, false, false, false, false, false, false, false, false, false, false, false, false, false, false] rfl rfl (by kernel_rfl) (fun _ _ _ h => h) (Or.inl ⟨by rfl, ?_⟩) ?_ ?_
          rotate_left
          · intro w'; go_simp; first | done | with_reducible rfl
          rotate_left
          · simp only [Act.put, List.setIfInBounds_toArray, List.set_cons_zero, List.set_cons_succ, i64_w, i32_w]; rfl
          refine take_ (i := 3) (N := (some 25)) (v := ?_) (a' := ?_) #[true, true, true, true, false, false, false, false, false, false, false, false, false, false, false, false, false, false, false, false, false, false, false, false, false, false, false, false] rfl rfl (by kernel_rfl) (fun _ _ _ h => h) (Or.inl ⟨by rfl, ?_⟩) hHeld ?_ ?_
          rotate_left
          · rintro w' ⟨s0, s1⟩; go_simp; first | done | with_reducible rfl
          rotate_left
          · simp only [Act.put, List.setIfInBounds_toArray, List.set_cons_zero, List.set_cons_succ, i64_w, i32_w]; rfl
          refine pure_ (i := 4) (N := (some 26)) (v := ?_) (a' := ?_) #[true, true, true, true, true, false, false, false, false, false, false, false, false, false, false, false, false, false, false, false, false, false, false, false, false, false, false, false] rfl rfl (by kernel_rfl) (fun _ _ _ h => h) (Or.inl ⟨by rfl, ?_⟩) ?_ ?_
          rotate_left
          · intro w'; go_simp; first | done | with_reducible rfl
          rotate_left
          · simp only [Act.put, List.setIfInBounds_toArray, List.set_cons_zero, List.set_cons_succ, i64_w, i32_w]; rfl
          refine pure_ (i := 5) (N := (some 27)) (v := (.bool true)) (a' := ?_) #[true, true, true, true, true, true, false, false, false, false, false, false, false, false, false, false, false, false, false, false, false, false, false, false, false, false, false, false] rfl rfl (by kernel_rfl) (fun _ _ _ h => h) (Or.inl ⟨by rfl, ?_⟩) ?_ ?_
          · intro w'; go_simp; first | done | with_reducible rfl
          rotate_left
          · simp only [Act.put, List.setIfInBounds_toArray, List.set_cons_zero, List.set_cons_succ, i64_w, i32_w]; rfl
          refine pure_ (i := 6) (N := (some 28)) (v := ?_) (a' := ?_) #[true, true, true, true, true, true, true, false, false, false, false, false, false, false, false, false, false, false, false, false, false, false, false, false, false, false, false, false] rfl rfl (by kernel_rfl) (fun _ _ _ h => h) (Or.inl ⟨by rfl, ?_⟩) ?_ ?_
          rotate_left
          · intro w'; go_simp; first | done | with_reducible rfl
          rotate_left
          · simp only [Act.put, List.setIfInBounds_toArray, List.set_cons_zero, List.set_cons_succ, i64_w, i32_w]; rfl
          refine off_ (i := 7) (N := (some 29)) #[true, true, true, true, true, true, true, true, false, false, false, false, false, false, false, false, false, false, false, false, false, false, false, false, false, false, false, false] rfl rfl (by kernel_rfl) (fun _ _ _ h => h) (by rfl) (by simp only [Act.put, List.setIfInBounds_toArray, List.set_cons_zero, List.set_cons_succ, i64_w, i32_w]; rfl) ?_
          refine off_ (i := 8) (N := (some 30)) #[true, true, true, true, true, true, true, true, true, false, false, false, false, false, false, false, false, false, false, false, false, false, false, false, false, false, false, false] rfl rfl (by kernel_rfl) (fun _ _ _ h => h) (by rfl) (by simp only [Act.put, List.setIfInBounds_toArray, List.set_cons_zero, List.set_cons_succ, i64_w, i32_w]; rfl) ?_
          refine off_ (i := 9) (N := (some 31)) #[true, true, true, true, true, true, true, true, true, true, false, false, false, false, false, false, false, false, false, false, false, false, false, false, false, false, false, false] rfl rfl (by kernel_rfl) (fun _ _ _ h => h) (by rfl) (by simp only [Act.put, List.setIfInBounds_toArray, List.set_cons_zero, List.set_cons_succ, i64_w, i32_w]; rfl) ?_
          refine off_ (i := 10) (N := (some 32)) #[true, true, true, true, true, true, true, true, true, true, true, false, false, false, false, false, false, false, false, false, false, false, false, false, false, false, false, false] rfl rfl (by kernel_rfl) (fun _ _ _ h => h) (by rfl) (by simp only [Act.put, List.setIfInBounds_toArray, List.set_cons_zero, List.set_cons_succ, i64_w, i32_w]; rfl) ?_
          refine off_ (i := 11) (N := (some 33)) #[true, true, true, true, true, true, true, true, true, true, true, true, false, false, false, false, false, false, false, false, false, false, false, false, false, false, false, false] rfl rfl (by kernel_rfl) (fun _ _ _ h => h) (by rfl) (by simp only [Act.put, List.setIfInBounds_toArray, List.set_cons_zero, List.set_cons_succ, i64_w, i32_w]; rfl) ?_
          refine off_ (i := 12) (N := (some 34)) #[true, true, true, true, true, true, true, true, true, true, true, true, true, false, false, false, false, false, false, false, false, false, false, false, false, false, false, false] rfl rfl (by kernel_rfl) (fun _ _ _ h => h) (by rfl) (by simp only [Act.put, List.setIfInBounds_toArray, List.set_cons_zero, List.set_cons_succ, i64_w, i32_w]; rfl) ?_
          refine pure_ (i := 13) (N := (some 35)) (v := ?_) (a' := ?_) #[true, true, true, true, true, true, true, true, true, true, true, true, true, true, false, false, false, false, false, false, false, false, false, false, false, false, false, false] rfl rfl (by kernel_rfl) (fun _ _ _ h => h) (Or.inl ⟨by rfl, ?_⟩) ?_ ?_
          rotate_left
          · intro w'; go_simp; first | done | with_reducible rfl
          rotate_left
          · simp only [Act.put, List.setIfInBounds_toArray, List.set_cons_zero, List.set_cons_succ, i64_w, i32_w]; rfl
          refine pure_ (i := 14) (N := (some 36)) (v := ?_) (a' := ?_) #[true, true, true, true, true, true, true, true, true, true, true, true, true, true, true, false, false, false, false, false, false, false, false, false, false, false, false, false] rfl rfl (by kernel_rfl) (fun _ _ _ h => h) (Or.inl ⟨by rfl, ?_⟩) ?_ ?_
          rotate_left
          · intro w'; go_simp; first | done | with_reducible rfl
          rotate_left
          · simp only [Act.put, List.setIfInBounds_toArray, List.set_cons_zero, List.set_cons_succ, i64_w, i32_w]; rfl
          refine off_ (i := 15) (N := (some 37)) #[true, true, true, true, true, true, true, true, true, true, true, true, true, true, true, true, false, false, false, false, false, false, false, false, false, false, false, false] rfl rfl (by kernel_rfl) (fun _ _ _ h => h) (by rfl) (by simp only [Act.put, List.setIfInBounds_toArray, List.set_cons_zero, List.set_cons_succ, i64_w, i32_w]; rfl) ?_
          refine off_ (i := 16) (N := (some 38)) #[true, true, true, true, true, true, true, true, true, true, true, true, true, true, true, true, true, false, false, false, false, false, false, false, false, false, false, false] rfl rfl (by kernel_rfl) (fun _ _ _ h => h) (by rfl) (by simp only [Act.put, List.setIfInBounds_toArray, List.set_cons_zero, List.set_cons_succ, i64_w, i32_w]; rfl) ?_
          refine off_ (i := 17) (N := (some 39)) #[true, true, true, true, true, true, true, true, true, true, true, true, true, true, true, true, true, true, false, false, false, false, false, false, false, false, false, false] rfl rfl (by kernel_rfl) (fun _ _ _ h => h) (by rfl) (by simp only [Act.put, List.setIfInBounds_toArray, List.set_cons_zero, List.set_cons_succ, i64_w, i32_w]; rfl) ?_
          refine off_ (i := 18) (N := (some 40)) #[true, true, true, true, true, true, true, true, true, true, true, true, true, true, true, true, true, true, true, false, false, false, false, false, false, false, false, false] rfl rfl (by kernel_rfl) (fun _ _ _ h => h) (by rfl) (by simp only [Act.put, List.setIfInBounds_toArray, List.set_cons_zero, List.set_cons_succ, i64_w, i32_w]; rfl) ?_
          refine off_ (i := 19) (N := (some 41)) #[true, true, true, true, true, true, true, true, true, true, true, true, true, true, true, true, true, true, true, true, false, false, false, false, false, false, false, false] rfl rfl (by kernel_rfl) (fun _ _ _ h => h) (by rfl) (by simp only [Act.put, List.setIfInBounds_toArray, List.set_cons_zero, List.set_cons_succ, i64_w, i32_w]; rfl) ?_
          refine off_ (i := 20) (N := (some 42)) #[true, true, true, true, true, true, true, true, true, true, true, true, true, true, true, true, true, true, true, true, true, false, false, false, false, false, false, false] rfl rfl (by kernel_rfl) (fun _ _ _ h => h) (by rfl) (by simp only [Act.put, List.setIfInBounds_toArray, List.set_cons_zero, List.set_cons_succ, i64_w, i32_w]; rfl) ?_
          refine off_ (i := 21) (N := (some 43)) #[true, true, true, true, true, true, true, true, true, true, true, true, true, true, true, true, true, true, true, true, true, true, false, false, false, false, false, false] rfl rfl (by kernel_rfl) (fun _ _ _ h => h) (by rfl) (by simp only [Act.put, List.setIfInBounds_toArray, List.set_cons_zero, List.set_cons_succ, i64_w, i32_w]; rfl) ?_
          refine off_ (i := 22) (N := (some 44)) #[true, true, true, true, true, true, true, true, true, true, true, true, true, true, true, true, true, true, true, true, true, true, true, false, false, false, false, false] rfl rfl (by kernel_rfl) (fun _ _ _ h => h) (by rfl) (by simp only [Act.put, List.setIfInBounds_toArray, List.set_cons_zero, List.set_cons_succ, i64_w, i32_w]; rfl) ?_
          refine off_ (i := 23) (N := (some 45)) #[true, true, true, true, true, true, true, true, true, true, true, true, true, true, true, true, true, true, true, true, true, true, true, true, false, false, false, false] rfl rfl (by kernel_rfl) (fun _ _ _ h => h) (by rfl) (by simp only [Act.put, List.setIfInBounds_toArray, List.set_cons_zero, List.set_cons_succ, i64_w, i32_w]; rfl) ?_
          refine off_ (i := 24) (N := (some 46)) #[true, true, true, true, true, true, true, true, true, true, true, true, true, true, true, true, true, true, true, true, true, true, true, true, true, false, false, false] rfl rfl (by kernel_rfl) (fun _ _ _ h => h) (by rfl) (by simp only [Act.put, List.setIfInBounds_toArray, List.set_cons_zero, List.set_cons_succ, i64_w, i32_w]; rfl) ?_
          refine off_ (i := 25) (N := (some 47)) #[true, true, true, true, true, true, true, true, true, true, true, true, true, true, true, true, true, true, true, true, true, true, true, true, true, true, false, false] rfl rfl (by kernel_rfl) (fun _ _ _ h => h) (by rfl) (by simp only [Act.put, List.setIfInBounds_toArray, List.set_cons_zero, List.set_cons_succ, i64_w, i32_w]; rfl) ?_
          refine off_ (i := 26) (N := (some 48)) #[true, true, true, true, true, true, true, true, true, true, true, true, true, true, true, true, true, true, true, true, true, true, true, true, true, true, true, false] rfl rfl (by kernel_rfl) (fun _ _ _ h => h) (by rfl) (by simp only [Act.put, List.setIfInBounds_toArray, List.set_cons_zero, List.set_cons_succ, i64_w, i32_w]; rfl) ?_
          refine pure_ (i := 27) (N := (some 49)) (v := ?_) (a' := ?_) #[true, true, true, true, true, true, true, true, true, true, true, true, true, true, true, true, true, true, true, true, true, true, true, true, true, true, true, true] rfl rfl (by kernel_rfl) (fun _ _ _ h => h) (Or.inl ⟨by rfl, ?_⟩) ?_ ?_
          rotate_left
          · intro w'; go_simp; first | done | with_reducible rfl
          rotate_left
          · simp only [Act.put, List.setIfInBounds_toArray, List.set_cons_zero, List.set_cons_succ, i64_w, i32_w]; rfl
          refine done_ (by kernel_rfl) ?_
          have HBD := Lib.hid HBA.out.drew
          clear q0 q1 HBA HOA h0 h1 hHeld
          generalize wa.drew = wd at HBD ⊢
          go_wp2
          go_ret2
          exact ⟨.inr ⟨HGN.out, rfl⟩, HBD.out⟩
    · obtain rfl : k = n := by omega
      go_wp2
      go_ret2
      exact ⟨.inl ⟨HG.out, _, rfl, HO.out⟩, HB.out⟩
end Go.Proofs.YtpfenoioeajkmaaDoor.X
end

section
set_option linter.unusedVariables false
set_option linter.unusedSimpArgs false
namespace Go.Proofs.YtpfenoioeajkmaaDoor.X
open Go.RowKit Go.Proofs.YtpfenoioeajkmaaDoorW.PrintWords Go.Proofs.YtpfenoioeajkmaaDoorW.PrintLast Go.Proofs.YtpfenoioeajkmaaDoorW.PrintMore
def Sl (w : World) (A : Option Addr) (n c : Nat) (x y : Nat → Int) : Prop := (A = none ∧ n = 0 ∧ c = 0) ∨ (∃ b off, A = some ⟨b, off, none⟩ ∧ n ≤ c ∧ Pts w b off n x y) ∨ ∃ ad, A = some ad ∧ n = 0
theorem Sl.later {w w' : World} {A : Option Addr} {n c : Nat} {x y : Nat → Int} (h : Sl w A n c x y) (hb : Below w.heap.size w w') : Sl w' A n c x y := by
  rcases h with h | ⟨b, off, h1, h2, h3⟩ | h
  · exact .inl h
  · exact .inr (.inl ⟨b, off, h1, h2, h3.later hb⟩)
  · exact .inr (.inr h)
theorem Sl.of_own {w : World} {base e n : Nat} {v : Value} {x y : Nat → Int} (h : w.ownsRow base e 2 v n (flat x y n)) : ∃ A c, v = .slice A n c ∧ Sl w A n c x y := by
  rcases own_pts h with ⟨rfl, rfl⟩ | ⟨g, cap, rfl, _, _, hn, hp⟩
  · exact ⟨none, 0, rfl, .inl ⟨rfl, rfl, rfl⟩⟩
  · exact ⟨_, cap, rfl, .inr (.inl ⟨g, 0, rfl, hn, hp⟩)⟩
theorem info29 : (Tryd.prog.info? 29).map (fun i => (i.zero, i.size, i.bytes)) = some (some (.agg #[.int .i64 0, .int .i64 0]), 2, 16) := by kernel_rfl
theorem flat_cells {w : World} {b off : Nat} {x y : Nat → Int} : ∀ n, Pts w b off n x y → ∀ j u, (flat x y n)[j]? = some u → w.cell? ⟨b, off + j, none⟩ = some u
  | 0, _, j, u, h => by simp [flat] at h
  | n + 1, hp, j, u, h => by
    have hl := flat_length x y n
    rw [flat] at h
    by_cases hj : j < n * 2
    · rw [List.getElem?_append_left (by omega)] at h
      exact flat_cells n (hp.less (by omega)) j u h
    · rw [List.getElem?_append_right (by omega), hl] at h
      have hj2 : j = n * 2 ∨ j = n * 2 + 1 := by
        have := (List.getElem?_eq_some_iff.1 h).1
        simp at this
        omega
      rcases hj2 with rfl | rfl
      · simp at h
        rw [← h]
        exact hp.c0 n (by omega)
      · rw [show n * 2 + 1 - n * 2 = 1 by omega] at h
        simp at h
        rw [← h, ← Nat.add_assoc]
        exact hp.c1 n (by omega)
theorem flat_one {x y : Nat → Int} : ∀ n u, u ∈ flat x y n → u.oneCell' = true
  | 0, u, h => by simp [flat] at h
  | n + 1, u, h => by
    rw [flat, List.mem_append] at h
    rcases h with h | h
    · exact flat_one n u h
    · simp at h
      rcases h with rfl | rfl <;> rfl
theorem own_lit (w : World) (t : TypeId) : (w.alloc (.cells #[] t)).ownsRow w.heap.size t 2 (.slice (some ⟨w.heap.size, 0, none⟩) 0 0) 0 [] :=
  ⟨rfl, .inr ⟨w.heap.size, 0, #[], rfl, Nat.le_refl _, blk_new w _, Nat.le_refl _, Nat.zero_le _, rfl, rfl⟩⟩
set_option maxHeartbeats 2000000 in
set_option maxRecDepth 100000 in
theorem Clone_zero (ad : Addr) (c : Nat) (w : World) : Calls Tryd.prog 64 #[.slice (some ad) 0 c] w fun e w' => ∃ v, e = .returned v ∧ w'.ownsRow w.heap.size 29 2 v 0 [] ∧ Below w.heap.size w w' := by
  have hx := fun w : World => Lib.run_eql_slice_nil (P := Tryd.prog) w 45 29 (some ad) 0 c 0 0 Tryd.underlying45
  obtain ⟨i0, hi0, hz0, hz1, hz2⟩ := info_parts info29
  have HI := Lib.hid hi0
  have HZ := Lib.hid (And.intro hz0 (And.intro hz1 hz2))
  clear hi0 hz0 hz1 hz2
  go_enter Tryd.func64, Tryd.ntmps64
  go_wp2_with (first | (at_builtin; refine wpList_append_own_at _ rfl (.tmp 5) (.tmp 6) 45 rfl w.heap.size 29 i0 _ 2 16 Tryd.underlying45 HI.out HZ.out.1 HZ.out.2.1 HZ.out.2.2 rfl (by decide) (.slice (some ⟨w.heap.size, 0, none⟩) 0 0) 0 [] rfl (own_lit w 29) ad 0 c [] rfl rfl (by simp) (by simp) (by decide) (by decide) (by simp) ?_; intro v1 w1 hown1 hgrow1 _ _; have HO := Lib.hid hown1; have HB := Lib.hid (own_grow (below_one (w := w) (.cells #[] 29)) (own_lit w 29) hgrow1); clear hown1 hgrow1) | go_in)
  go_ret
  exact ⟨_, rfl, HO.out, HB.out⟩
def mnN (a b : Nat) : Nat := if a ≤ b then a else b
set_option maxHeartbeats 2000000 in
set_option maxRecDepth 100000 in
theorem list_calls (A : Option Addr) (n c : Nat) (x y : Nat → Int) (w : World) (hA : Sl w A n c x y) (hc : c ≤ 9223372036854775807) :
    Calls Tryd.prog 41 #[.slice A n c] w fun e w' => (∃ A' c', e = .returned (.slice A' (mnN n 33) c') ∧ Sl w' A' (mnN n 33) c' x y) ∧ Below w.heap.size w w' := by
  rcases hA with ⟨rfl, rfl, rfl⟩ | ⟨b, off, rfl, hnc, hP⟩ | ⟨ad, rfl, rfl⟩
  · go_enter Tryd.func41, Tryd.ntmps41
    go_wp2_with fail
    refine (Tryd.slices_Clone_nil _ _ _).mono ?_
    rintro e w1 ⟨rfl, rfl⟩
    go_wp2
    go_ret
    exact ⟨⟨none, 0, rfl, .inl ⟨rfl, rfl, rfl⟩⟩, Below.refl _ _⟩
  · have hm : min (n : Int) 33 = (mnN n 33 : Nat) := by unfold mnN; split <;> omega
    have hmn : mnN n 33 ≤ n ∧ mnN n 33 ≤ 33 := by unfold mnN; split <;> omega
    have HP := Lib.hid (hP.less hmn.1)
    clear hP
    generalize mnN n 33 = m at hm hmn HP ⊢
    have hmc : m ≤ c := by omega
    obtain ⟨i0, hi0, hz0, hz1, hz2⟩ := info_parts info29
    have HC := Lib.hid (Tryd.slices_Clone i0 _ 2 16 hi0 hz0 hz1 hz2 rfl (by decide) (fun w => Tryd.sizeOf29 w) b off m c (flat x y m) w (flat_length x y m) (by unfold maxLen; omega) (by omega) (flat_cells m HP.out) (flat_one m))
    clear hi0 hz0 hz1 hz2
    go_enter Tryd.func41, Tryd.ntmps41
    go_wp2_with fail
    refine HC.out.mono ?_
    rintro e w1 ⟨v, rfl, hown, _, hb⟩
    have HO := Lib.hid (Sl.of_own hown)
    have HB := Lib.hid hb
    clear hown hb
    go_wp2
    go_ret
    obtain ⟨A', c', hv, hS⟩ := HO.out
    exact ⟨⟨A', c', by rw [hv]; rfl, hS⟩, HB.out⟩
  · have hm : min (0 : Int) 33 = 0 := by omega
    have HC := Lib.hid (fun c w => Clone_zero ad c w)
    go_enter Tryd.func41, Tryd.ntmps41
    go_wp2_with fail
    refine (HC.out _ _).mono ?_
    rintro e w1 ⟨v, rfl, hown, hb⟩
    have HO := Lib.hid (Sl.of_own (x := x) (y := y) (n := 0) hown)
    have HB := Lib.hid hb
    clear hown hb
    go_wp2
    go_ret
    obtain ⟨A', c', hv, hS⟩ := HO.out
    exact ⟨⟨A', c', by rw [hv]; rfl, hS⟩, HB.out⟩
set_option maxHeartbeats 2000000 in
set_option maxRecDepth 100000 in
theorem read_out (A : Option Addr) (n c : Nat) (w : World) (hn : n < 1 ∨ 30 < n) (hn63 : n ≤ 9223372036854775807) :
    Calls Tryd.prog 62 #[.slice A n c] w fun e w' => e = .returned (.tuple #[.slice none 0 0, .bool false]) ∧ Below w.heap.size w w' := by
  rcases hn with h | h
  · have h1 : (n : Int) < 1 := by omega
    go_enter Tryd.func62, Tryd.ntmps62
    go_wp2
    go_ret2
    exact ⟨rfl, Below.refl _ _⟩
  · have h1 : ¬ (n : Int) < 1 := by omega
    have h2 : (n : Int) > 30 := by omega
    go_enter Tryd.func62, Tryd.ntmps62
    go_wp2
    go_ret2
    exact ⟨rfl, Below.refl _ _⟩
def goodL (x y : Nat → Int) (n : Nat) : Bool := (decide (1 ≤ n) && decide (n ≤ 30)) && goodTo x y n
theorem read_all (A : Option Addr) (n c : Nat) (x y : Nat → Int) (w : World) (hA : Sl w A n c x y) (hn : n ≤ 9223372036854775807) :
    Calls Tryd.prog 62 #[.slice A n c] w fun e w' => ((goodL x y n = true ∧ ∃ A' c', e = .returned (.tuple #[.slice A' n c', .bool true]) ∧ Sl w' A' n c' x y) ∨ (goodL x y n = false ∧ e = .returned (.tuple #[.slice none 0 0, .bool false]))) ∧ Below w.heap.size w w' := by
  by_cases h : 1 ≤ n ∧ n ≤ 30
  · refine (read_any A n c x y w (fun h0 => ?_) h).mono ?_
    · rcases hA with ⟨_, h2, _⟩ | ⟨b, off, h1, _, h3⟩ | ⟨_, _, h2⟩
      · omega
      · exact ⟨b, off, h1, h3⟩
      · omega
    · rintro e w1 ⟨⟨h1, v, rfl, ho⟩ | ⟨h1, rfl⟩, hb⟩
      · obtain ⟨A', c', rfl, hS⟩ := Sl.of_own ho
        exact ⟨.inl ⟨by unfold goodL; rw [h1, decide_eq_true h.1, decide_eq_true h.2]; rfl, A', c', rfl, hS⟩, hb⟩
      · exact ⟨.inr ⟨by unfold goodL; rw [h1, Bool.and_false], rfl⟩, hb⟩
  · refine (read_out A n c w (by omega) hn).mono ?_
    rintro e w1 ⟨rfl, hb⟩
    refine ⟨.inr ⟨?_, rfl⟩, hb⟩
    unfold goodL
    by_cases h1 : 1 ≤ n
    · rw [decide_eq_false (show ¬ n ≤ 30 by omega), Bool.and_false, Bool.false_and]
    · rw [decide_eq_false h1]; rfl
end Go.Proofs.YtpfenoioeajkmaaDoor.X
end

section
set_option linter.unusedVariables false
set_option linter.unusedSimpArgs false
namespace Go.Proofs.YtpfenoioeajkmaaDoor.X
open Go.RowKit Go.Proofs.YtpfenoioeajkmaaDoorW.PrintWords Go.Proofs.YtpfenoioeajkmaaDoorW.PrintLast Go.Proofs.YtpfenoioeajkmaaDoorW.PrintMore
theorem goodL_at {x y : Nat → Int} {n : Nat} (h : goodL x y n = true) : (1 ≤ n ∧ n ≤ 30) ∧ ∀ i, i < n → -100 ≤ x i ∧ x i ≤ 100 ∧ -100 ≤ y i ∧ y i ≤ 100 := by
  unfold goodL at h
  rw [Bool.and_eq_true, Bool.and_eq_true, decide_eq_true_eq, decide_eq_true_eq] at h
  exact ⟨h.1, fun i hi => (goodTo_at h.2 hi).1⟩
theorem two_cells (w : World) (t : TypeId) (u v : Value) : (w.alloc (.cells #[u, v] t)).cell? ⟨w.heap.size, 0, none⟩ = some u ∧ (w.alloc (.cells #[u, v] t)).cell? ⟨w.heap.size, 1, none⟩ = some v := by constructor <;> simp
end Go.Proofs.YtpfenoioeajkmaaDoor.X
end

section
set_option linter.unusedVariables false
set_option linter.unusedSimpArgs false
namespace Go.Proofs.YtpfenoioeajkmaaDoor.X
open Go.RowKit Go.Proofs.YtpfenoioeajkmaaDoorW.PrintWords Go.Proofs.YtpfenoioeajkmaaDoorW.PrintLast Go.Proofs.YtpfenoioeajkmaaDoorW.PrintMore
theorem goodL_no {x y : Nat → Int} {n : Nat} (h : goodTo x y n = false) : goodL x y n = false := by unfold goodL; rw [h, Bool.and_false]
theorem cmpP_iff (a b c d : Int) : cmpP a b c d < 0 ↔ a < c ∨ (a = c ∧ b < d) := by
  unfold cmpP cmpI
  by_cases h1 : a < c
  · simp [h1]
  · by_cases h2 : a > c
    · simp [h1, h2]
      omega
    · have : a = c := by omega
      subst this
      simp
      by_cases h3 : b < d
      · simp [h3]
      · by_cases h4 : d < b
        · simp [h3, h4]
        · simp [h3, h4]
set_option maxHeartbeats 16000000 in
set_option maxRecDepth 100000 in
theorem List_calls (A : Option Addr) (n c : Nat) (x y : Nat → Int) (w : World) (hA : Sl w A n c x y) (hn : n ≤ 9223372036854775807) :
    Calls Tryd.prog 42 #[.slice A n c] w fun e w' => e = .returned (.bool (goodL x y n)) ∧ Below w.heap.size w w' := by
  have HP := Lib.hid (show 0 < n → ∃ b off, A = some ⟨b, off, none⟩ ∧ Pts w b off n x y from fun h => by
    rcases hA with ⟨_, h2, _⟩ | ⟨b, off, h1, _, h3⟩ | ⟨_, _, h2⟩
    · omega
    · exact ⟨b, off, h1, h3⟩
    · omega)
  clear hA
  go_enter Tryd.func42, Tryd.ntmps42
  go_wp2_with fail
  have HB := Lib.hid (Below.refl w.heap.size w)
  go_loopw [7] (fun i wr => ∃ k : Nat, k ≤ n ∧ i = .int .i64 k ∧ Hid (goodTo x y k = true) ∧ Hid (Below w.heap.size w wr)) (fun i _ => n - (intOf i).toNat)
  case atStart => exact ⟨0, by omega, rfl, Lib.hid rfl, HB⟩
  case round =>
    clear HB
    obtain ⟨k, hk, rfl, HG, HB⟩ := hrel
    by_cases hlt : k < n
    · obtain ⟨b, off, rfl, hP0⟩ := HP.out (by omega)
      have hP := hP0.later HB.out
      have h0 := hP.c0 k hlt
      have h1 := hP.c1 k hlt
      obtain ⟨z0, z1⟩ := two_cells wr 29 (.int .i64 (x k)) (.int .i64 (y k))
      have HGN := fun q => Lib.hid (goodTo_bad (x := x) (y := y) hlt q)
      by_cases hx : -100 ≤ x k ∧ x k ≤ 100 ∧ -100 ≤ y k ∧ y k ≤ 100
      · obtain ⟨x1, x2, x3, x4⟩ := hx
        go_wp2_with fail
        have hba := below_one (w := wr) (.cells #[.int .i64 (x k), .int .i64 (y k)] 29)
        have HBA := Lib.hid (HB.out.trans (hba.mono HB.out.size))
        have HPA := Lib.hid (hP.later hba)
        generalize hwa : wr.alloc (.cells #[.int .i64 (x k), .int .i64 (y k)] 29) = wa at z0 z1 hba HBA HPA ⊢
        generalize wr.heap.size = G at z0 z1 ⊢
        have q0 := z0
        have q1 := z1
        clear hwa hba hP hP0 z0 z1
        rcases Nat.eq_zero_or_pos k with hk0 | hk0
        · subst hk0
          have HGK := Lib.hid (show (-100 ≤ x 0 ∧ x 0 ≤ 100 ∧ -100 ≤ y 0 ∧ y 0 ≤ 100) ∧ (0 = 0 ∨ cmpP (x (0 - 1)) (y (0 - 1)) (x 0) (y 0) < 0) from ⟨⟨x1, x2, x3, x4⟩, .inl rfl⟩)
          refine start_ (n := 35) (S := fun w' => w'.cell? ⟨G, 0, none⟩ = some (.int .i64 (x 0)) ∧ w'.cell? ⟨G, 1, none⟩ = some (.int .i64 (y 0))) (ds := []) #[false, false, false, false, false, false, false, false, false, false, false, false, false, false, false, false, false, false, false, false, false, false, false, false, false, false, false, false, false, false, false, false, false, false, false] (by kernel_rfl) rfl rfl ⟨by simpa using q0, by simpa using q1⟩ (fun hHeld => ?_)
          refine pure_ (i := 0) (N := (some 30)) (v := ?_) (a' := ?_) #[true, false, false, false, false, false, false, false, false, false, false, false, false, false, false, false, false, false, false, false, false, false, false, false, false, false, false, false, false, false, false, false, false, false, false] rfl rfl (by kernel_rfl) (fun _ _ _ h => h) (Or.inl ⟨by rfl, ?_⟩) ?_ ?_
          rotate_left
          · intro w'; go_simp; first | done | with_reducible rfl
          rotate_left
          · simp only [Act.put, List.setIfInBounds_toArray, List.set_cons_zero, List.set_cons_succ, i64_w, i32_w]; rfl
          refine pure_ (i := 1) (N := (some 31)) (v := (.bool false)) (a' := ?_) #[true, true, false, false, false, false, false, false, false, false, false, false, false, false, false, false, false, false, false, false, false, false, false, false, false, false, false, false, false, false, false, false, false, false, false] rfl rfl (by kernel_rfl) (fun _ _ _ h => h) (Or.inl ⟨by rfl, ?_⟩) ?_ ?_
          · intro w'; go_simp; first | done | with_reducible rfl
          rotate_left
          · simp only [Act.put, List.setIfInBounds_toArray, List.set_cons_zero, List.set_cons_succ, i64_w, i32_w]; rfl
          refine pure_ (i := 2) (N := (some 32)) (v := ?_) (a' := ?_) #[true, true, true, false, false, false, false, false, false, false, false, false, false, false, false, false, false, false, false, false, false, false, false, false, false, false, false, false, false, false, false, false, false, false, false] rfl rfl (by kernel_rfl) (fun _ _ _ h => h) (Or.inl ⟨by rfl, ?_⟩) ?_ ?_
          rotate_left
          · intro w'; go_simp; first | done | with_reducible rfl
          rotate_left
          · simp only [Act.put, List.setIfInBounds_toArray, List.set_cons_zero, List.set_cons_succ, i64_w, i32_w]; rfl
          refine off_ (i := 3) (N := (some 33)) #[true, true, true, true, false, false, false, false, false, false, false, false, false, false, false, false, false, false, false, false, false, false, false, false, false, false, false, false, false, false, false, false, false, false, false] rfl rfl (by kernel_rfl) (fun _ _ _ h => h) (by rfl) (by simp only [Act.put, List.setIfInBounds_toArray, List.set_cons_zero, List.set_cons_succ, i64_w, i32_w]; rfl) ?_
          refine off_ (i := 4) (N := (some 34)) #[true, true, true, true, true, false, false, false, false, false, false, false, false, false, false, false, false, false, false, false, false, false, false, false, false, false, false, false, false, false, false, false, false, false, false] rfl rfl (by kernel_rfl) (fun _ _ _ h => h) (by rfl) (by simp only [Act.put, List.setIfInBounds_toArray, List.set_cons_zero, List.set_cons_succ, i64_w, i32_w]; rfl) ?_
          refine off_ (i := 5) (N := (some 35)) #[true, true, true, true, true, true, false, false, false, false, false, false, false, false, false, false, false, false, false, false, false, false, false, false, false, false, false, false, false, false, false, false, false, false, false] rfl rfl (by kernel_rfl) (fun _ _ _ h => h) (by rfl) (by simp only [Act.put, List.setIfInBounds_toArray, List.set_cons_zero, List.set_cons_succ, i64_w, i32_w]; rfl) ?_
          refine off_ (i := 6) (N := (some 36)) #[true, true, true, true, true, true, true, false, false, false, false, false, false, false, false, false, false, false, false, false, false, false, false, false, false, false, false, false, false, false, false, false, false, false, false] rfl rfl (by kernel_rfl) (fun _ _ _ h => h) (by rfl) (by simp only [Act.put, List.setIfInBounds_toArray, List.set_cons_zero, List.set_cons_succ, i64_w, i32_w]; rfl) ?_
          refine off_ (i := 7) (N := (some 37)) #[true, true, true, true, true, true, true, true, false, false, false, false, false, false, false, false, false, false, false, false, false, false, false, false, false, false, false, false, false, false, false, false, false, false, false] rfl rfl (by kernel_rfl) (fun _ _ _ h => h) (by rfl) (by simp only [Act.put, List.setIfInBounds_toArray, List.set_cons_zero, List.set_cons_succ, i64_w, i32_w]; rfl) ?_
          refine off_ (i := 8) (N := (some 38)) #[true, true, true, true, true, true, true, true, true, false, false, false, false, false, false, false, false, false, false, false, false, false, false, false, false, false, false, false, false, false, false, false, false, false, false] rfl rfl (by kernel_rfl) (fun _ _ _ h => h) (by rfl) (by simp only [Act.put, List.setIfInBounds_toArray, List.set_cons_zero, List.set_cons_succ, i64_w, i32_w]; rfl) ?_
          refine off_ (i := 9) (N := (some 39)) #[true, true, true, true, true, true, true, true, true, true, false, false, false, false, false, false, false, false, false, false, false, false, false, false, false, false, false, false, false, false, false, false, false, false, false] rfl rfl (by kernel_rfl) (fun _ _ _ h => h) (by rfl) (by simp only [Act.put, List.setIfInBounds_toArray, List.set_cons_zero, List.set_cons_succ, i64_w, i32_w]; rfl) ?_
          refine off_ (i := 10) (N := (some 40)) #[true, true, true, true, true, true, true, true, true, true, true, false, false, false, false, false, false, false, false, false, false, false, false, false, false, false, false, false, false, false, false, false, false, false, false] rfl rfl (by kernel_rfl) (fun _ _ _ h => h) (by rfl) (by simp only [Act.put, List.setIfInBounds_toArray, List.set_cons_zero, List.set_cons_succ, i64_w, i32_w]; rfl) ?_
          refine off_ (i := 11) (N := (some 41)) #[true, true, true, true, true, true, true, true, true, true, true, true, false, false, false, false, false, false, false, false, false, false, false, false, false, false, false, false, false, false, false, false, false, false, false] rfl rfl (by kernel_rfl) (fun _ _ _ h => h) (by rfl) (by simp only [Act.put, List.setIfInBounds_toArray, List.set_cons_zero, List.set_cons_succ, i64_w, i32_w]; rfl) ?_
          refine off_ (i := 12) (N := (some 42)) #[true, true, true, true, true, true, true, true, true, true, true, true, true, false, false, false, false, false, false, false, false, false, false, false, false, false, false, false, false, false, false, false, false, false, false] rfl rfl (by kernel_rfl) (fun _ _ _ h => h) (by rfl) (by simp only [Act.put, List.setIfInBounds_toArray, List.set_cons_zero, List.set_cons_succ, i64_w, i32_w]; rfl) ?_
          refine off_ (i := 13) (N := (some 43)) #[true, true, true, true, true, true, true, true, true, true, true, true, true, true, false, false, false, false, false, false, false, false, false, false, false, false, false, false, false, false, false, false, false, false, false] rfl rfl (by kernel_rfl) (fun _ _ _ h => h) (by rfl) (by simp only [Act.put, List.setIfInBounds_toArray, List.set_cons_zero, List.set_cons_succ, i64_w, i32_w]; rfl) ?_
          refine off_ (i := 14) (N := (some 44)) #[true, true, true, true, true, true, true, true, true, true, true, true, true, true, true, false, false, false, false, false, false, false, false, false, false, false, false, false, false, false, false, false, false, false, false] rfl rfl (by kernel_rfl) (fun _ _ _ h => h) (by rfl) (by simp only [Act.put, List.setIfInBounds_toArray, List.set_cons_zero, List.set_cons_succ, i64_w, i32_w]; rfl) ?_
          refine off_ (i := 15) (N := (some 45)) #[true, true, true, true, true, true, true, true, true, true, true, true, true, true, true, true, false, false, false, false, false, false, false, false, false, false, false, false, false, false, false, false, false, false, false] rfl rfl (by kernel_rfl) (fun _ _ _ h => h) (by rfl) (by simp only [Act.put, List.setIfInBounds_toArray, List.set_cons_zero, List.set_cons_succ, i64_w, i32_w]; rfl) ?_
          refine off_ (i := 16) (N := (some 46)) #[true, true, true, true, true, true, true, true, true, true, true, true, true, true, true, true, true, false, false, false, false, false, false, false, false, false, false, false, false, false, false, false, false, false, false] rfl rfl (by kernel_rfl) (fun _ _ _ h => h) (by rfl) (by simp only [Act.put, List.setIfInBounds_toArray, List.set_cons_zero, List.set_cons_succ, i64_w, i32_w]; rfl) ?_
          refine off_ (i := 17) (N := (some 47)) #[true, true, true, true, true, true, true, true, true, true, true, true, true, true, true, true, true, true, false, false, false, false, false, false, false, false, false, false, false, false, false, false, false, false, false] rfl rfl (by kernel_rfl) (fun _ _ _ h => h) (by rfl) (by simp only [Act.put, List.setIfInBounds_toArray, List.set_cons_zero, List.set_cons_succ, i64_w, i32_w]; rfl) ?_
          refine off_ (i := 18) (N := (some 48)) #[true, true, true, true, true, true, true, true, true, true, true, true, true, true, true, true, true, true, true, false, false, false, false, false, false, false, false, false, false, false, false, false, false, false, false] rfl rfl (by kernel_rfl) (fun _ _ _ h => h) (by rfl) (by simp only [Act.put, List.setIfInBounds_toArray, List.set_cons_zero, List.set_cons_succ, i64_w, i32_w]; rfl) ?_
          refine off_ (i := 19) (N := (some 49)) #[true, true, true, true, true, true, true, true, true, true, true, true, true, true, true, true, true, true, true, true, false, false, false, false, false, false, false, false, false, false, false, false, false, false, false] rfl rfl (by kernel_rfl) (fun _ _ _ h => h) (by rfl) (by simp only [Act.put, List.setIfInBounds_toArray, List.set_cons_zero, List.set_cons_succ, i64_w, i32_w]; rfl) ?_
          refine off_ (i := 20) (N := (some 50)) #[true, true, true, true, true, true, true, true, true, true, true, true, true, true, true, true, true, true, true, true, true, false, false, false, false, false, false, false, false, false, false, false, false, false, false] rfl rfl (by kernel_rfl) (fun _ _ _ h => h) (by rfl) (by simp only [Act.put, List.setIfInBounds_toArray, List.set_cons_zero, List.set_cons_succ, i64_w, i32_w]; rfl) ?_
          refine off_ (i := 21) (N := (some 51)) #[true, true, true, true, true, true, true, true, true, true, true, true, true, true, true, true, true, true, true, true, true, true, false, false, false, false, false, false, false, false, false, false, false, false, false] rfl rfl (by kernel_rfl) (fun _ _ _ h => h) (by rfl) (by simp only [Act.put, List.setIfInBounds_toArray, List.set_cons_zero, List.set_cons_succ, i64_w, i32_w]; rfl) ?_
          refine off_ (i := 22) (N := (some 52)) #[true, true, true, true, true, true, true, true, true, true, true, true, true, true, true, true, true, true, true, true, true, true, true, false, false, false, false, false, false, false, false, false, false, false, false] rfl rfl (by kernel_rfl) (fun _ _ _ h => h) (by rfl) (by simp only [Act.put, List.setIfInBounds_toArray, List.set_cons_zero, List.set_cons_succ, i64_w, i32_w]; rfl) ?_
          refine off_ (i := 23) (N := (some 53)) #[true, true, true, true, true, true, true, true, true, true, true, true, true, true, true, true, true, true, true, true, true, true, true, true, false, false, false, false, false, false, false, false, false, false, false] rfl rfl (by kernel_rfl) (fun _ _ _ h => h) (by rfl) (by simp only [Act.put, List.setIfInBounds_toArray, List.set_cons_zero, List.set_cons_succ, i64_w, i32_w]; rfl) ?_
          refine off_ (i := 24) (N := (some 54)) #[true, true, true, true, true, true, true, true, true, true, true, true, true, true, true, true, true, true, true, true, true, true, true, true, true, false, false, false, false, false, false, false, false, false, false] rfl rfl (by kernel_rfl) (fun _ _ _ h => h) (by rfl) (by simp only [Act.put, List.setIfInBounds_toArray, List.set_cons_zero, List.set_cons_succ, i64_w, i32_w]; rfl) ?_
          refine off_ (i := 25) (N := (some 55)) #[true, true, true, true, true, true, true, true, true, true, true, true, true, true, true, true, true, true, true, true, true, true, true, true, true, true, false, false, false, false, false, false, false, false, false] rfl rfl (by kernel_rfl) (fun _ _ _ h => h) (by rfl) (by simp only [Act.put, List.setIfInBounds_toArray, List.set_cons_zero, List.set_cons_succ, i64_w, i32_w]; rfl) ?_
          refine off_ (i := 26) (N := (some 56)) #[true, true, true, true, true, true, true, true, true, true, true, true, true, true, true, true, true, true, true, true, true, true, true, true, true, true, true, false, false, false, false, false, false, false, false] rfl rfl (by kernel_rfl) (fun _ _ _ h => h) (by rfl) (by simp only [Act.put, List.setIfInBounds_toArray, List.set_cons_zero, List.set_cons_succ, i64_w, i32_w]; rfl) ?_
          refine off_ (i := 27) (N := (some 57)) #[true, true, true, true, true, true, true, true, true, true, true, true, true, true, true, true, true, true, true, true, true, true, true, true, true, true, true, true, false, false, false, false, false, false, false] rfl rfl (by kernel_rfl) (fun _ _ _ h => h) (by rfl) (by simp only [Act.put, List.setIfInBounds_toArray, List.set_cons_zero, List.set_cons_succ, i64_w, i32_w]; rfl) ?_
          refine off_ (i := 28) (N := (some 58)) #[true, true, true, true, true, true, true, true, true, true, true, true, true, true, true, true, true, true, true, true, true, true, true, true, true, true, true, true, true, false, false, false, false, false, false] rfl rfl (by kernel_rfl) (fun _ _ _ h => h) (by rfl) (by simp only [Act.put, List.setIfInBounds_toArray, List.set_cons_zero, List.set_cons_succ, i64_w, i32_w]; rfl) ?_
          refine off_ (i := 29) (N := (some 59)) #[true, true, true, true, true, true, true, true, true, true, true, true, true, true, true, true, true, true, true, true, true, true, true, true, true, true, true, true, true, true, false, false, false, false, false] rfl rfl (by kernel_rfl) (fun _ _ _ h => h) (by rfl) (by simp only [Act.put, List.setIfInBounds_toArray, List.set_cons_zero, List.set_cons_succ, i64_w, i32_w]; rfl) ?_
          refine off_ (i := 30) (N := (some 60)) #[true, true, true, true, true, true, true, true, true, true, true, true, true, true, true, true, true, true, true, true, true, true, true, true, true, true, true, true, true, true, true, false, false, false, false] rfl rfl (by kernel_rfl) (fun _ _ _ h => h) (by rfl) (by simp only [Act.put, List.setIfInBounds_toArray, List.set_cons_zero, List.set_cons_succ, i64_w, i32_w]; rfl) ?_
          refine off_ (i := 31) (N := (some 61)) #[true, true, true, true, true, true, true, true, true, true, true, true, true, true, true, true, true, true, true, true, true, true, true, true, true, true, true, true, true, true, true, true, false, false, false] rfl rfl (by kernel_rfl) (fun _ _ _ h => h) (by rfl) (by simp only [Act.put, List.setIfInBounds_toArray, List.set_cons_zero, List.set_cons_succ, i64_w, i32_w]; rfl) ?_
          refine off_ (i := 32) (N := (some 62)) #[true, true, true, true, true, true, true, true, true, true, true, true, true, true, true, true, true, true, true, true, true, true, true, true, true, true, true, true, true, true, true, true, true, false, false] rfl rfl (by kernel_rfl) (fun _ _ _ h => h) (by rfl) (by simp only [Act.put, List.setIfInBounds_toArray, List.set_cons_zero, List.set_cons_succ, i64_w, i32_w]; rfl) ?_
          refine off_ (i := 33) (N := (some 63)) #[true, true, true, true, true, true, true, true, true, true, true, true, true, true, true, true, true, true, true, true, true, true, true, true, true, true, true, true, true, true, true, true, true, true, false] rfl rfl (by kernel_rfl) (fun _ _ _ h => h) (by rfl) (by simp only [Act.put, List.setIfInBounds_toArray, List.set_cons_zero, List.set_cons_succ, i64_w, i32_w]; rfl) ?_
          refine pure_ (i := 34) (N := (some 64)) (v := ?_) (a' := ?_) #[true, true, true, true, true, true, true, true, true, true, true, true, true, true, true, true, true, true, true, true, true, true, true, true, true, true, true, true, true, true, true, true, true, true, true] rfl rfl (by kernel_rfl) (fun _ _ _ h => h) (Or.inl ⟨by rfl, ?_⟩) ?_ ?_
          rotate_left
          · intro w'; go_simp; first | done | with_reducible rfl
          rotate_left
          · simp only [Act.put, List.setIfInBounds_toArray, List.set_cons_zero, List.set_cons_succ, i64_w, i32_w]; rfl
          refine done_ (by kernel_rfl) ?_
          clear q0 q1 h0 h1 hHeld
          go_wp2_with fail
          exact ⟨⟨0 + 1, by omega, by go_num, Lib.hid (goodTo_next HG.out HGK.out), Lib.hid HBA.out.drew⟩, by simp [intOf]; omega⟩
        · obtain ⟨m, rfl⟩ : ∃ m, k = m + 1 := ⟨k - 1, by omega⟩
          have q2 := HPA.out.c0 m (by omega)
          have q3 := HPA.out.c1 m (by omega)
          have hmn : m < n := by omega
          have hwm : wrap64 (m : Int) = m := by unfold wrap64; omega
          have hci := cmpP_iff (x m) (y m) (x (m + 1)) (y (m + 1))
          by_cases g1 : x m > x (m + 1)
          · have HGN := HGN (fun q => by
              have := q.2
              simp at this
              rw [hci] at this
              omega)
            clear hci
            refine start_ (n := 35) (S := fun w' => w'.cell? ⟨G, 0, none⟩ = some (.int .i64 (x (m + 1))) ∧ w'.cell? ⟨G, 1, none⟩ = some (.int .i64 (y (m + 1))) ∧ w'.cell? ⟨b, off + m * 2, none⟩ = some (.int .i64 (x m)) ∧ w'.cell? ⟨b, off + m * 2 + 1, none⟩ = some (.int .i64 (y m))) (ds := []) #[false, false, false, false, false, false, false, false, false, false, false, false, false, false, false, false, false, false, false, false, false, false, false, false, false, false, false, false, false, false, false, false, false, false, false] (by kernel_rfl) rfl rfl ⟨by simpa using q0, by simpa using q1, by simpa using q2, by simpa using q3⟩ (fun hHeld => ?_)
            refine pure_ (i := 0) (N := (some 30)) (v := ?_) (a' := ?_) #[true, false, false, false, false, false, false, false, false, false, false, false, false, false, false, false, false, false, false, false, false, false, false, false, false, false, false, false, false, false, false, false, false, false, false] rfl rfl (by kernel_rfl) (fun _ _ _ h => h) (Or.inl ⟨by rfl, ?_⟩) ?_ ?_
            rotate_left
            · intro w'; go_simp; first | done | with_reducible rfl
            rotate_left
            · simp only [Act.put, List.setIfInBounds_toArray, List.set_cons_zero, List.set_cons_succ, i64_w, i32_w]; rfl
            refine pure_ (i := 1) (N := (some 31)) (v := (.bool true)) (a' := ?_) #[true, true, false, false, false, false, false, false, false, false, false, false, false, false, false, false, false, false, false, false, false, false, false, false, false, false, false, false, false, false, false, false, false, false, false] rfl rfl (by kernel_rfl) (fun _ _ _ h => h) (Or.inl ⟨by rfl, ?_⟩) ?_ ?_
            · intro w'; go_simp; first | done | with_reducible rfl
            rotate_left
            · simp only [Act.put, List.setIfInBounds_toArray, List.set_cons_zero, List.set_cons_succ, i64_w, i32_w]; rfl
            refine pure_ (i := 2) (N := (some 32)) (v := ?_) (a' := ?_) #[true, true, true, false, false, false, false, false, false, false, false, false, false, false, false, false, false, false, false, false, false, false, false, false, false, false, false, false, false, false, false, false, false, false, false] rfl rfl (by kernel_rfl) (fun _ _ _ h => h) (Or.inl ⟨by rfl, ?_⟩) ?_ ?_
            rotate_left
            · intro w'; go_simp; first | done | with_reducible rfl
            rotate_left
            · simp only [Act.put, List.setIfInBounds_toArray, List.set_cons_zero, List.set_cons_succ, i64_w, i32_w]; rfl
            refine pure_ (i := 3) (N := (some 33)) (v := ?_) (a' := ?_) #[true, true, true, true, false, false, false, false, false, false, false, false, false, false, false, false, false, false, false, false, false, false, false, false, false, false, false, false, false, false, false, false, false, false, false] rfl rfl (by kernel_rfl) (fun _ _ _ h => h) (Or.inl ⟨by rfl, ?_⟩) ?_ ?_
            rotate_left
            · intro w'; go_simp; first | done | with_reducible rfl
            rotate_left
            · simp only [Act.put, List.setIfInBounds_toArray, List.set_cons_zero, List.set_cons_succ, i64_w, i32_w]; rfl
            refine pure_ (i := 4) (N := (some 34)) (v := ?_) (a' := ?_) #[true, true, true, true, true, false, false, false, false, false, false, false, false, false, false, false, false, false, false, false, false, false, false, false, false, false, false, false, false, false, false, false, false, false, false] rfl rfl (by kernel_rfl) (fun _ _ _ h => h) (Or.inl ⟨by rfl, ?_⟩) ?_ ?_
            rotate_left
            · intro w'; go_simp; first | done | with_reducible rfl
            rotate_left
            · simp only [Act.put, List.setIfInBounds_toArray, List.set_cons_zero, List.set_cons_succ, i64_w, i32_w]; rfl
            refine pure_ (i := 5) (N := (some 35)) (v := ?_) (a' := ?_) #[true, true, true, true, true, true, false, false, false, false, false, false, false, false, false, false, false, false, false, false, false, false, false, false, false, false, false, false, false, false, false, false, false, false, false] rfl rfl (by kernel_rfl) (fun _ _ _ h => h) (Or.inl ⟨by rfl, ?_⟩) ?_ ?_
            rotate_left
            · intro w'; go_simp; first | done | with_reducible rfl
            rotate_left
            · simp only [Act.put, List.setIfInBounds_toArray, List.set_cons_zero, List.set_cons_succ, i64_w, i32_w]; rfl
            refine pure_ (i := 6) (N := (some 36)) (v := ?_) (a' := ?_) #[true, true, true, true, true, true, true, false, false, false, false, false, false, false, false, false, false, false, false, false, false, false, false, false, false, false, false, false, false, false, false, false, false, false, false] rfl rfl (by kernel_rfl) (fun _ _ _ h => h) (Or.inl ⟨by rfl, ?_⟩) ?_ ?_
            rotate_left
            · intro w'; go_simp; first | done | with_reducible rfl
            rotate_left
            · simp only [Act.put, List.setIfInBounds_toArray, List.set_cons_zero, List.set_cons_succ, i64_w, i32_w]; rfl
            refine pure_ (i := 7) (N := (some 37)) (v := ?_) (a' := ?_) #[true, true, true, true, true, true, true, true, false, false, false, false, false, false, false, false, false, false, false, false, false, false, false, false, false, false, false, false, false, false, false, false, false, false, false] rfl rfl (by kernel_rfl) (fun _ _ _ h => h) (Or.inl ⟨by rfl, ?_⟩) ?_ ?_
            rotate_left
            · intro w'; go_simp; first | done | with_reducible rfl
            rotate_left
            · simp only [Act.put, List.setIfInBounds_toArray, List.set_cons_zero, List.set_cons_succ, i64_w, i32_w]; rfl
            refine take_ (i := 8) (N := (some 38)) (v := ?_) (a' := ?_) #[true, true, true, true, true, true, true, true, true, false, false, false, false, false, false, false, false, false, false, false, false, false, false, false, false, false, false, false, false, false, false, false, false, false, false] rfl rfl (by kernel_rfl) (fun _ _ _ h => h) (Or.inl ⟨by rfl, ?_⟩) hHeld ?_ ?_
            rotate_left
            · rintro w' ⟨s0, s1, s2, s3⟩; go_simp; first | done | with_reducible rfl
            rotate_left
            · simp only [Act.put, List.setIfInBounds_toArray, List.set_cons_zero, List.set_cons_succ, i64_w, i32_w]; rfl
            refine pure_ (i := 9) (N := (some 39)) (v := ?_) (a' := ?_) #[true, true, true, true, true, true, true, true, true, true, false, false, false, false, false, false, false, false, false, false, false, false, false, false, false, false, false, false, false, false, false, false, false, false, false] rfl rfl (by kernel_rfl) (fun _ _ _ h => h) (Or.inl ⟨by rfl, ?_⟩) ?_ ?_
            rotate_left
            · intro w'; go_simp; first | done | with_reducible rfl
            rotate_left
            · simp only [Act.put, List.setIfInBounds_toArray, List.set_cons_zero, List.set_cons_succ, i64_w, i32_w]; rfl
            refine take_ (i := 10) (N := (some 40)) (v := ?_) (a' := ?_) #[true, true, true, true, true, true, true, true, true, true, true, false, false, false, false, false, false, false, false, false, false, false, false, false, false, false, false, false, false, false, false, false, false, false, false] rfl rfl (by kernel_rfl) (fun _ _ _ h => h) (Or.inl ⟨by rfl, ?_⟩) hHeld ?_ ?_
            rotate_left
            · rintro w' ⟨s0, s1, s2, s3⟩; go_simp; first | done | with_reducible rfl
            rotate_left
            · simp only [Act.put, List.setIfInBounds_toArray, List.set_cons_zero, List.set_cons_succ, i64_w, i32_w]; rfl
            refine pure_ (i := 11) (N := (some 41)) (v := (.bool true)) (a' := ?_) #[true, true, true, true, true, true, true, true, true, true, true, true, false, false, false, false, false, false, false, false, false, false, false, false, false, false, false, false, false, false, false, false, false, false, false] rfl rfl (by kernel_rfl) (fun _ _ _ h => h) (Or.inl ⟨by rfl, ?_⟩) ?_ ?_
            · intro w'; go_simp; first | done | with_reducible rfl
            rotate_left
            · simp only [Act.put, List.setIfInBounds_toArray, List.set_cons_zero, List.set_cons_succ, i64_w, i32_w]; rfl
            refine pure_ (i := 12) (N := (some 42)) (v := ?_) (a' := ?_) #[true, true, true, true, true, true, true, true, true, true, true, true, true, false, false, false, false, false, false, false, false, false, false, false, false, false, false, false, false, false, false, false, false, false, false] rfl rfl (by kernel_rfl) (fun _ _ _ h => h) (Or.inl ⟨by rfl, ?_⟩) ?_ ?_
            rotate_left
            · intro w'; go_simp; first | done | with_reducible rfl
            rotate_left
            · simp only [Act.put, List.setIfInBounds_toArray, List.set_cons_zero, List.set_cons_succ, i64_w, i32_w]; rfl
            refine off_ (i := 13) (N := (some 43)) #[true, true, true, true, true, true, true, true, true, true, true, true, true, true, false, false, false, false, false, false, false, false, false, false, false, false, false, false, false, false, false, false, false, false, false] rfl rfl (by kernel_rfl) (fun _ _ _ h => h) (by rfl) (by simp only [Act.put, List.setIfInBounds_toArray, List.set_cons_zero, List.set_cons_succ, i64_w, i32_w]; rfl) ?_
            refine off_ (i := 14) (N := (some 44)) #[true, true, true, true, true, true, true, true, true, true, true, true, true, true, true, false, false, false, false, false, false, false, false, false, false, false, false, false, false, false, false, false, false, false, false] rfl rfl (by kernel_rfl) (fun _ _ _ h => h) (by rfl) (by simp only [Act.put, List.setIfInBounds_toArray, List.set_cons_zero, List.set_cons_succ, i64_w, i32_w]; rfl) ?_
            refine off_ (i := 15) (N := (some 45)) #[true, true, true, true, true, true, true, true, true, true, true, true, true, true, true, true, false, false, false, false, false, false, false, false, false, false, false, false, false, false, false, false, false, false, false] rfl rfl (by kernel_rfl) (fun _ _ _ h => h) (by rfl) (by simp only [Act.put, List.setIfInBounds_toArray, List.set_cons_zero, List.set_cons_succ, i64_w, i32_w]; rfl) ?_
            refine off_ (i := 16) (N := (some 46)) #[true, true, true, true, true, true, true, true, true, true, true, true, true, true, true, true, true, false, false, false, false, false, false, false, false, false, false, false, false, false, false, false, false, false, false] rfl rfl (by kernel_rfl) (fun _ _ _ h => h) (by rfl) (by simp only [Act.put, List.setIfInBounds_toArray, List.set_cons_zero, List.set_cons_succ, i64_w, i32_w]; rfl) ?_
            refine off_ (i := 17) (N := (some 47)) #[true, true, true, true, true, true, true, true, true, true, true, true, true, true, true, true, true, true, false, false, false, false, false, false, false, false, false, false, false, false, false, false, false, false, false] rfl rfl (by kernel_rfl) (fun _ _ _ h => h) (by rfl) (by simp only [Act.put, List.setIfInBounds_toArray, List.set_cons_zero, List.set_cons_succ, i64_w, i32_w]; rfl) ?_
            refine off_ (i := 18) (N := (some 48)) #[true, true, true, true, true, true, true, true, true, true, true, true, true, true, true, true, true, true, true, false, false, false, false, false, false, false, false, false, false, false, false, false, false, false, false] rfl rfl (by kernel_rfl) (fun _ _ _ h => h) (by rfl) (by simp only [Act.put, List.setIfInBounds_toArray, List.set_cons_zero, List.set_cons_succ, i64_w, i32_w]; rfl) ?_
            refine off_ (i := 19) (N := (some 49)) #[true, true, true, true, true, true, true, true, true, true, true, true, true, true, true, true, true, true, true, true, false, false, false, false, false, false, false, false, false, false, false, false, false, false, false] rfl rfl (by kernel_rfl) (fun _ _ _ h => h) (by rfl) (by simp only [Act.put, List.setIfInBounds_toArray, List.set_cons_zero, List.set_cons_succ, i64_w, i32_w]; rfl) ?_
            refine off_ (i := 20) (N := (some 50)) #[true, true, true, true, true, true, true, true, true, true, true, true, true, true, true, true, true, true, true, true, true, false, false, false, false, false, false, false, false, false, false, false, false, false, false] rfl rfl (by kernel_rfl) (fun _ _ _ h => h) (by rfl) (by simp only [Act.put, List.setIfInBounds_toArray, List.set_cons_zero, List.set_cons_succ, i64_w, i32_w]; rfl) ?_
            refine off_ (i := 21) (N := (some 51)) #[true, true, true, true, true, true, true, true, true, true, true, true, true, true, true, true, true, true, true, true, true, true, false, false, false, false, false, false, false, false, false, false, false, false, false] rfl rfl (by kernel_rfl) (fun _ _ _ h => h) (by rfl) (by simp only [Act.put, List.setIfInBounds_toArray, List.set_cons_zero, List.set_cons_succ, i64_w, i32_w]; rfl) ?_
            refine off_ (i := 22) (N := (some 52)) #[true, true, true, true, true, true, true, true, true, true, true, true, true, true, true, true, true, true, true, true, true, true, true, false, false, false, false, false, false, false, false, false, false, false, false] rfl rfl (by kernel_rfl) (fun _ _ _ h => h) (by rfl) (by simp only [Act.put, List.setIfInBounds_toArray, List.set_cons_zero, List.set_cons_succ, i64_w, i32_w]; rfl) ?_
            refine off_ (i := 23) (N := (some 53)) #[true, true, true, true, true, true, true, true, true, true, true, true, true, true, true, true, true, true, true, true, true, true, true, true, false, false, false, false, false, false, false, false, false, false, false] rfl rfl (by kernel_rfl) (fun _ _ _ h => h) (by rfl) (by simp only [Act.put, List.setIfInBounds_toArray, List.set_cons_zero, List.set_cons_succ, i64_w, i32_w]; rfl) ?_
            refine off_ (i := 24) (N := (some 54)) #[true, true, true, true, true, true, true, true, true, true, true, true, true, true, true, true, true, true, true, true, true, true, true, true, true, false, false, false, false, false, false, false, false, false, false] rfl rfl (by kernel_rfl) (fun _ _ _ h => h) (by rfl) (by simp only [Act.put, List.setIfInBounds_toArray, List.set_cons_zero, List.set_cons_succ, i64_w, i32_w]; rfl) ?_
            refine off_ (i := 25) (N := (some 55)) #[true, true, true, true, true, true, true, true, true, true, true, true, true, true, true, true, true, true, true, true, true, true, true, true, true, true, false, false, false, false, false, false, false, false, false] rfl rfl (by kernel_rfl) (fun _ _ _ h => h) (by rfl) (by simp only [Act.put, List.setIfInBounds_toArray, List.set_cons_zero, List.set_cons_succ, i64_w, i32_w]; rfl) ?_
            refine off_ (i := 26) (N := (some 56)) #[true, true, true, true, true, true, true, true, true, true, true, true, true, true, true, true, true, true, true, true, true, true, true, true, true, true, true, false, false, false, false, false, false, false, false] rfl rfl (by kernel_rfl) (fun _ _ _ h => h) (by rfl) (by simp only [Act.put, List.setIfInBounds_toArray, List.set_cons_zero, List.set_cons_succ, i64_w, i32_w]; rfl) ?_
            refine off_ (i := 27) (N := (some 57)) #[true, true, true, true, true, true, true, true, true, true, true, true, true, true, true, true, true, true, true, true, true, true, true, true, true, true, true, true, false, false, false, false, false, false, false] rfl rfl (by kernel_rfl) (fun _ _ _ h => h) (by rfl) (by simp only [Act.put, List.setIfInBounds_toArray, List.set_cons_zero, List.set_cons_succ, i64_w, i32_w]; rfl) ?_
            refine off_ (i := 28) (N := (some 58)) #[true, true, true, true, true, true, true, true, true, true, true, true, true, true, true, true, true, true, true, true, true, true, true, true, true, true, true, true, true, false, false, false, false, false, false] rfl rfl (by kernel_rfl) (fun _ _ _ h => h) (by rfl) (by simp only [Act.put, List.setIfInBounds_toArray, List.set_cons_zero, List.set_cons_succ, i64_w, i32_w]; rfl) ?_
            refine off_ (i := 29) (N := (some 59)) #[true, true, true, true, true, true, true, true, true, true, true, true, true, true, true, true, true, true, true, true, true, true, true, true, true, true, true, true, true, true, false, false, false, false, false] rfl rfl (by kernel_rfl) (fun _ _ _ h => h) (by rfl) (by simp only [Act.put, List.setIfInBounds_toArray, List.set_cons_zero, List.set_cons_succ, i64_w, i32_w]; rfl) ?_
            refine off_ (i := 30) (N := (some 60)) #[true, true, true, true, true, true, true, true, true, true, true, true, true, true, true, true, true, true, true, true, true, true, true, true, true, true, true, true, true, true, true, false, false, false, false] rfl rfl (by kernel_rfl) (fun _ _ _ h => h) (by rfl) (by simp only [Act.put, List.setIfInBounds_toArray, List.set_cons_zero, List.set_cons_succ, i64_w, i32_w]; rfl) ?_
            refine off_ (i := 31) (N := (some 61)) #[true, true, true, true, true, true, true, true, true, true, true, true, true, true, true, true, true, true, true, true, true, true, true, true, true, true, true, true, true, true, true, true, false, false, false] rfl rfl (by kernel_rfl) (fun _ _ _ h => h) (by rfl) (by simp only [Act.put, List.setIfInBounds_toArray, List.set_cons_zero, List.set_cons_succ, i64_w, i32_w]; rfl) ?_
            refine off_ (i := 32) (N := (some 62)) #[true, true, true, true, true, true, true, true, true, true, true, true, true, true, true, true, true, true, true, true, true, true, true, true, true, true, true, true, true, true, true, true, true, false, false] rfl rfl (by kernel_rfl) (fun _ _ _ h => h) (by rfl) (by simp only [Act.put, List.setIfInBounds_toArray, List.set_cons_zero, List.set_cons_succ, i64_w, i32_w]; rfl) ?_
            refine pure_ (i := 33) (N := (some 63)) (v := ?_) (a' := ?_) #[true, true, true, true, true, true, true, true, true, true, true, true, true, true, true, true, true, true, true, true, true, true, true, true, true, true, true, true, true, true, true, true, true, true, false] rfl rfl (by kernel_rfl) (fun _ _ _ h => h) (Or.inl ⟨by rfl, ?_⟩) ?_ ?_
            rotate_left
            · intro w'; go_simp; first | done | with_reducible rfl
            rotate_left
            · simp only [Act.put, List.setIfInBounds_toArray, List.set_cons_zero, List.set_cons_succ, i64_w, i32_w]; rfl
            refine pure_ (i := 34) (N := (some 64)) (v := ?_) (a' := ?_) #[true, true, true, true, true, true, true, true, true, true, true, true, true, true, true, true, true, true, true, true, true, true, true, true, true, true, true, true, true, true, true, true, true, true, true] rfl rfl (by kernel_rfl) (fun _ _ _ h => h) (Or.inl ⟨by rfl, ?_⟩) ?_ ?_
            rotate_left
            · intro w'; go_simp; first | done | with_reducible rfl
            rotate_left
            · simp only [Act.put, List.setIfInBounds_toArray, List.set_cons_zero, List.set_cons_succ, i64_w, i32_w]; rfl
            refine done_ (by kernel_rfl) ?_
            clear q2 q3 q0 q1 h0 h1 hHeld
            go_wp2
            go_ret
            exact ⟨by rw [goodL_no HGN.out]; rfl, HBA.out.drew⟩
          · by_cases g2 : x m = x (m + 1)
            · by_cases g3 : y m ≥ y (m + 1)
              · have HGN := HGN (fun q => by
                  have := q.2
                  simp at this
                  rw [hci] at this
                  omega)
                clear hci
                refine start_ (n := 35) (S := fun w' => w'.cell? ⟨G, 0, none⟩ = some (.int .i64 (x (m + 1))) ∧ w'.cell? ⟨G, 1, none⟩ = some (.int .i64 (y (m + 1))) ∧ w'.cell? ⟨b, off + m * 2, none⟩ = some (.int .i64 (x m)) ∧ w'.cell? ⟨b, off + m * 2 + 1, none⟩ = some (.int .i64 (y m))) (ds := []) #[false, false, false, false, false, false, false, false, false, false, false, false, false, false, false, false, false, false, false, false, false, false, false, false, false, false, false, false, false, false, false, false, false, false, false] (by kernel_rfl) rfl rfl ⟨by simpa using q0, by simpa using q1, by simpa using q2, by simpa using q3⟩ (fun hHeld => ?_)
                refine pure_ (i := 0) (N := (some 30)) (v := ?_) (a' := ?_) #[true, false, false, false, false, false, false, false, false, false, false, false, false, false, false, false, false, false, false, false, false, false, false, false, false, false, false, false, false, false, false, false, false, false, false] rfl rfl (by kernel_rfl) (fun _ _ _ h => h) (Or.inl ⟨by rfl, ?_⟩) ?_ ?_
                rotate_left
                · intro w'; go_simp; first | done | with_reducible rfl
                rotate_left
                · simp only [Act.put, List.setIfInBounds_toArray, List.set_cons_zero, List.set_cons_succ, i64_w, i32_w]; rfl
                refine pure_ (i := 1) (N := (some 31)) (v := (.bool true)) (a' := ?_) #[true, true, false, false, false, false, false, false, false, false, false, false, false, false, false, false, false, false, false, false, false, false, false, false, false, false, false, false, false, false, false, false, false, false, false] rfl rfl (by kernel_rfl) (fun _ _ _ h => h) (Or.inl ⟨by rfl, ?_⟩) ?_ ?_
                · intro w'; go_simp; first | done | with_reducible rfl
                rotate_left
                · simp only [Act.put, List.setIfInBounds_toArray, List.set_cons_zero, List.set_cons_succ, i64_w, i32_w]; rfl
                refine pure_ (i := 2) (N := (some 32)) (v := ?_) (a' := ?_) #[true, true, true, false, false, false, false, false, false, false, false, false, false, false, false, false, false, false, false, false, false, false, false, false, false, false, false, false, false, false, false, false, false, false, false] rfl rfl (by kernel_rfl) (fun _ _ _ h => h) (Or.inl ⟨by rfl, ?_⟩) ?_ ?_
                rotate_left
                · intro w'; go_simp; first | done | with_reducible rfl
                rotate_left
                · simp only [Act.put, List.setIfInBounds_toArray, List.set_cons_zero, List.set_cons_succ, i64_w, i32_w]; rfl
                refine pure_ (i := 3) (N := (some 33)) (v := ?_) (a' := ?_) #[true, true, true, true, false, false, false, false, false, false, false, false, false, false, false, false, false, false, false, false, false, false, false, false, false, false, false, false, false, false, false, false, false, false, false] rfl rfl (by kernel_rfl) (fun _ _ _ h => h) (Or.inl ⟨by rfl, ?_⟩) ?_ ?_
                rotate_left
                · intro w'; go_simp; first | done | with_reducible rfl
                rotate_left
                · simp only [Act.put, List.setIfInBounds_toArray, List.set_cons_zero, List.set_cons_succ, i64_w, i32_w]; rfl
                refine pure_ (i := 4) (N := (some 34)) (v := ?_) (a' := ?_) #[true, true, true, true, true, false, false, false, false, false, false, false, false, false, false, false, false, false, false, false, false, false, false, false, false, false, false, false, false, false, false, false, false, false, false] rfl rfl (by kernel_rfl) (fun _ _ _ h => h) (Or.inl ⟨by rfl, ?_⟩) ?_ ?_
                rotate_left
                · intro w'; go_simp; first | done | with_reducible rfl
                rotate_left
                · simp only [Act.put, List.setIfInBounds_toArray, List.set_cons_zero, List.set_cons_succ, i64_w, i32_w]; rfl
                refine pure_ (i := 5) (N := (some 35)) (v := ?_) (a' := ?_) #[true, true, true, true, true, true, false, false, false, false, false, false, false, false, false, false, false, false, false, false, false, false, false, false, false, false, false, false, false, false, false, false, false, false, false] rfl rfl (by kernel_rfl) (fun _ _ _ h => h) (Or.inl ⟨by rfl, ?_⟩) ?_ ?_
                rotate_left
                · intro w'; go_simp; first | done | with_reducible rfl
                rotate_left
                · simp only [Act.put, List.setIfInBounds_toArray, List.set_cons_zero, List.set_cons_succ, i64_w, i32_w]; rfl
                refine pure_ (i := 6) (N := (some 36)) (v := ?_) (a' := ?_) #[true, true, true, true, true, true, true, false, false, false, false, false, false, false, false, false, false, false, false, false, false, false, false, false, false, false, false, false, false, false, false, false, false, false, false] rfl rfl (by kernel_rfl) (fun _ _ _ h => h) (Or.inl ⟨by rfl, ?_⟩) ?_ ?_
                rotate_left
                · intro w'; go_simp; first | done | with_reducible rfl
                rotate_left
                · simp only [Act.put, List.setIfInBounds_toArray, List.set_cons_zero, List.set_cons_succ, i64_w, i32_w]; rfl
                refine pure_ (i := 7) (N := (some 37)) (v := ?_) (a' := ?_) #[true, true, true, true, true, true, true, true, false, false, false, false, false, false, false, false, false, false, false, false, false, false, false, false, false, false, false, false, false, false, false, false, false, false, false] rfl rfl (by kernel_rfl) (fun _ _ _ h => h) (Or.inl ⟨by rfl, ?_⟩) ?_ ?_
                rotate_left
                · intro w'; go_simp; first | done | with_reducible rfl
                rotate_left
                · simp only [Act.put, List.setIfInBounds_toArray, List.set_cons_zero, List.set_cons_succ, i64_w, i32_w]; rfl
                refine take_ (i := 8) (N := (some 38)) (v := ?_) (a' := ?_) #[true, true, true, true, true, true, true, true, true, false, false, false, false, false, false, false, false, false, false, false, false, false, false, false, false, false, false, false, false, false, false, false, false, false, false] rfl rfl (by kernel_rfl) (fun _ _ _ h => h) (Or.inl ⟨by rfl, ?_⟩) hHeld ?_ ?_
                rotate_left
                · rintro w' ⟨s0, s1, s2, s3⟩; go_simp; first | done | with_reducible rfl
                rotate_left
                · simp only [Act.put, List.setIfInBounds_toArray, List.set_cons_zero, List.set_cons_succ, i64_w, i32_w]; rfl
                refine pure_ (i := 9) (N := (some 39)) (v := ?_) (a' := ?_) #[true, true, true, true, true, true, true, true, true, true, false, false, false, false, false, false, false, false, false, false, false, false, false, false, false, false, false, false, false, false, false, false, false, false, false] rfl rfl (by kernel_rfl) (fun _ _ _ h => h) (Or.inl ⟨by rfl, ?_⟩) ?_ ?_
                rotate_left
                · intro w'; go_simp; first | done | with_reducible rfl
                rotate_left
                · simp only [Act.put, List.setIfInBounds_toArray, List.set_cons_zero, List.set_cons_succ, i64_w, i32_w]; rfl
                refine take_ (i := 10) (N := (some 40)) (v := ?_) (a' := ?_) #[true, true, true, true, true, true, true, true, true, true, true, false, false, false, false, false, false, false, false, false, false, false, false, false, false, false, false, false, false, false, false, false, false, false, false] rfl rfl (by kernel_rfl) (fun _ _ _ h => h) (Or.inl ⟨by rfl, ?_⟩) hHeld ?_ ?_
                rotate_left
                · rintro w' ⟨s0, s1, s2, s3⟩; go_simp; first | done | with_reducible rfl
                rotate_left
                · simp only [Act.put, List.setIfInBounds_toArray, List.set_cons_zero, List.set_cons_succ, i64_w, i32_w]; rfl
                refine pure_ (i := 11) (N := (some 41)) (v := (.bool false)) (a' := ?_) #[true, true, true, true, true, true, true, true, true, true, true, true, false, false, false, false, false, false, false, false, false, false, false, false, false, false, false, false, false, false, false, false, false, false, false] rfl rfl (by kernel_rfl) (fun _ _ _ h => h) (Or.inl ⟨by rfl, ?_⟩) ?_ ?_
                · intro w'; go_simp; first | done | with_reducible rfl
                rotate_left
                · simp only [Act.put, List.setIfInBounds_toArray, List.set_cons_zero, List.set_cons_succ, i64_w, i32_w]; rfl
                refine pure_ (i := 12) (N := (some 42)) (v := ?_) (a' := ?_) #[true, true, true, true, true, true, true, true, true, true, true, true, true, false, false, false, false, false, false, false, false, false, false, false, false, false, false, false, false, false, false, false, false, false, false] rfl rfl (by kernel_rfl) (fun _ _ _ h => h) (Or.inl ⟨by rfl, ?_⟩) ?_ ?_
                rotate_left
                · intro w'; go_simp; first | done | with_reducible rfl
                rotate_left
                · simp only [Act.put, List.setIfInBounds_toArray, List.set_cons_zero, List.set_cons_succ, i64_w, i32_w]; rfl
                refine pure_ (i := 13) (N := (some 43)) (v := ?_) (a' := ?_) #[true, true, true, true, true, true, true, true, true, true, true, true, true, true, false, false, false, false, false, false, false, false, false, false, false, false, false, false, false, false, false, false, false, false, false] rfl rfl (by kernel_rfl) (fun _ _ _ h => h) (Or.inl ⟨by rfl, ?_⟩) ?_ ?_
                rotate_left
                · intro w'; go_simp; first | done | with_reducible rfl
                rotate_left
                · simp only [Act.put, List.setIfInBounds_toArray, List.set_cons_zero, List.set_cons_succ, i64_w, i32_w]; rfl
                refine pure_ (i := 14) (N := (some 44)) (v := ?_) (a' := ?_) #[true, true, true, true, true, true, true, true, true, true, true, true, true, true, true, false, false, false, false, false, false, false, false, false, false, false, false, false, false, false, false, false, false, false, false] rfl rfl (by kernel_rfl) (fun _ _ _ h => h) (Or.inl ⟨by rfl, ?_⟩) ?_ ?_
                rotate_left
                · intro w'; go_simp; first | done | with_reducible rfl
                rotate_left
                · simp only [Act.put, List.setIfInBounds_toArray, List.set_cons_zero, List.set_cons_succ, i64_w, i32_w]; rfl
                refine pure_ (i := 15) (N := (some 45)) (v := ?_) (a' := ?_) #[true, true, true, true, true, true, true, true, true, true, true, true, true, true, true, true, false, false, false, false, false, false, false, false, false, false, false, false, false, false, false, false, false, false, false] rfl rfl (by kernel_rfl) (fun _ _ _ h => h) (Or.inl ⟨by rfl, ?_⟩) ?_ ?_
                rotate_left
                · intro w'; go_simp; first | done | with_reducible rfl
                rotate_left
                · simp only [Act.put, List.setIfInBounds_toArray, List.set_cons_zero, List.set_cons_succ, i64_w, i32_w]; rfl
                refine pure_ (i := 16) (N := (some 46)) (v := ?_) (a' := ?_) #[true, true, true, true, true, true, true, true, true, true, true, true, true, true, true, true, true, false, false, false, false, false, false, false, false, false, false, false, false, false, false, false, false, false, false] rfl rfl (by kernel_rfl) (fun _ _ _ h => h) (Or.inl ⟨by rfl, ?_⟩) ?_ ?_
                rotate_left
                · intro w'; go_simp; first | done | with_reducible rfl
                rotate_left
                · simp only [Act.put, List.setIfInBounds_toArray, List.set_cons_zero, List.set_cons_succ, i64_w, i32_w]; rfl
                refine pure_ (i := 17) (N := (some 47)) (v := ?_) (a' := ?_) #[true, true, true, true, true, true, true, true, true, true, true, true, true, true, true, true, true, true, false, false, false, false, false, false, false, false, false, false, false, false, false, false, false, false, false] rfl rfl (by kernel_rfl) (fun _ _ _ h => h) (Or.inl ⟨by rfl, ?_⟩) ?_ ?_
                rotate_left
                · intro w'; go_simp; first | done | with_reducible rfl
                rotate_left
                · simp only [Act.put, List.setIfInBounds_toArray, List.set_cons_zero, List.set_cons_succ, i64_w, i32_w]; rfl
                refine take_ (i := 18) (N := (some 48)) (v := ?_) (a' := ?_) #[true, true, true, true, true, true, true, true, true, true, true, true, true, true, true, true, true, true, true, false, false, false, false, false, false, false, false, false, false, false, false, false, false, false, false] rfl rfl (by kernel_rfl) (fun _ _ _ h => h) (Or.inl ⟨by rfl, ?_⟩) hHeld ?_ ?_
                rotate_left
                · rintro w' ⟨s0, s1, s2, s3⟩; go_simp; first | done | with_reducible rfl
                rotate_left
                · simp only [Act.put, List.setIfInBounds_toArray, List.set_cons_zero, List.set_cons_succ, i64_w, i32_w]; rfl
                refine pure_ (i := 19) (N := (some 49)) (v := ?_) (a' := ?_) #[true, true, true, true, true, true, true, true, true, true, true, true, true, true, true, true, true, true, true, true, false, false, false, false, false, false, false, false, false, false, false, false, false, false, false] rfl rfl (by kernel_rfl) (fun _ _ _ h => h) (Or.inl ⟨by rfl, ?_⟩) ?_ ?_
                rotate_left
                · intro w'; go_simp; first | done | with_reducible rfl
                rotate_left
                · simp only [Act.put, List.setIfInBounds_toArray, List.set_cons_zero, List.set_cons_succ, i64_w, i32_w]; rfl
                refine take_ (i := 20) (N := (some 50)) (v := ?_) (a' := ?_) #[true, true, true, true, true, true, true, true, true, true, true, true, true, true, true, true, true, true, true, true, true, false, false, false, false, false, false, false, false, false, false, false, false, false, false] rfl rfl (by kernel_rfl) (fun _ _ _ h => h) (Or.inl ⟨by rfl, ?_⟩) hHeld ?_ ?_
                rotate_left
                · rintro w' ⟨s0, s1, s2, s3⟩; go_simp; first | done | with_reducible rfl
                rotate_left
                · simp only [Act.put, List.setIfInBounds_toArray, List.set_cons_zero, List.set_cons_succ, i64_w, i32_w]; rfl
                refine pure_ (i := 21) (N := (some 51)) (v := (.bool true)) (a' := ?_) #[true, true, true, true, true, true, true, true, true, true, true, true, true, true, true, true, true, true, true, true, true, true, false, false, false, false, false, false, false, false, false, false, false, false, false] rfl rfl (by kernel_rfl) (fun _ _ _ h => h) (Or.inl ⟨by rfl, ?_⟩) ?_ ?_
                · intro w'; go_simp; first | done | with_reducible rfl
                rotate_left
                · simp only [Act.put, List.setIfInBounds_toArray, List.set_cons_zero, List.set_cons_succ, i64_w, i32_w]; rfl
                refine pure_ (i := 22) (N := (some 52)) (v := ?_) (a' := ?_) #[true, true, true, true, true, true, true, true, true, true, true, true, true, true, true, true, true, true, true, true, true, true, true, false, false, false, false, false, false, false, false, false, false, false, false] rfl rfl (by kernel_rfl) (fun _ _ _ h => h) (Or.inl ⟨by rfl, ?_⟩) ?_ ?_
                rotate_left
                · intro w'; go_simp; first | done | with_reducible rfl
                rotate_left
                · simp only [Act.put, List.setIfInBounds_toArray, List.set_cons_zero, List.set_cons_succ, i64_w, i32_w]; rfl
                refine pure_ (i := 23) (N := (some 53)) (v := ?_) (a' := ?_) #[true, true, true, true, true, true, true, true, true, true, true, true, true, true, true, true, true, true, true, true, true, true, true, true, false, false, false, false, false, false, false, false, false, false, false] rfl rfl (by kernel_rfl) (fun _ _ _ h => h) (Or.inl ⟨by rfl, ?_⟩) ?_ ?_
                rotate_left
                · intro w'; go_simp; first | done | with_reducible rfl
                rotate_left
                · simp only [Act.put, List.setIfInBounds_toArray, List.set_cons_zero, List.set_cons_succ, i64_w, i32_w]; rfl
                refine pure_ (i := 24) (N := (some 54)) (v := ?_) (a' := ?_) #[true, true, true, true, true, true, true, true, true, true, true, true, true, true, true, true, true, true, true, true, true, true, true, true, true, false, false, false, false, false, false, false, false, false, false] rfl rfl (by kernel_rfl) (fun _ _ _ h => h) (Or.inl ⟨by rfl, ?_⟩) ?_ ?_
                rotate_left
                · intro w'; go_simp; first | done | with_reducible rfl
                rotate_left
                · simp only [Act.put, List.setIfInBounds_toArray, List.set_cons_zero, List.set_cons_succ, i64_w, i32_w]; rfl
                refine pure_ (i := 25) (N := (some 55)) (v := ?_) (a' := ?_) #[true, true, true, true, true, true, true, true, true, true, true, true, true, true, true, true, true, true, true, true, true, true, true, true, true, true, false, false, false, false, false, false, false, false, false] rfl rfl (by kernel_rfl) (fun _ _ _ h => h) (Or.inl ⟨by rfl, ?_⟩) ?_ ?_
                rotate_left
                · intro w'; go_simp; first | done | with_reducible rfl
                rotate_left
                · simp only [Act.put, List.setIfInBounds_toArray, List.set_cons_zero, List.set_cons_succ, i64_w, i32_w]; rfl
                refine pure_ (i := 26) (N := (some 56)) (v := ?_) (a' := ?_) #[true, true, true, true, true, true, true, true, true, true, true, true, true, true, true, true, true, true, true, true, true, true, true, true, true, true, true, false, false, false, false, false, false, false, false] rfl rfl (by kernel_rfl) (fun _ _ _ h => h) (Or.inl ⟨by rfl, ?_⟩) ?_ ?_
                rotate_left
                · intro w'; go_simp; first | done | with_reducible rfl
                rotate_left
                · simp only [Act.put, List.setIfInBounds_toArray, List.set_cons_zero, List.set_cons_succ, i64_w, i32_w]; rfl
                refine pure_ (i := 27) (N := (some 57)) (v := ?_) (a' := ?_) #[true, true, true, true, true, true, true, true, true, true, true, true, true, true, true, true, true, true, true, true, true, true, true, true, true, true, true, true, false, false, false, false, false, false, false] rfl rfl (by kernel_rfl) (fun _ _ _ h => h) (Or.inl ⟨by rfl, ?_⟩) ?_ ?_
                rotate_left
                · intro w'; go_simp; first | done | with_reducible rfl
                rotate_left
                · simp only [Act.put, List.setIfInBounds_toArray, List.set_cons_zero, List.set_cons_succ, i64_w, i32_w]; rfl
                refine take_ (i := 28) (N := (some 58)) (v := ?_) (a' := ?_) #[true, true, true, true, true, true, true, true, true, true, true, true, true, true, true, true, true, true, true, true, true, true, true, true, true, true, true, true, true, false, false, false, false, false, false] rfl rfl (by kernel_rfl) (fun _ _ _ h => h) (Or.inl ⟨by rfl, ?_⟩) hHeld ?_ ?_
                rotate_left
                · rintro w' ⟨s0, s1, s2, s3⟩; go_simp; first | done | with_reducible rfl
                rotate_left
                · simp only [Act.put, List.setIfInBounds_toArray, List.set_cons_zero, List.set_cons_succ, i64_w, i32_w]; rfl
                refine pure_ (i := 29) (N := (some 59)) (v := ?_) (a' := ?_) #[true, true, true, true, true, true, true, true, true, true, true, true, true, true, true, true, true, true, true, true, true, true, true, true, true, true, true, true, true, true, false, false, false, false, false] rfl rfl (by kernel_rfl) (fun _ _ _ h => h) (Or.inl ⟨by rfl, ?_⟩) ?_ ?_
                rotate_left
                · intro w'; go_simp; first | done | with_reducible rfl
                rotate_left
                · simp only [Act.put, List.setIfInBounds_toArray, List.set_cons_zero, List.set_cons_succ, i64_w, i32_w]; rfl
                refine take_ (i := 30) (N := (some 60)) (v := ?_) (a' := ?_) #[true, true, true, true, true, true, true, true, true, true, true, true, true, true, true, true, true, true, true, true, true, true, true, true, true, true, true, true, true, true, true, false, false, false, false] rfl rfl (by kernel_rfl) (fun _ _ _ h => h) (Or.inl ⟨by rfl, ?_⟩) hHeld ?_ ?_
                rotate_left
                · rintro w' ⟨s0, s1, s2, s3⟩; go_simp; first | done | with_reducible rfl
                rotate_left
                · simp only [Act.put, List.setIfInBounds_toArray, List.set_cons_zero, List.set_cons_succ, i64_w, i32_w]; rfl
                refine pure_ (i := 31) (N := (some 61)) (v := (.bool true)) (a' := ?_) #[true, true, true, true, true, true, true, true, true, true, true, true, true, true, true, true, true, true, true, true, true, true, true, true, true, true, true, true, true, true, true, true, false, false, false] rfl rfl (by kernel_rfl) (fun _ _ _ h => h) (Or.inl ⟨by rfl, ?_⟩) ?_ ?_
                · intro w'; go_simp; first | done | with_reducible rfl
                rotate_left
                · simp only [Act.put, List.setIfInBounds_toArray, List.set_cons_zero, List.set_cons_succ, i64_w, i32_w]; rfl
                refine pure_ (i := 32) (N := (some 62)) (v := ?_) (a' := ?_) #[true, true, true, true, true, true, true, true, true, true, true, true, true, true, true, true, true, true, true, true, true, true, true, true, true, true, true, true, true, true, true, true, true, false, false] rfl rfl (by kernel_rfl) (fun _ _ _ h => h) (Or.inl ⟨by rfl, ?_⟩) ?_ ?_
                rotate_left
                · intro w'; go_simp; first | done | with_reducible rfl
                rotate_left
                · simp only [Act.put, List.setIfInBounds_toArray, List.set_cons_zero, List.set_cons_succ, i64_w, i32_w]; rfl
                refine pure_ (i := 33) (N := (some 63)) (v := ?_) (a' := ?_) #[true, true, true, true, true, true, true, true, true, true, true, true, true, true, true, true, true, true, true, true, true, true, true, true, true, true, true, true, true, true, true, true, true, true, false] rfl rfl (by kernel_rfl) (fun _ _ _ h => h) (Or.inl ⟨by rfl, ?_⟩) ?_ ?_
                rotate_left
                · intro w'; go_simp; first | done | with_reducible rfl
                rotate_left
                · simp only [Act.put, List.setIfInBounds_toArray, List.set_cons_zero, List.set_cons_succ, i64_w, i32_w]; rfl
                refine pure_ (i := 34) (N := (some 64)) (v := ?_) (a' := ?_) #[true, true, true, true, true, true, true, true, true, true, true, true, true, true, true, true, true, true, true, true, true, true, true, true, true, true, true, true, true, true, true, true, true, true, true] rfl rfl (by kernel_rfl) (fun _ _ _ h => h) (Or.inl ⟨by rfl, ?_⟩) ?_ ?_
                rotate_left
                · intro w'; go_simp; first | done | with_reducible rfl
                rotate_left
                · simp only [Act.put, List.setIfInBounds_toArray, List.set_cons_zero, List.set_cons_succ, i64_w, i32_w]; rfl
                refine done_ (by kernel_rfl) ?_
                clear q2 q3 q0 q1 h0 h1 hHeld
                go_wp2
                go_ret
                exact ⟨by rw [goodL_no HGN.out]; rfl, HBA.out.drew⟩
              · have HGK := Lib.hid (show (-100 ≤ x (m + 1) ∧ x (m + 1) ≤ 100 ∧ -100 ≤ y (m + 1) ∧ y (m + 1) ≤ 100) ∧ (m + 1 = 0 ∨ cmpP (x (m + 1 - 1)) (y (m + 1 - 1)) (x (m + 1)) (y (m + 1)) < 0) from ⟨⟨x1, x2, x3, x4⟩, .inr (hci.2 (.inr ⟨g2, by omega⟩))⟩)
                clear hci HGN
                refine start_ (n := 35) (S := fun w' => w'.cell? ⟨G, 0, none⟩ = some (.int .i64 (x (m + 1))) ∧ w'.cell? ⟨G, 1, none⟩ = some (.int .i64 (y (m + 1))) ∧ w'.cell? ⟨b, off + m * 2, none⟩ = some (.int .i64 (x m)) ∧ w'.cell? ⟨b, off + m * 2 + 1, none⟩ = some (.int .i64 (y m))) (ds := []) #[false, false, false, false, false, false, false, false, false, false, false, false, false, false, false, false, false, false, false, false, false, false, false, false, false, false, false, false, false, false, false, false, false, false, false] (by kernel_rfl) rfl rfl ⟨by simpa using q0, by simpa using q1, by simpa using q2, by simpa using q3⟩ (fun hHeld => ?_)
                refine pure_ (i := 0) (N := (some 30)) (v := ?_) (a' := ?_) #[true, false, false, false, false, false, false, false, false, false, false, false, false, false, false, false, false, false, false, false, false, false, false, false, false, false, false, false, false, false, false, false, false, false, false] rfl rfl (by kernel_rfl) (fun _ _ _ h => h) (Or.inl ⟨by rfl, ?_⟩) ?_ ?_
                rotate_left
                · intro w'; go_simp; first | done | with_reducible rfl
                rotate_left
                · simp only [Act.put, List.setIfInBounds_toArray, List.set_cons_zero, List.set_cons_succ, i64_w, i32_w]; rfl
                refine pure_ (i := 1) (N := (some 31)) (v := (.bool true)) (a' := ?_) #[true, true, false, false, false, false, false, false, false, false, false, false, false, false, false, false, false, false, false, false, false, false, false, false, false, false, false, false, false, false, false, false, false, false, false] rfl rfl (by kernel_rfl) (fun _ _ _ h => h) (Or.inl ⟨by rfl, ?_⟩) ?_ ?_
                · intro w'; go_simp; first | done | with_reducible rfl
                rotate_left
                · simp only [Act.put, List.setIfInBounds_toArray, List.set_cons_zero, List.set_cons_succ, i64_w, i32_w]; rfl
                refine pure_ (i := 2) (N := (some 32)) (v := ?_) (a' := ?_) #[true, true, true, false, false, false, false, false, false, false, false, false, false, false, false, false, false, false, false, false, false, false, false, false, false, false, false, false, false, false, false, false, false, false, false] rfl rfl (by kernel_rfl) (fun _ _ _ h => h) (Or.inl ⟨by rfl, ?_⟩) ?_ ?_
                rotate_left
                · intro w'; go_simp; first | done | with_reducible rfl
                rotate_left
                · simp only [Act.put, List.setIfInBounds_toArray, List.set_cons_zero, List.set_cons_succ, i64_w, i32_w]; rfl
                refine pure_ (i := 3) (N := (some 33)) (v := ?_) (a' := ?_) #[true, true, true, true, false, false, false, false, false, false, false, false, false, false, false, false, false, false, false, false, false, false, false, false, false, false, false, false, false, false, false, false, false, false, false] rfl rfl (by kernel_rfl) (fun _ _ _ h => h) (Or.inl ⟨by rfl, ?_⟩) ?_ ?_
                rotate_left
                · intro w'; go_simp; first | done | with_reducible rfl
                rotate_left
                · simp only [Act.put, List.setIfInBounds_toArray, List.set_cons_zero, List.set_cons_succ, i64_w, i32_w]; rfl
                refine pure_ (i := 4) (N := (some 34)) (v := ?_) (a' := ?_) #[true, true, true, true, true, false, false, false, false, false, false, false, false, false, false, false, false, false, false, false, false, false, false, false, false, false, false, false, false, false, false, false, false, false, false] rfl rfl (by kernel_rfl) (fun _ _ _ h => h) (Or.inl ⟨by rfl, ?_⟩) ?_ ?_
                rotate_left
                · intro w'; go_simp; first | done | with_reducible rfl
                rotate_left
                · simp only [Act.put, List.setIfInBounds_toArray, List.set_cons_zero, List.set_cons_succ, i64_w, i32_w]; rfl
                refine pure_ (i := 5) (N := (some 35)) (v := ?_) (a' := ?_) #[true, true, true, true, true, true, false, false, false, false, false, false, false, false, false, false, false, false, false, false, false, false, false, false, false, false, false, false, false, false, false, false, false, false, false] rfl rfl (by kernel_rfl) (fun _ _ _ h => h) (Or.inl ⟨by rfl, ?_⟩) ?_ ?_
                rotate_left
                · intro w'; go_simp; first | done | with_reducible rfl
                rotate_left
                · simp only [Act.put, List.setIfInBounds_toArray, List.set_cons_zero, List.set_cons_succ, i64_w, i32_w]; rfl
                refine pure_ (i := 6) (N := (some 36)) (v := ?_) (a' := ?_) #[true, true, true, true, true, true, true, false, false, false, false, false, false, false, false, false, false, false, false, false, false, false, false, false, false, false, false, false, false, false, false, false, false, false, false] rfl rfl (by kernel_rfl) (fun _ _ _ h => h) (Or.inl ⟨by rfl, ?_⟩) ?_ ?_
                rotate_left
                · intro w'; go_simp; first | done | with_reducible rfl
                rotate_left
                · simp only [Act.put, List.setIfInBounds_toArray, List.set_cons_zero, List.set_cons_succ, i64_w, i32_w]; rfl
                refine pure_ (i := 7) (N := (some 37)) (v := ?_) (a' := ?_) #[true, true, true, true, true, true, true, true, false, false, false, false, false, false, false, false, false, false, false, false, false, false, false, false, false, false, false, false, false, false, false, false, false, false, false] rfl rfl (by kernel_rfl) (fun _ _ _ h => h) (Or.inl ⟨by rfl, ?_⟩) ?_ ?_
                rotate_left
                · intro w'; go_simp; first | done | with_reducible rfl
                rotate_left
                · simp only [Act.put, List.setIfInBounds_toArray, List.set_cons_zero, List.set_cons_succ, i64_w, i32_w]; rfl
                refine take_ (i := 8) (N := (some 38)) (v := ?_) (a' := ?_) #[true, true, true, true, true, true, true, true, true, false, false, false, false, false, false, false, false, false, false, false, false, false, false, false, false, false, false, false, false, false, false, false, false, false, false] rfl rfl (by kernel_rfl) (fun _ _ _ h => h) (Or.inl ⟨by rfl, ?_⟩) hHeld ?_ ?_
                rotate_left
                · rintro w' ⟨s0, s1, s2, s3⟩; go_simp; first | done | with_reducible rfl
                rotate_left
                · simp only [Act.put, List.setIfInBounds_toArray, List.set_cons_zero, List.set_cons_succ, i64_w, i32_w]; rfl
                refine pure_ (i := 9) (N := (some 39)) (v := ?_) (a' := ?_) #[true, true, true, true, true, true, true, true, true, true, false, false, false, false, false, false, false, false, false, false, false, false, false, false, false, false, false, false, false, false, false, false, false, false, false] rfl rfl (by kernel_rfl) (fun _ _ _ h => h) (Or.inl ⟨by rfl, ?_⟩) ?_ ?_
                rotate_left
                · intro w'; go_simp; first | done | with_reducible rfl
                rotate_left
                · simp only [Act.put, List.setIfInBounds_toArray, List.set_cons_zero, List.set_cons_succ, i64_w, i32_w]; rfl
                refine take_ (i := 10) (N := (some 40)) (v := ?_) (a' := ?_) #[true, true, true, true, true, true, true, true, true, true, true, false, false, false, false, false, false, false, false, false, false, false, false, false, false, false, false, false, false, false, false, false, false, false, false] rfl rfl (by kernel_rfl) (fun _ _ _ h => h) (Or.inl ⟨by rfl, ?_⟩) hHeld ?_ ?_
                rotate_left
                · rintro w' ⟨s0, s1, s2, s3⟩; go_simp; first | done | with_reducible rfl
                rotate_left
                · simp only [Act.put, List.setIfInBounds_toArray, List.set_cons_zero, List.set_cons_succ, i64_w, i32_w]; rfl
                refine pure_ (i := 11) (N := (some 41)) (v := (.bool false)) (a' := ?_) #[true, true, true, true, true, true, true, true, true, true, true, true, false, false, false, false, false, false, false, false, false, false, false, false, false, false, false, false, false, false, false, false, false, false, false] rfl rfl (by kernel_rfl) (fun _ _ _ h => h) (Or.inl ⟨by rfl, ?_⟩) ?_ ?_
                · intro w'; go_simp; first | done | with_reducible rfl
                rotate_left
                · simp only [Act.put, List.setIfInBounds_toArray, List.set_cons_zero, List.set_cons_succ, i64_w, i32_w]; rfl
                refine pure_ (i := 12) (N := (some 42)) (v := ?_) (a' := ?_) #[true, true, true, true, true, true, true, true, true, true, true, true, true, false, false, false, false, false, false, false, false, false, false, false, false, false, false, false, false, false, false, false, false, false, false] rfl rfl (by kernel_rfl) (fun _ _ _ h => h) (Or.inl ⟨by rfl, ?_⟩) ?_ ?_
                rotate_left
                · intro w'; go_simp; first | done | with_reducible rfl
                rotate_left
                · simp only [Act.put, List.setIfInBounds_toArray, List.set_cons_zero, List.set_cons_succ, i64_w, i32_w]; rfl
                refine pure_ (i := 13) (N := (some 43)) (v := ?_) (a' := ?_) #[true, true, true, true, true, true, true, true, true, true, true, true, true, true, false, false, false, false, false, false, false, false, false, false, false, false, false, false, false, false, false, false, false, false, false] rfl rfl (by kernel_rfl) (fun _ _ _ h => h) (Or.inl ⟨by rfl, ?_⟩) ?_ ?_
                rotate_left
                · intro w'; go_simp; first | done | with_reducible rfl
                rotate_left
                · simp only [Act.put, List.setIfInBounds_toArray, List.set_cons_zero, List.set_cons_succ, i64_w, i32_w]; rfl
                refine pure_ (i := 14) (N := (some 44)) (v := ?_) (a' := ?_) #[true, true, true, true, true, true, true, true, true, true, true, true, true, true, true, false, false, false, false, false, false, false, false, false, false, false, false, false, false, false, false, false, false, false, false] rfl rfl (by kernel_rfl) (fun _ _ _ h => h) (Or.inl ⟨by rfl, ?_⟩) ?_ ?_
                rotate_left
                · intro w'; go_simp; first | done | with_reducible rfl
                rotate_left
                · simp only [Act.put, List.setIfInBounds_toArray, List.set_cons_zero, List.set_cons_succ, i64_w, i32_w]; rfl
                refine pure_ (i := 15) (N := (some 45)) (v := ?_) (a' := ?_) #[true, true, true, true, true, true, true, true, true, true, true, true, true, true, true, true, false, false, false, false, false, false, false, false, false, false, false, false, false, false, false, false, false, false, false] rfl rfl (by kernel_rfl) (fun _ _ _ h => h) (Or.inl ⟨by rfl, ?_⟩) ?_ ?_
                rotate_left
                · intro w'; go_simp; first | done | with_reducible rfl
                rotate_left
                · simp only [Act.put, List.setIfInBounds_toArray, List.set_cons_zero, List.set_cons_succ, i64_w, i32_w]; rfl
                refine pure_ (i := 16) (N := (some 46)) (v := ?_) (a' := ?_) #[true, true, true, true, true, true, true, true, true, true, true, true, true, true, true, true, true, false, false, false, false, false, false, false, false, false, false, false, false, false, false, false, false, false, false] rfl rfl (by kernel_rfl) (fun _ _ _ h => h) (Or.inl ⟨by rfl, ?_⟩) ?_ ?_
                rotate_left
                · intro w'; go_simp; first | done | with_reducible rfl
                rotate_left
                · simp only [Act.put, List.setIfInBounds_toArray, List.set_cons_zero, List.set_cons_succ, i64_w, i32_w]; rfl
                refine pure_ (i := 17) (N := (some 47)) (v := ?_) (a' := ?_) #[true, true, true, true, true, true, true, true, true, true, true, true, true, true, true, true, true, true, false, false, false, false, false, false, false, false, false, false, false, false, false, false, false, false, false] rfl rfl (by kernel_rfl) (fun _ _ _ h => h) (Or.inl ⟨by rfl, ?_⟩) ?_ ?_
                rotate_left
                · intro w'; go_simp; first | done | with_reducible rfl
                rotate_left
                · simp only [Act.put, List.setIfInBounds_toArray, List.set_cons_zero, List.set_cons_succ, i64_w, i32_w]; rfl
                refine take_ (i := 18) (N := (some 48)) (v := ?_) (a' := ?_) #[true, true, true, true, true, true, true, true, true, true, true, true, true, true, true, true, true, true, true, false, false, false, false, false, false, false, false, false, false, false, false, false, false, false, false] rfl rfl (by kernel_rfl) (fun _ _ _ h => h) (Or.inl ⟨by rfl, ?_⟩) hHeld ?_ ?_
                rotate_left
                · rintro w' ⟨s0, s1, s2, s3⟩; go_simp; first | done | with_reducible rfl
                rotate_left
                · simp only [Act.put, List.setIfInBounds_toArray, List.set_cons_zero, List.set_cons_succ, i64_w, i32_w]; rfl
                refine pure_ (i := 19) (N := (some 49)) (v := ?_) (a' := ?_) #[true, true, true, true, true, true, true, true, true, true, true, true, true, true, true, true, true, true, true, true, false, false, false, false, false, false, false, false, false, false, false, false, false, false, false] rfl rfl (by kernel_rfl) (fun _ _ _ h => h) (Or.inl ⟨by rfl, ?_⟩) ?_ ?_
                rotate_left
                · intro w'; go_simp; first | done | with_reducible rfl
                rotate_left
                · simp only [Act.put, List.setIfInBounds_toArray, List.set_cons_zero, List.set_cons_succ, i64_w, i32_w]; rfl
                refine take_ (i := 20) (N := (some 50)) (v := ?_) (a' := ?_) #[true, true, true, true, true, true, true, true, true, true, true, true, true, true, true, true, true, true, true, true, true, false, false, false, false, false, false, false, false, false, false, false, false, false, false] rfl rfl (by kernel_rfl) (fun _ _ _ h => h) (Or.inl ⟨by rfl, ?_⟩) hHeld ?_ ?_
                rotate_left
                · rintro w' ⟨s0, s1, s2, s3⟩; go_simp; first | done | with_reducible rfl
                rotate_left
                · simp only [Act.put, List.setIfInBounds_toArray, List.set_cons_zero, List.set_cons_succ, i64_w, i32_w]; rfl
                refine pure_ (i := 21) (N := (some 51)) (v := (.bool true)) (a' := ?_) #[true, true, true, true, true, true, true, true, true, true, true, true, true, true, true, true, true, true, true, true, true, true, false, false, false, false, false, false, false, false, false, false, false, false, false] rfl rfl (by kernel_rfl) (fun _ _ _ h => h) (Or.inl ⟨by rfl, ?_⟩) ?_ ?_
                · intro w'; go_simp; first | done | with_reducible rfl
                rotate_left
                · simp only [Act.put, List.setIfInBounds_toArray, List.set_cons_zero, List.set_cons_succ, i64_w, i32_w]; rfl
                refine pure_ (i := 22) (N := (some 52)) (v := ?_) (a' := ?_) #[true, true, true, true, true, true, true, true, true, true, true, true, true, true, true, true, true, true, true, true, true, true, true, false, false, false, false, false, false, false, false, false, false, false, false] rfl rfl (by kernel_rfl) (fun _ _ _ h => h) (Or.inl ⟨by rfl, ?_⟩) ?_ ?_
                rotate_left
                · intro w'; go_simp; first | done | with_reducible rfl
                rotate_left
                · simp only [Act.put, List.setIfInBounds_toArray, List.set_cons_zero, List.set_cons_succ, i64_w, i32_w]; rfl
                refine pure_ (i := 23) (N := (some 53)) (v := ?_) (a' := ?_) #[true, true, true, true, true, true, true, true, true, true, true, true, true, true, true, true, true, true, true, true, true, true, true, true, false, false, false, false, false, false, false, false, false, false, false] rfl rfl (by kernel_rfl) (fun _ _ _ h => h) (Or.inl ⟨by rfl, ?_⟩) ?_ ?_
                rotate_left
                · intro w'; go_simp; first | done | with_reducible rfl
                rotate_left
                · simp only [Act.put, List.setIfInBounds_toArray, List.set_cons_zero, List.set_cons_succ, i64_w, i32_w]; rfl
                refine pure_ (i := 24) (N := (some 54)) (v := ?_) (a' := ?_) #[true, true, true, true, true, true, true, true, true, true, true, true, true, true, true, true, true, true, true, true, true, true, true, true, true, false, false, false, false, false, false, false, false, false, false] rfl rfl (by kernel_rfl) (fun _ _ _ h => h) (Or.inl ⟨by rfl, ?_⟩) ?_ ?_
                rotate_left
                · intro w'; go_simp; first | done | with_reducible rfl
                rotate_left
                · simp only [Act.put, List.setIfInBounds_toArray, List.set_cons_zero, List.set_cons_succ, i64_w, i32_w]; rfl
                refine pure_ (i := 25) (N := (some 55)) (v := ?_) (a' := ?_) #[true, true, true, true, true, true, true, true, true, true, true, true, true, true, true, true, true, true, true, true, true, true, true, true, true, true, false, false, false, false, false, false, false, false, false] rfl rfl (by kernel_rfl) (fun _ _ _ h => h) (Or.inl ⟨by rfl, ?_⟩) ?_ ?_
                rotate_left
                · intro w'; go_simp; first | done | with_reducible rfl
                rotate_left
                · simp only [Act.put, List.setIfInBounds_toArray, List.set_cons_zero, List.set_cons_succ, i64_w, i32_w]; rfl
                refine pure_ (i := 26) (N := (some 56)) (v := ?_) (a' := ?_) #[true, true, true, true, true, true, true, true, true, true, true, true, true, true, true, true, true, true, true, true, true, true, true, true, true, true, true, false, false, false, false, false, false, false, false] rfl rfl (by kernel_rfl) (fun _ _ _ h => h) (Or.inl ⟨by rfl, ?_⟩) ?_ ?_
                rotate_left
                · intro w'; go_simp; first | done | with_reducible rfl
                rotate_left
                · simp only [Act.put, List.setIfInBounds_toArray, List.set_cons_zero, List.set_cons_succ, i64_w, i32_w]; rfl
                refine pure_ (i := 27) (N := (some 57)) (v := ?_) (a' := ?_) #[true, true, true, true, true, true, true, true, true, true, true, true, true, true, true, true, true, true, true, true, true, true, true, true, true, true, true, true, false, false, false, false, false, false, false] rfl rfl (by kernel_rfl) (fun _ _ _ h => h) (Or.inl ⟨by rfl, ?_⟩) ?_ ?_
                rotate_left
                · intro w'; go_simp; first | done | with_reducible rfl
                rotate_left
                · simp only [Act.put, List.setIfInBounds_toArray, List.set_cons_zero, List.set_cons_succ, i64_w, i32_w]; rfl
                refine take_ (i := 28) (N := (some 58)) (v := ?_) (a' := ?_) #[true, true, true, true, true, true, true, true, true, true, true, true, true, true, true, true, true, true, true, true, true, true, true, true, true, true, true, true, true, false, false, false, false, false, false] rfl rfl (by kernel_rfl) (fun _ _ _ h => h) (Or.inl ⟨by rfl, ?_⟩) hHeld ?_ ?_
                rotate_left
                · rintro w' ⟨s0, s1, s2, s3⟩; go_simp; first | done | with_reducible rfl
                rotate_left
                · simp only [Act.put, List.setIfInBounds_toArray, List.set_cons_zero, List.set_cons_succ, i64_w, i32_w]; rfl
                refine pure_ (i := 29) (N := (some 59)) (v := ?_) (a' := ?_) #[true, true, true, true, true, true, true, true, true, true, true, true, true, true, true, true, true, true, true, true, true, true, true, true, true, true, true, true, true, true, false, false, false, false, false] rfl rfl (by kernel_rfl) (fun _ _ _ h => h) (Or.inl ⟨by rfl, ?_⟩) ?_ ?_
                rotate_left
                · intro w'; go_simp; first | done | with_reducible rfl
                rotate_left
                · simp only [Act.put, List.setIfInBounds_toArray, List.set_cons_zero, List.set_cons_succ, i64_w, i32_w]; rfl
                refine take_ (i := 30) (N := (some 60)) (v := ?_) (a' := ?_) #[true, true, true, true, true, true, true, true, true, true, true, true, true, true, true, true, true, true, true, true, true, true, true, true, true, true, true, true, true, true, true, false, false, false, false] rfl rfl (by kernel_rfl) (fun _ _ _ h => h) (Or.inl ⟨by rfl, ?_⟩) hHeld ?_ ?_
                rotate_left
                · rintro w' ⟨s0, s1, s2, s3⟩; go_simp; first | done | with_reducible rfl
                rotate_left
                · simp only [Act.put, List.setIfInBounds_toArray, List.set_cons_zero, List.set_cons_succ, i64_w, i32_w]; rfl
                refine pure_ (i := 31) (N := (some 61)) (v := (.bool false)) (a' := ?_) #[true, true, true, true, true, true, true, true, true, true, true, true, true, true, true, true, true, true, true, true, true, true, true, true, true, true, true, true, true, true, true, true, false, false, false] rfl rfl (by kernel_rfl) (fun _ _ _ h => h) (Or.inl ⟨by rfl, ?_⟩) ?_ ?_
                · intro w'; go_simp; first | done | with_reducible rfl
                rotate_left
                · simp only [Act.put, List.setIfInBounds_toArray, List.set_cons_zero, List.set_cons_succ, i64_w, i32_w]; rfl
                refine pure_ (i := 32) (N := (some 62)) (v := ?_) (a' := ?_) #[true, true, true, true, true, true, true, true, true, true, true, true, true, true, true, true, true, true, true, true, true, true, true, true, true, true, true, true, true, true, true, true, true, false, false] rfl rfl (by kernel_rfl) (fun _ _ _ h => h) (Or.inl ⟨by rfl, ?_⟩) ?_ ?_
                rotate_left
                · intro w'; go_simp; first | done | with_reducible rfl
                rotate_left
                · simp only [Act.put, List.setIfInBounds_toArray, List.set_cons_zero, List.set_cons_succ, i64_w, i32_w]; rfl
                refine pure_ (i := 33) (N := (some 63)) (v := ?_) (a' := ?_) #[true, true, true, true, true, true, true, true, true, true, true, true, true, true, true, true, true, true, true, true, true, true, true, true, true, true, true, true, true, true, true, true, true, true, false] rfl rfl (by kernel_rfl) (fun _ _ _ h => h) (Or.inl ⟨by rfl, ?_⟩) ?_ ?_
                rotate_left
                · intro w'; go_simp; first | done | with_reducible rfl
                rotate_left
                · simp only [Act.put, List.setIfInBounds_toArray, List.set_cons_zero, List.set_cons_succ, i64_w, i32_w]; rfl
                refine pure_ (i := 34) (N := (some 64)) (v := ?_) (a' := ?_) #[true, true, true, true, true, true, true, true, true, true, true, true, true, true, true, true, true, true, true, true, true, true, true, true, true, true, true, true, true, true, true, true, true, true, true] rfl rfl (by kernel_rfl) (fun _ _ _ h => h) (Or.inl ⟨by rfl, ?_⟩) ?_ ?_
                rotate_left
                · intro w'; go_simp; first | done | with_reducible rfl
                rotate_left
                · simp only [Act.put, List.setIfInBounds_toArray, List.set_cons_zero, List.set_cons_succ, i64_w, i32_w]; rfl
                refine done_ (by kernel_rfl) ?_
                clear q2 q3 q0 q1 h0 h1 hHeld
                go_wp2_with fail
                exact ⟨⟨(m + 1) + 1, by omega, by go_num, Lib.hid (goodTo_next HG.out HGK.out), Lib.hid HBA.out.drew⟩, by simp [intOf]; omega⟩
            · have HGK := Lib.hid (show (-100 ≤ x (m + 1) ∧ x (m + 1) ≤ 100 ∧ -100 ≤ y (m + 1) ∧ y (m + 1) ≤ 100) ∧ (m + 1 = 0 ∨ cmpP (x (m + 1 - 1)) (y (m + 1 - 1)) (x (m + 1)) (y (m + 1)) < 0) from ⟨⟨x1, x2, x3, x4⟩, .inr (hci.2 (.inl (by omega)))⟩)
              clear hci HGN
              refine start_ (n := 35) (S := fun w' => w'.cell? ⟨G, 0, none⟩ = some (.int .i64 (x (m + 1))) ∧ w'.cell? ⟨G, 1, none⟩ = some (.int .i64 (y (m + 1))) ∧ w'.cell? ⟨b, off + m * 2, none⟩ = some (.int .i64 (x m)) ∧ w'.cell? ⟨b, off + m * 2 + 1, none⟩ = some (.int .i64 (y m))) (ds := []) #[false, false, false, false, false, false, false, false, false, false, false, false, false, false, false, false, false, false, false, false, false, false, false, false, false, false, false, false, false, false, false, false, false, false, false] (by kernel_rfl) rfl rfl ⟨by simpa using q0, by simpa using q1, by simpa using q2, by simpa using q3⟩ (fun hHeld => ?_)
              refine pure_ (i := 0) (N := (some 30)) (v := ?_) (a' := ?_) #[true, false, false, false, false, false, false, false, false, false, false, false, false, false, false, false, false, false, false, false, false, false, false, false, false, false, false, false, false, false, false, false, false, false, false] rfl rfl (by kernel_rfl) (fun _ _ _ h => h) (Or.inl ⟨by rfl, ?_⟩) ?_ ?_
              rotate_left
              · intro w'; go_simp; first | done | with_reducible rfl
              rotate_left
              · simp only [Act.put, List.setIfInBounds_toArray, List.set_cons_zero, List.set_cons_succ, i64_w, i32_w]; rfl
              refine pure_ (i := 1) (N := (some 31)) (v := (.bool true)) (a' := ?_) #[true, true, false, false, false, false, false, false, false, false, false, false, false, false, false, false, false, false, false, false, false, false, false, false, false, false, false, false, false, false, false, false, false, false, false] rfl rfl (by kernel_rfl) (fun _ _ _ h => h) (Or.inl ⟨by rfl, ?_⟩) ?_ ?_
              · intro w'; go_simp; first | done | with_reducible rfl
              rotate_left
              · simp only [Act.put, List.setIfInBounds_toArray, List.set_cons_zero, List.set_cons_succ, i64_w, i32_w]; rfl
              refine pure_ (i := 2) (N := (some 32)) (v := ?_) (a' := ?_) #[true, true, true, false, false, false, false, false, false, false, false, false, false, false, false, false, false, false, false, false, false, false, false, false, false, false, false, false, false, false, false, false, false, false, false] rfl rfl (by kernel_rfl) (fun _ _ _ h => h) (Or.inl ⟨by rfl, ?_⟩) ?_ ?_
              rotate_left
              · intro w'; go_simp; first | done | with_reducible rfl
              rotate_left
              · simp only [Act.put, List.setIfInBounds_toArray, List.set_cons_zero, List.set_cons_succ, i64_w, i32_w]; rfl
              refine pure_ (i := 3) (N := (some 33)) (v := ?_) (a' := ?_) #[true, true, true, true, false, false, false, false, false, false, false, false, false, false, false, false, false, false, false, false, false, false, false, false, false, false, false, false, false, false, false, false, false, false, false] rfl rfl (by kernel_rfl) (fun _ _ _ h => h) (Or.inl ⟨by rfl, ?_⟩) ?_ ?_
              rotate_left
              · intro w'; go_simp; first | done | with_reducible rfl
              rotate_left
              · simp only [Act.put, List.setIfInBounds_toArray, List.set_cons_zero, List.set_cons_succ, i64_w, i32_w]; rfl
              refine pure_ (i := 4) (N := (some 34)) (v := ?_) (a' := ?_) #[true, true, true, true, true, false, false, false, false, false, false, false, false, false, false, false, false, false, false, false, false, false, false, false, false, false, false, false, false, false, false, false, false, false, false] rfl rfl (by kernel_rfl) (fun _ _ _ h => h) (Or.inl ⟨by rfl, ?_⟩) ?_ ?_
              rotate_left
              · intro w'; go_simp; first | done | with_reducible rfl
              rotate_left
              · simp only [Act.put, List.setIfInBounds_toArray, List.set_cons_zero, List.set_cons_succ, i64_w, i32_w]; rfl
              refine pure_ (i := 5) (N := (some 35)) (v := ?_) (a' := ?_) #[true, true, true, true, true, true, false, false, false, false, false, false, false, false, false, false, false, false, false, false, false, false, false, false, false, false, false, false, false, false, false, false, false, false, false] rfl rfl (by kernel_rfl) (fun _ _ _ h => h) (Or.inl ⟨by rfl, ?_⟩) ?_ ?_
              rotate_left
              · intro w'; go_simp; first | done | with_reducible rfl
              rotate_left
              · simp only [Act.put, List.setIfInBounds_toArray, List.set_cons_zero, List.set_cons_succ, i64_w, i32_w]; rfl
              refine pure_ (i := 6) (N := (some 36)) (v := ?_) (a' := ?_) #[true, true, true, true, true, true, true, false, false, false, false, false, false, false, false, false, false, false, false, false, false, false, false, false, false, false, false, false, false, false, false, false, false, false, false] rfl rfl (by kernel_rfl) (fun _ _ _ h => h) (Or.inl ⟨by rfl, ?_⟩) ?_ ?_
              rotate_left
              · intro w'; go_simp; first | done | with_reducible rfl
              rotate_left
              · simp only [Act.put, List.setIfInBounds_toArray, List.set_cons_zero, List.set_cons_succ, i64_w, i32_w]; rfl
              refine pure_ (i := 7) (N := (some 37)) (v := ?_) (a' := ?_) #[true, true, true, true, true, true, true, true, false, false, false, false, false, false, false, false, false, false, false, false, false, false, false, false, false, false, false, false, false, false, false, false, false, false, false] rfl rfl (by kernel_rfl) (fun _ _ _ h => h) (Or.inl ⟨by rfl, ?_⟩) ?_ ?_
              rotate_left
              · intro w'; go_simp; first | done | with_reducible rfl
              rotate_left
              · simp only [Act.put, List.setIfInBounds_toArray, List.set_cons_zero, List.set_cons_succ, i64_w, i32_w]; rfl
              refine take_ (i := 8) (N := (some 38)) (v := ?_) (a' := ?_) #[true, true, true, true, true, true, true, true, true, false, false, false, false, false, false, false, false, false, false, false, false, false, false, false, false, false, false, false, false, false, false, false, false, false, false] rfl rfl (by kernel_rfl) (fun _ _ _ h => h) (Or.inl ⟨by rfl, ?_⟩) hHeld ?_ ?_
              rotate_left
              · rintro w' ⟨s0, s1, s2, s3⟩; go_simp; first | done | with_reducible rfl
              rotate_left
              · simp only [Act.put, List.setIfInBounds_toArray, List.set_cons_zero, List.set_cons_succ, i64_w, i32_w]; rfl
              refine pure_ (i := 9) (N := (some 39)) (v := ?_) (a' := ?_) #[true, true, true, true, true, true, true, true, true, true, false, false, false, false, false, false, false, false, false, false, false, false, false, false, false, false, false, false, false, false, false, false, false, false, false] rfl rfl (by kernel_rfl) (fun _ _ _ h => h) (Or.inl ⟨by rfl, ?_⟩) ?_ ?_
              rotate_left
              · intro w'; go_simp; first | done | with_reducible rfl
              rotate_left
              · simp only [Act.put, List.setIfInBounds_toArray, List.set_cons_zero, List.set_cons_succ, i64_w, i32_w]; rfl
              refine take_ (i := 10) (N := (some 40)) (v := ?_) (a' := ?_) #[true, true, true, true, true, true, true, true, true, true, true, false, false, false, false, false, false, false, false, false, false, false, false, false, false, false, false, false, false, false, false, false, false, false, false] rfl rfl (by kernel_rfl) (fun _ _ _ h => h) (Or.inl ⟨by rfl, ?_⟩) hHeld ?_ ?_
              rotate_left
              · rintro w' ⟨s0, s1, s2, s3⟩; go_simp; first | done | with_reducible rfl
              rotate_left
              · simp only [Act.put, List.setIfInBounds_toArray, List.set_cons_zero, List.set_cons_succ, i64_w, i32_w]; rfl
              refine pure_ (i := 11) (N := (some 41)) (v := (.bool false)) (a' := ?_) #[true, true, true, true, true, true, true, true, true, true, true, true, false, false, false, false, false, false, false, false, false, false, false, false, false, false, false, false, false, false, false, false, false, false, false] rfl rfl (by kernel_rfl) (fun _ _ _ h => h) (Or.inl ⟨by rfl, ?_⟩) ?_ ?_
              · intro w'; go_simp; first | done | with_reducible rfl
              rotate_left
              · simp only [Act.put, List.setIfInBounds_toArray, List.set_cons_zero, List.set_cons_succ, i64_w, i32_w]; rfl
              refine pure_ (i := 12) (N := (some 42)) (v := ?_) (a' := ?_) #[true, true, true, true, true, true, true, true, true, true, true, true, true, false, false, false, false, false, false, false, false, false, false, false, false, false, false, false, false, false, false, false, false, false, false] rfl rfl (by kernel_rfl) (fun _ _ _ h => h) (Or.inl ⟨by rfl, ?_⟩) ?_ ?_
              rotate_left
              · intro w'; go_simp; first | done | with_reducible rfl
              rotate_left
              · simp only [Act.put, List.setIfInBounds_toArray, List.set_cons_zero, List.set_cons_succ, i64_w, i32_w]; rfl
              refine pure_ (i := 13) (N := (some 43)) (v := ?_) (a' := ?_) #[true, true, true, true, true, true, true, true, true, true, true, true, true, true, false, false, false, false, false, false, false, false, false, false, false, false, false, false, false, false, false, false, false, false, false] rfl rfl (by kernel_rfl) (fun _ _ _ h => h) (Or.inl ⟨by rfl, ?_⟩) ?_ ?_
              rotate_left
              · intro w'; go_simp; first | done | with_reducible rfl
              rotate_left
              · simp only [Act.put, List.setIfInBounds_toArray, List.set_cons_zero, List.set_cons_succ, i64_w, i32_w]; rfl
              refine pure_ (i := 14) (N := (some 44)) (v := ?_) (a' := ?_) #[true, true, true, true, true, true, true, true, true, true, true, true, true, true, true, false, false, false, false, false, false, false, false, false, false, false, false, false, false, false, false, false, false, false, false] rfl rfl (by kernel_rfl) (fun _ _ _ h => h) (Or.inl ⟨by rfl, ?_⟩) ?_ ?_
              rotate_left
              · intro w'; go_simp; first | done | with_reducible rfl
              rotate_left
              · simp only [Act.put, List.setIfInBounds_toArray, List.set_cons_zero, List.set_cons_succ, i64_w, i32_w]; rfl
              refine pure_ (i := 15) (N := (some 45)) (v := ?_) (a' := ?_) #[true, true, true, true, true, true, true, true, true, true, true, true, true, true, true, true, false, false, false, false, false, false, false, false, false, false, false, false, false, false, false, false, false, false, false] rfl rfl (by kernel_rfl) (fun _ _ _ h => h) (Or.inl ⟨by rfl, ?_⟩) ?_ ?_
              rotate_left
              · intro w'; go_simp; first | done | with_reducible rfl
              rotate_left
              · simp only [Act.put, List.setIfInBounds_toArray, List.set_cons_zero, List.set_cons_succ, i64_w, i32_w]; rfl
              refine pure_ (i := 16) (N := (some 46)) (v := ?_) (a' := ?_) #[true, true, true, true, true, true, true, true, true, true, true, true, true, true, true, true, true, false, false, false, false, false, false, false, false, false, false, false, false, false, false, false, false, false, false] rfl rfl (by kernel_rfl) (fun _ _ _ h => h) (Or.inl ⟨by rfl, ?_⟩) ?_ ?_
              rotate_left
              · intro w'; go_simp; first | done | with_reducible rfl
              rotate_left
              · simp only [Act.put, List.setIfInBounds_toArray, List.set_cons_zero, List.set_cons_succ, i64_w, i32_w]; rfl
              refine pure_ (i := 17) (N := (some 47)) (v := ?_) (a' := ?_) #[true, true, true, true, true, true, true, true, true, true, true, true, true, true, true, true, true, true, false, false, false, false, false, false, false, false, false, false, false, false, false, false, false, false, false] rfl rfl (by kernel_rfl) (fun _ _ _ h => h) (Or.inl ⟨by rfl, ?_⟩) ?_ ?_
              rotate_left
              · intro w'; go_simp; first | done | with_reducible rfl
              rotate_left
              · simp only [Act.put, List.setIfInBounds_toArray, List.set_cons_zero, List.set_cons_succ, i64_w, i32_w]; rfl
              refine take_ (i := 18) (N := (some 48)) (v := ?_) (a' := ?_) #[true, true, true, true, true, true, true, true, true, true, true, true, true, true, true, true, true, true, true, false, false, false, false, false, false, false, false, false, false, false, false, false, false, false, false] rfl rfl (by kernel_rfl) (fun _ _ _ h => h) (Or.inl ⟨by rfl, ?_⟩) hHeld ?_ ?_
              rotate_left
              · rintro w' ⟨s0, s1, s2, s3⟩; go_simp; first | done | with_reducible rfl
              rotate_left
              · simp only [Act.put, List.setIfInBounds_toArray, List.set_cons_zero, List.set_cons_succ, i64_w, i32_w]; rfl
              refine pure_ (i := 19) (N := (some 49)) (v := ?_) (a' := ?_) #[true, true, true, true, true, true, true, true, true, true, true, true, true, true, true, true, true, true, true, true, false, false, false, false, false, false, false, false, false, false, false, false, false, false, false] rfl rfl (by kernel_rfl) (fun _ _ _ h => h) (Or.inl ⟨by rfl, ?_⟩) ?_ ?_
              rotate_left
              · intro w'; go_simp; first | done | with_reducible rfl
              rotate_left
              · simp only [Act.put, List.setIfInBounds_toArray, List.set_cons_zero, List.set_cons_succ, i64_w, i32_w]; rfl
              refine take_ (i := 20) (N := (some 50)) (v := ?_) (a' := ?_) #[true, true, true, true, true, true, true, true, true, true, true, true, true, true, true, true, true, true, true, true, true, false, false, false, false, false, false, false, false, false, false, false, false, false, false] rfl rfl (by kernel_rfl) (fun _ _ _ h => h) (Or.inl ⟨by rfl, ?_⟩) hHeld ?_ ?_
              rotate_left
              · rintro w' ⟨s0, s1, s2, s3⟩; go_simp; first | done | with_reducible rfl
              rotate_left
              · simp only [Act.put, List.setIfInBounds_toArray, List.set_cons_zero, List.set_cons_succ, i64_w, i32_w]; rfl
              refine pure_ (i := 21) (N := (some 51)) (v := (.bool false)) (a' := ?_) #[true, true, true, true, true, true, true, true, true, true, true, true, true, true, true, true, true, true, true, true, true, true, false, false, false, false, false, false, false, false, false, false, false, false, false] rfl rfl (by kernel_rfl) (fun _ _ _ h => h) (Or.inl ⟨by rfl, ?_⟩) ?_ ?_
              · intro w'; go_simp; first | done | with_reducible rfl
              rotate_left
              · simp only [Act.put, List.setIfInBounds_toArray, List.set_cons_zero, List.set_cons_succ, i64_w, i32_w]; rfl
              refine pure_ (i := 22) (N := (some 52)) (v := ?_) (a' := ?_) #[true, true, true, true, true, true, true, true, true, true, true, true, true, true, true, true, true, true, true, true, true, true, true, false, false, false, false, false, false, false, false, false, false, false, false] rfl rfl (by kernel_rfl) (fun _ _ _ h => h) (Or.inl ⟨by rfl, ?_⟩) ?_ ?_
              rotate_left
              · intro w'; go_simp; first | done | with_reducible rfl
              rotate_left
              · simp only [Act.put, List.setIfInBounds_toArray, List.set_cons_zero, List.set_cons_succ, i64_w, i32_w]; rfl
              refine off_ (i := 23) (N := (some 53)) #[true, true, true, true, true, true, true, true, true, true, true, true, true, true, true, true, true, true, true, true, true, true, true, true, false, false, false, false, false, false, false, false, false, false, false] rfl rfl (by kernel_rfl) (fun _ _ _ h => h) (by rfl) (by simp only [Act.put, List.setIfInBounds_toArray, List.set_cons_zero, List.set_cons_succ, i64_w, i32_w]; rfl) ?_
              refine off_ (i := 24) (N := (some 54)) #[true, true, true, true, true, true, true, true, true, true, true, true, true, true, true, true, true, true, true, true, true, true, true, true, true, false, false, false, false, false, false, false, false, false, false] rfl rfl (by kernel_rfl) (fun _ _ _ h => h) (by rfl) (by simp only [Act.put, List.setIfInBounds_toArray, List.set_cons_zero, List.set_cons_succ, i64_w, i32_w]; rfl) ?_
              refine off_ (i := 25) (N := (some 55)) #[true, true, true, true, true, true, true, true, true, true, true, true, true, true, true, true, true, true, true, true, true, true, true, true, true, true, false, false, false, false, false, false, false, false, false] rfl rfl (by kernel_rfl) (fun _ _ _ h => h) (by rfl) (by simp only [Act.put, List.setIfInBounds_toArray, List.set_cons_zero, List.set_cons_succ, i64_w, i32_w]; rfl) ?_
              refine off_ (i := 26) (N := (some 56)) #[true, true, true, true, true, true, true, true, true, true, true, true, true, true, true, true, true, true, true, true, true, true, true, true, true, true, true, false, false, false, false, false, false, false, false] rfl rfl (by kernel_rfl) (fun _ _ _ h => h) (by rfl) (by simp only [Act.put, List.setIfInBounds_toArray, List.set_cons_zero, List.set_cons_succ, i64_w, i32_w]; rfl) ?_
              refine off_ (i := 27) (N := (some 57)) #[true, true, true, true, true, true, true, true, true, true, true, true, true, true, true, true, true, true, true, true, true, true, true, true, true, true, true, true, false, false, false, false, false, false, false] rfl rfl (by kernel_rfl) (fun _ _ _ h => h) (by rfl) (by simp only [Act.put, List.setIfInBounds_toArray, List.set_cons_zero, List.set_cons_succ, i64_w, i32_w]; rfl) ?_
              refine off_ (i := 28) (N := (some 58)) #[true, true, true, true, true, true, true, true, true, true, true, true, true, true, true, true, true, true, true, true, true, true, true, true, true, true, true, true, true, false, false, false, false, false, false] rfl rfl (by kernel_rfl) (fun _ _ _ h => h) (by rfl) (by simp only [Act.put, List.setIfInBounds_toArray, List.set_cons_zero, List.set_cons_succ, i64_w, i32_w]; rfl) ?_
              refine off_ (i := 29) (N := (some 59)) #[true, true, true, true, true, true, true, true, true, true, true, true, true, true, true, true, true, true, true, true, true, true, true, true, true, true, true, true, true, true, false, false, false, false, false] rfl rfl (by kernel_rfl) (fun _ _ _ h => h) (by rfl) (by simp only [Act.put, List.setIfInBounds_toArray, List.set_cons_zero, List.set_cons_succ, i64_w, i32_w]; rfl) ?_
              refine off_ (i := 30) (N := (some 60)) #[true, true, true, true, true, true, true, true, true, true, true, true, true, true, true, true, true, true, true, true, true, true, true, true, true, true, true, true, true, true, true, false, false, false, false] rfl rfl (by kernel_rfl) (fun _ _ _ h => h) (by rfl) (by simp only [Act.put, List.setIfInBounds_toArray, List.set_cons_zero, List.set_cons_succ, i64_w, i32_w]; rfl) ?_
              refine off_ (i := 31) (N := (some 61)) #[true, true, true, true, true, true, true, true, true, true, true, true, true, true, true, true, true, true, true, true, true, true, true, true, true, true, true, true, true, true, true, true, false, false, false] rfl rfl (by kernel_rfl) (fun _ _ _ h => h) (by rfl) (by simp only [Act.put, List.setIfInBounds_toArray, List.set_cons_zero, List.set_cons_succ, i64_w, i32_w]; rfl) ?_
              refine pure_ (i := 32) (N := (some 62)) (v := ?_) (a' := ?_) #[true, true, true, true, true, true, true, true, true, true, true, true, true, true, true, true, true, true, true, true, true, true, true, true, true, true, true, true, true, true, true, true, true, false, false] rfl rfl (by kernel_rfl) (fun _ _ _ h => h) (Or.inl ⟨by rfl, ?_⟩) ?_ ?_
              rotate_left
              · intro w'; go_simp; first | done | with_reducible rfl
              rotate_left
              · simp only [Act.put, List.setIfInBounds_toArray, List.set_cons_zero, List.set_cons_succ, i64_w, i32_w]; rfl
              refine pure_ (i := 33) (N := (some 63)) (v := ?_) (a' := ?_) #[true, true, true, true, true, true, true, true, true, true, true, true, true, true, true, true, true, true, true, true, true, true, true, true, true, true, true, true, true, true, true, true, true, true, false] rfl rfl (by kernel_rfl) (fun _ _ _ h => h) (Or.inl ⟨by rfl, ?_⟩) ?_ ?_
              rotate_left
              · intro w'; go_simp; first | done | with_reducible rfl
              rotate_left
              · simp only [Act.put, List.setIfInBounds_toArray, List.set_cons_zero, List.set_cons_succ, i64_w, i32_w]; rfl
              refine pure_ (i := 34) (N := (some 64)) (v := ?_) (a' := ?_) #[true, true, true, true, true, true, true, true, true, true, true, true, true, true, true, true, true, true, true, true, true, true, true, true, true, true, true, true, true, true, true, true, true, true, true] rfl rfl (by kernel_rfl) (fun _ _ _ h => h) (Or.inl ⟨by rfl, ?_⟩) ?_ ?_
              rotate_left
              · intro w'; go_simp; first | done | with_reducible rfl
              rotate_left
              · simp only [Act.put, List.setIfInBounds_toArray, List.set_cons_zero, List.set_cons_succ, i64_w, i32_w]; rfl
              refine done_ (by kernel_rfl) ?_
              clear q2 q3 q0 q1 h0 h1 hHeld
              go_wp2_with fail
              exact ⟨⟨(m + 1) + 1, by omega, by go_num, Lib.hid (goodTo_next HG.out HGK.out), Lib.hid HBA.out.drew⟩, by simp [intOf]; omega⟩
      · have HGN := HGN (fun q => hx q.1)
        have HBA := Lib.hid (HB.out.trans ((below_one (w := wr) (.cells #[.int .i64 (x k), .int .i64 (y k)] 29)).mono HB.out.size))
        by_cases x1 : x k < -100
        · go_wp2
          go_ret
          exact ⟨by rw [goodL_no HGN.out]; rfl, HBA.out⟩
        · by_cases x2 : x k > 100
          · go_wp2
            go_ret
            exact ⟨by rw [goodL_no HGN.out]; rfl, HBA.out⟩
          · by_cases x3 : y k < -100
            · go_wp2
              go_ret
              exact ⟨by rw [goodL_no HGN.out]; rfl, HBA.out⟩
            · have x4 : y k > 100 := by omega
              go_wp2
              go_ret
              exact ⟨by rw [goodL_no HGN.out]; rfl, HBA.out⟩
    · obtain rfl : k = n := by omega
      by_cases h1 : (k : Int) ≥ 1
      · by_cases h2 : (k : Int) ≤ 30
        · go_wp2
          go_ret
          exact ⟨by unfold goodL; rw [HG.out, decide_eq_true (show 1 ≤ k by omega), decide_eq_true (show k ≤ 30 by omega)]; rfl, HB.out⟩
        · go_wp2
          go_ret
          exact ⟨by unfold goodL; rw [decide_eq_false (show ¬ k ≤ 30 by omega), Bool.and_false]; rfl, HB.out⟩
      · go_wp2
        go_ret
        exact ⟨by unfold goodL; rw [decide_eq_false (show ¬ 1 ≤ k by omega)]; rfl, HB.out⟩
end Go.Proofs.YtpfenoioeajkmaaDoor.X
end

section
set_option linter.unusedVariables false
set_option linter.unusedSimpArgs false
namespace Go.Proofs.YtpfenoioeajkmaaDoor.X
open Go.RowKit Go.Proofs.YtpfenoioeajkmaaDoorW.PrintWords Go.Proofs.YtpfenoioeajkmaaDoorW.PrintLast Go.Proofs.YtpfenoioeajkmaaDoorW.PrintMore Go.Proofs.YtpfenoioeajkmaaDoor.L
def rcb (X Y x y c : Int) : Int := if x < X ∧ c = 117 ∧ Y = y then 1 else if x < X ∧ c = 100 ∧ Y = y + 1 then -1 else 0
def cntTo (s : ByteArray) (x y : Int) : Nat → Int
  | 0 => 0
  | k + 1 => cntTo s x y k + rcb (sumx s k) (rsumy s k) x y (bt s k)
def colTo (s : ByteArray) (x : Int) : Nat → List (Int × Int)
  | 0 => []
  | m + 1 => colTo s x m ++ if cntTo s x ((m : Int) - 24) s.size = 1 then [(x, (m : Int) - 24)] else []
def cellsTo (s : ByteArray) : Nat → List (Int × Int)
  | 0 => []
  | m + 1 => cellsTo s m ++ colTo s ((m : Int) - 24) 49
end Go.Proofs.YtpfenoioeajkmaaDoor.X
end

section
set_option linter.unusedVariables false
set_option linter.unusedSimpArgs false
namespace Go.Proofs.YtpfenoioeajkmaaDoor.G
def S (n : Nat) (f : Nat → Int) : Int := match n with
  | 0 => 0
  | n + 1 => S n f + f n
theorem S_succ (n : Nat) (f : Nat → Int) : S (n + 1) f = S n f + f n := rfl
theorem S_congr {n : Nat} {f g : Nat → Int} (h : ∀ i, i < n → f i = g i) : S n f = S n g := by
  induction n with
  | zero => rfl
  | succ n ih => rw [S_succ, S_succ, ih fun i hi => h i (by omega), h n (by omega)]
theorem S_add (n : Nat) (f g : Nat → Int) : S n (fun i => f i + g i) = S n f + S n g := by
  induction n with
  | zero => rfl
  | succ n ih => rw [S_succ, S_succ, S_succ, ih]; omega
theorem S_sub (n : Nat) (f g : Nat → Int) : S n (fun i => f i - g i) = S n f - S n g := by
  induction n with
  | zero => rfl
  | succ n ih => rw [S_succ, S_succ, S_succ, ih]; omega
theorem S_neg (n : Nat) (f : Nat → Int) : S n (fun i => -f i) = -S n f := by
  induction n with
  | zero => rfl
  | succ n ih => rw [S_succ, S_succ, ih]; omega
theorem S_zero {n : Nat} {f : Nat → Int} (h : ∀ i, i < n → f i = 0) : S n f = 0 := by
  induction n with
  | zero => rfl
  | succ n ih => rw [S_succ, ih fun i hi => h i (by omega), h n (by omega)]; rfl
theorem S_tel (n : Nat) (f : Nat → Int) : S n (fun i => f (i + 1) - f i) = f n - f 0 := by
  induction n with
  | zero => exact (Int.sub_self _).symm
  | succ n ih => rw [S_succ, ih]; omega
theorem S_one {n k : Nat} {f : Nat → Int} (hk : k < n) (h : ∀ i, i < n → i ≠ k → f i = 0) : S n f = f k := by
  induction n with
  | zero => omega
  | succ n ih =>
    rw [S_succ]
    by_cases e : k = n
    · subst e
      rw [S_zero fun i hi => h i (by omega) (by omega)]
      omega
    · rw [ih (by omega) fun i hi hne => h i (by omega) hne, h n (by omega) (by omega)]
      omega
def Z (K : Nat) (f : Int → Int) : Int := S (2 * K) fun i => f ((i : Int) - K)
end Go.Proofs.YtpfenoioeajkmaaDoor.G
end

section
set_option linter.unusedVariables false
set_option linter.unusedSimpArgs false
namespace Go.Proofs.YtpfenoioeajkmaaDoor.G
def ux (d : Nat) : Int := if d = 0 then 1 else if d = 2 then -1 else 0
def uy (d : Nat) : Int := if d = 1 then 1 else if d = 3 then -1 else 0
structure Loop (n : Nat) (X Y : Nat → Int) (D : Nat → Nat) : Prop where
  n4 : 4 ≤ n
  d4 : ∀ i, D i < 4
  sx : ∀ i, X (i + 1) = X i + ux (D i)
  sy : ∀ i, Y (i + 1) = Y i + uy (D i)
  px : ∀ i, X (i + n) = X i
  py : ∀ i, Y (i + n) = Y i
  pd : ∀ i, D (i + n) = D i
  inj : ∀ i j, X i = X j → Y i = Y j → i % n = j % n
theorem d_cases {d : Nat} (h : d < 4) : d = 0 ∨ d = 1 ∨ d = 2 ∨ d = 3 := by omega
def wi (X Y : Nat → Int) (D : Nat → Nat) (x y : Int) (i : Nat) : Int := if D i = 1 ∧ x < X i ∧ Y i = y then 1 else if D i = 3 ∧ x < X i ∧ Y i = y + 1 then -1 else 0
def W (n : Nat) (X Y : Nat → Int) (D : Nat → Nat) (x y : Int) : Int := S n (wi X Y D x y)
def cx (a : Int) (k : Nat) : Int := if k = 0 then a else if k = 1 then a - 1 else if k = 2 then a - 1 else a
def cy (b : Int) (k : Nat) : Int := if k = 0 then b else if k = 1 then b else if k = 2 then b - 1 else b - 1
def ti (X Y : Nat → Int) (D : Nat → Nat) (a b : Int) (k i : Nat) : Int :=
  (if D i = k ∧ X i = a ∧ Y i = b then 1 else 0) - (if D i = (k + 2) % 4 ∧ X (i + 1) = a ∧ Y (i + 1) = b then 1 else 0)
section
variable {n : Nat} {X Y : Nat → Int} {D : Nat → Nat}
theorem Loop.mod_x (L : Loop n X Y D) (i : Nat) : X (i % n) = X i := by
  have : ∀ q r, X (r + q * n) = X r := fun q r => by
    induction q with
    | zero => rw [Nat.zero_mul, Nat.add_zero]
    | succ q ih => rw [Nat.succ_mul, ← Nat.add_assoc, L.px, ih]
  rw [← this (i / n) (i % n), Nat.mul_comm, Nat.mod_add_div]
theorem Loop.mod_y (L : Loop n X Y D) (i : Nat) : Y (i % n) = Y i := by
  have : ∀ q r, Y (r + q * n) = Y r := fun q r => by
    induction q with
    | zero => rw [Nat.zero_mul, Nat.add_zero]
    | succ q ih => rw [Nat.succ_mul, ← Nat.add_assoc, L.py, ih]
  rw [← this (i / n) (i % n), Nat.mul_comm, Nat.mod_add_div]
theorem Loop.mod_d (L : Loop n X Y D) (i : Nat) : D (i % n) = D i := by
  have : ∀ q r, D (r + q * n) = D r := fun q r => by
    induction q with
    | zero => rw [Nat.zero_mul, Nat.add_zero]
    | succ q ih => rw [Nat.succ_mul, ← Nat.add_assoc, L.pd, ih]
  rw [← this (i / n) (i % n), Nat.mul_comm, Nat.mod_add_div]
theorem mod_add_cancel {n b i j : Nat} (h : (b + i) % n = (b + j) % n) : i % n = j % n := by
  have e : ((i : Int) % n) = ((j : Int) % n) := by
    have h1 : (((b + i : Nat) : Int) % n) = (((b + j : Nat) : Int) % n) := by rw [← Int.natCast_emod, ← Int.natCast_emod, h]
    rw [Int.emod_eq_emod_iff_emod_sub_eq_zero] at h1 ⊢
    rw [← h1]
    congr 1
    omega
  rw [← Int.natCast_emod, ← Int.natCast_emod] at e
  exact Int.ofNat_inj.1 e
theorem mod_ne_add {n d i : Nat} (h0 : 0 < d) (h1 : d < n) : (i + d) % n ≠ i % n := by
  intro h
  have : d % n = 0 % n := mod_add_cancel (b := i) (by rw [Nat.add_zero]; exact h)
  rw [Nat.mod_eq_of_lt h1, Nat.zero_mod] at this
  omega
theorem Loop.no_u (L : Loop n X Y D) (i : Nat) : D (i + 1) ≠ (D i + 2) % 4 := by
  intro h
  have h4 := L.n4
  have h1 := L.d4 i
  refine mod_ne_add (n := n) (d := 2) (i := i) (by omega) (by omega) (L.inj _ _ ?_ ?_)
  · rw [L.sx (i + 1), L.sx i, h]
    rcases d_cases h1 with e | e | e | e <;> rw [e] <;> simp [ux] <;> omega
  · rw [L.sy (i + 1), L.sy i, h]
    rcases d_cases h1 with e | e | e | e <;> rw [e] <;> simp [uy] <;> omega
theorem cross_v (L : Loop n X Y D) (x y : Int) : W n X Y D (x - 1) y - W n X Y D x y = S n fun i => (if D i = 1 ∧ X i = x ∧ Y i = y then 1 else 0) - (if D i = 3 ∧ X i = x ∧ Y i = y + 1 then 1 else 0) := by
  unfold W
  rw [← S_sub]
  refine S_congr fun i _ => ?_
  unfold wi
  rcases d_cases (L.d4 i) with e | e | e | e <;> rw [e] <;> simp <;> (try split) <;> (try split) <;> (try split) <;> omega
theorem cross_h (L : Loop n X Y D) (x y : Int) : W n X Y D x y - W n X Y D x (y - 1) = S n fun i => (if D i = 0 ∧ X i = x ∧ Y i = y then 1 else 0) - (if D i = 2 ∧ X i = x + 1 ∧ Y i = y then 1 else 0) := by
  have ht := S_tel n fun i => if x < X i ∧ Y i = y then (1 : Int) else 0
  have hx := L.px 0
  have hy := L.py 0
  rw [Nat.zero_add] at hx hy
  rw [hx, hy, Int.sub_self] at ht
  have : W n X Y D x y - W n X Y D x (y - 1) = W n X Y D x y - W n X Y D x (y - 1) + 0 := by omega
  rw [this, ← ht]
  unfold W
  rw [← S_sub, ← S_add]
  refine S_congr fun i _ => ?_
  unfold wi
  rw [L.sx i, L.sy i]
  rcases d_cases (L.d4 i) with e | e | e | e <;> rw [e] <;> simp [ux, uy] <;> (repeat' split) <;> omega
theorem cross (L : Loop n X Y D) (a b : Int) {k : Nat} (hk : k < 4) : W n X Y D (cx a k) (cy b k) - W n X Y D (cx a ((k + 3) % 4)) (cy b ((k + 3) % 4)) = S n (ti X Y D a b k) := by
  rcases d_cases hk with e | e | e | e <;> subst e
  · show W n X Y D a b - W n X Y D a (b - 1) = _
    rw [cross_h L]
    refine S_congr fun i _ => ?_
    unfold ti
    rw [L.sx i, L.sy i]
    rcases d_cases (L.d4 i) with e | e | e | e <;> rw [e] <;> simp [ux, uy] <;> (repeat' split) <;> omega
  · show W n X Y D (a - 1) b - W n X Y D a b = _
    rw [cross_v L]
    refine S_congr fun i _ => ?_
    unfold ti
    rw [L.sx i, L.sy i]
    rcases d_cases (L.d4 i) with e | e | e | e <;> rw [e] <;> simp [ux, uy] <;> (repeat' split) <;> omega
  · show W n X Y D (a - 1) (b - 1) - W n X Y D (a - 1) b = _
    have h := cross_h L (a - 1) b
    have : W n X Y D (a - 1) (b - 1) - W n X Y D (a - 1) b = -(W n X Y D (a - 1) b - W n X Y D (a - 1) (b - 1)) := by omega
    rw [this, h, ← S_neg]
    refine S_congr fun i _ => ?_
    unfold ti
    rw [L.sx i, L.sy i]
    rcases d_cases (L.d4 i) with e | e | e | e <;> rw [e] <;> simp [ux, uy] <;> (repeat' split) <;> omega
  · show W n X Y D a (b - 1) - W n X Y D (a - 1) (b - 1) = _
    have h := cross_v L a (b - 1)
    have : W n X Y D a (b - 1) - W n X Y D (a - 1) (b - 1) = -(W n X Y D (a - 1) (b - 1) - W n X Y D a (b - 1)) := by omega
    rw [this, h, ← S_neg]
    refine S_congr fun i _ => ?_
    unfold ti
    rw [L.sx i, L.sy i]
    rcases d_cases (L.d4 i) with e | e | e | e <;> rw [e] <;> simp [ux, uy] <;> (repeat' split) <;> omega
theorem Loop.sum_from (L : Loop n X Y D) (m k : Nat) : S n (fun i => if D i = k ∧ X i = X m ∧ Y i = Y m then 1 else 0) = if D m = k then 1 else 0 := by
  have h4 := L.n4
  have hm : m % n < n := Nat.mod_lt _ (by omega)
  rw [S_one (k := m % n) hm, L.mod_d, L.mod_x, L.mod_y]
  · simp
  · intro i hi hne
    rw [if_neg]
    rintro ⟨-, h1, h2⟩
    have := L.inj _ _ h1 h2
    rw [Nat.mod_eq_of_lt hi] at this
    exact hne this
theorem Loop.sum_to (L : Loop n X Y D) (m k : Nat) : S n (fun i => if D i = k ∧ X (i + 1) = X (m + 1) ∧ Y (i + 1) = Y (m + 1) then 1 else 0) = if D m = k then 1 else 0 := by
  have h4 := L.n4
  have hm : m % n < n := Nat.mod_lt _ (by omega)
  have e1 : X (m % n + 1) = X (m + 1) := by rw [L.sx, L.sx, L.mod_x, L.mod_d]
  have e2 : Y (m % n + 1) = Y (m + 1) := by rw [L.sy, L.sy, L.mod_y, L.mod_d]
  rw [S_one (k := m % n) hm, L.mod_d, e1, e2]
  · simp
  · intro i hi hne
    rw [if_neg]
    rintro ⟨-, h1, h2⟩
    have := L.inj _ _ h1 h2
    have := mod_add_cancel (b := 1) (i := i) (j := m) (by rw [Nat.add_comm 1, Nat.add_comm 1]; exact this)
    rw [Nat.mod_eq_of_lt hi] at this
    exact hne this
theorem Loop.at_point (L : Loop n X Y D) (j : Nat) {k : Nat} (hk : k < 4) :
    W n X Y D (cx (X (j + 1)) k) (cy (Y (j + 1)) k) - W n X Y D (cx (X (j + 1)) ((k + 3) % 4)) (cy (Y (j + 1)) ((k + 3) % 4)) = (if D (j + 1) = k then 1 else 0) - (if D j = (k + 2) % 4 then 1 else 0) := by
  rw [cross L _ _ hk]
  unfold ti
  rw [S_sub, L.sum_from, L.sum_to]
def turn (e f : Nat) : Int := if f = e then 0 else if f = (e + 1) % 4 then 1 else -1
def LW (n : Nat) (X Y : Nat → Int) (D : Nat → Nat) (j : Nat) : Int := W n X Y D (cx (X j) (D j)) (cy (Y j) (D j))
theorem around_pure (G : Nat → Int) {e f : Nat} {l : Int} (he : e < 4) (hf : f < 4) (hu : f ≠ (e + 2) % 4) (h : ∀ k, k < 4 → G k - G ((k + 3) % 4) = (if f = k then 1 else 0) - (if e = (k + 2) % 4 then 1 else 0)) (hl : l = G ((e + 1) % 4)) :
    G f = l ∧ (∀ k, k < 4 → G k = l ∨ G k = l - 1) ∧ G 0 + G 1 + G 2 + G 3 = 4 * (l - 1) + (2 - turn e f) ∧ G ((f + 3) % 4) = l - 1 := by
  have h0 := h 0 (by omega)
  have h1 := h 1 (by omega)
  have h2 := h 2 (by omega)
  have h3 := h 3 (by omega)
  have hk : (∀ k, k < 4 → G k = l ∨ G k = l - 1) ↔ (G 0 = l ∨ G 0 = l - 1) ∧ (G 1 = l ∨ G 1 = l - 1) ∧ (G 2 = l ∨ G 2 = l - 1) ∧ (G 3 = l ∨ G 3 = l - 1) :=
    ⟨fun q => ⟨q 0 (by omega), q 1 (by omega), q 2 (by omega), q 3 (by omega)⟩, fun ⟨a, b, c, d⟩ k hk => by rcases d_cases hk with e | e | e | e <;> subst e <;> assumption⟩
  rw [hk]
  clear h hk
  rcases d_cases he with e | e | e | e <;> rcases d_cases hf with g | g | g | g <;> subst e <;> subst g <;> simp [turn] at h0 h1 h2 h3 hl hu ⊢ <;> omega
theorem Loop.around (L : Loop n X Y D) (j : Nat) : LW n X Y D (j + 1) = LW n X Y D j ∧
    (∀ k, k < 4 → W n X Y D (cx (X (j + 1)) k) (cy (Y (j + 1)) k) = LW n X Y D j ∨ W n X Y D (cx (X (j + 1)) k) (cy (Y (j + 1)) k) = LW n X Y D j - 1) ∧
    W n X Y D (cx (X (j + 1)) 0) (cy (Y (j + 1)) 0) + W n X Y D (cx (X (j + 1)) 1) (cy (Y (j + 1)) 1) + W n X Y D (cx (X (j + 1)) 2) (cy (Y (j + 1)) 2) + W n X Y D (cx (X (j + 1)) 3) (cy (Y (j + 1)) 3) = 4 * (LW n X Y D j - 1) + (2 - turn (D j) (D (j + 1))) ∧
    W n X Y D (cx (X (j + 1)) (D (j + 1))) (cy (Y (j + 1)) (D (j + 1))) = LW n X Y D j ∧ W n X Y D (cx (X (j + 1)) ((D (j + 1) + 3) % 4)) (cy (Y (j + 1)) ((D (j + 1) + 3) % 4)) = LW n X Y D j - 1 := by
  have hl : LW n X Y D j = W n X Y D (cx (X (j + 1)) ((D j + 1) % 4)) (cy (Y (j + 1)) ((D j + 1) % 4)) := by
    unfold LW
    rw [L.sx j, L.sy j]
    rcases d_cases (L.d4 j) with e | e | e | e <;> rw [e] <;> simp [cx, cy, ux, uy] <;> (try congr 1) <;> omega
  obtain ⟨q1, q2, q3, q4⟩ := around_pure (fun k => W n X Y D (cx (X (j + 1)) k) (cy (Y (j + 1)) k)) (L.d4 j) (L.d4 (j + 1)) (L.no_u j) (fun k hk => L.at_point j hk) hl
  exact ⟨q1, q2, q3, q1, q4⟩
end
end Go.Proofs.YtpfenoioeajkmaaDoor.G
end

section
set_option linter.unusedVariables false
set_option linter.unusedSimpArgs false
namespace Go.Proofs.YtpfenoioeajkmaaDoor.G
section
variable {n : Nat} {X Y : Nat → Int} {D : Nat → Nat}
theorem Loop.LW_eq (L : Loop n X Y D) (j : Nat) : LW n X Y D j = LW n X Y D 0 := by
  induction j with
  | zero => rfl
  | succ j ih => rw [(L.around j).1, ih]
theorem Loop.left (L : Loop n X Y D) (i : Nat) : W n X Y D (cx (X i) (D i)) (cy (Y i) (D i)) = LW n X Y D 0 := L.LW_eq i
end
end Go.Proofs.YtpfenoioeajkmaaDoor.G
end

section
set_option linter.unusedVariables false
set_option linter.unusedSimpArgs false
namespace Go.Proofs.YtpfenoioeajkmaaDoor.G
def bi (b : Bool) : Int := if b then 1 else 0
end Go.Proofs.YtpfenoioeajkmaaDoor.G
end

section
set_option linter.unusedVariables false
set_option linter.unusedSimpArgs false
namespace Go.Proofs.YtpfenoioeajkmaaDoor.G
section
variable {n : Nat} {X Y : Nat → Int} {D : Nat → Nat}
def E (n : Nat) (X Y : Nat → Int) (D : Nat → Nat) (l : Int → Int → Bool) (k : Nat) (a b : Int) : Int := S n fun i => if D i = k then bi (l (X i - a) (Y i - b)) else 0
end
end Go.Proofs.YtpfenoioeajkmaaDoor.G
end

section
set_option linter.unusedVariables false
set_option linter.unusedSimpArgs false
namespace Go.Proofs.YtpfenoioeajkmaaDoor.G
def Opp (D : Nat → Nat) (i m j : Nat) : Prop := ∀ t, t < m → D (j + t) = (D (i + m - 1 - t) + 2) % 4
theorem Opp.symm {D : Nat → Nat} (h4 : ∀ i, D i < 4) {i m j : Nat} (h : Opp D i m j) : Opp D j m i := fun t ht => by
  have := h (m - 1 - t) (by omega)
  rw [show i + m - 1 - (m - 1 - t) = i + t by omega, show j + (m - 1 - t) = j + m - 1 - t by omega] at this
  rw [this]
  have := h4 (i + t)
  omega
section
variable {n : Nat} {X Y : Nat → Int} {D : Nat → Nat}
def Q (X Y : Nat → Int) (D : Nat → Nat) (i m : Nat) : Int := S m fun t => X (i + t) * uy (D (i + t)) - Y (i + t) * ux (D (i + t))
end
end Go.Proofs.YtpfenoioeajkmaaDoor.G
end

section
set_option linter.unusedVariables false
set_option linter.unusedSimpArgs false
namespace Go.Proofs.YtpfenoioeajkmaaDoor.G
section
variable {n : Nat} {X Y : Nat → Int} {D : Nat → Nat}
def T (n : Nat) (D : Nat → Nat) (i : Nat) : Int := turn (D (i + n - 1)) (D i)
end
end Go.Proofs.YtpfenoioeajkmaaDoor.G
end

section
set_option linter.unusedVariables false
set_option linter.unusedSimpArgs false
namespace Go.Proofs.YtpfenoioeajkmaaDoor.L
open Go.RowKit Go.Proofs.YtpfenoioeajkmaaDoorW.PrintWords Go.Proofs.YtpfenoioeajkmaaDoorW.PrintLast Go.Proofs.YtpfenoioeajkmaaDoorW.PrintMore Go.Proofs.YtpfenoioeajkmaaDoor.X Go.Proofs.YtpfenoioeajkmaaDoor.G
def rcl (s : ByteArray) : List (Int × Int) := cellsTo s 49
attribute [irreducible] rcl
end Go.Proofs.YtpfenoioeajkmaaDoor.L
end

section
set_option linter.unusedVariables false
set_option linter.unusedSimpArgs false
namespace Go.Proofs.YtpfenoioeajkmaaDoor.X
open Go.RowKit Go.Proofs.YtpfenoioeajkmaaDoorW.PrintWords Go.Proofs.YtpfenoioeajkmaaDoorW.PrintLast Go.Proofs.YtpfenoioeajkmaaDoorW.PrintMore
theorem goodL_mn (x y : Nat → Int) (n : Nat) : goodL x y (mnN n 33) = goodL x y n := by
  unfold mnN
  by_cases h : n ≤ 33
  · rw [if_pos h]
  · rw [if_neg h]
    unfold goodL
    rw [decide_eq_false (show ¬ n ≤ 30 by omega), Bool.and_false, Bool.false_and, decide_eq_false (show ¬ 33 ≤ 30 by decide), Bool.and_false, Bool.false_and]
theorem mn_of_good {x y : Nat → Int} {n : Nat} (h : goodL x y n = true) : mnN n 33 = n := by
  have := (goodL_at h).1
  unfold mnN
  rw [if_pos (by omega)]
end Go.Proofs.YtpfenoioeajkmaaDoor.X
end

section
set_option linter.unusedVariables false
set_option linter.unusedSimpArgs false
namespace Go.Proofs.YtpfenoioeajkmaaDoor.X
open Go.RowKit Go.Proofs.YtpfenoioeajkmaaDoorW.PrintWords Go.Proofs.YtpfenoioeajkmaaDoorW.PrintLast Go.Proofs.YtpfenoioeajkmaaDoorW.PrintMore
def inB (x y : Nat → Int) (n : Nat) (a b : Int) : Bool := (List.range n).any fun k => x k == a && y k == b
theorem inB_iff (x y : Nat → Int) (n : Nat) (a b : Int) : inB x y n a b = true ↔ ∃ k, k < n ∧ x k = a ∧ y k = b := by
  unfold inB
  simp [List.any_eq_true, List.mem_range]
set_option maxHeartbeats 4000000 in
set_option maxRecDepth 100000 in
theorem In_calls (A : Option Addr) (n c : Nat) (x y : Nat → Int) (a b : Int) (w : World) (hA : Sl w A n c x y) (hn : n ≤ 9223372036854775807) (r : Bool) (hr : r = true ↔ ∃ k, k < n ∧ x k = a ∧ y k = b) :
    Calls Tryd.prog 45 #[.slice A n c, .int .i64 a, .int .i64 b] w fun e w' => e = .returned (.bool r) ∧ Below w.heap.size w w' := by
  have HP := Lib.hid (show 0 < n → ∃ b off, A = some ⟨b, off, none⟩ ∧ n ≤ c ∧ Pts w b off n x y from fun h => by
    rcases hA with ⟨_, h2, _⟩ | ⟨b, off, h1, h4, h3⟩ | ⟨_, _, h2⟩
    · omega
    · exact ⟨b, off, h1, h4, h3⟩
    · omega)
  have HR := Lib.hid hr
  clear hA hr
  go_enter Tryd.func45, Tryd.ntmps45
  go_wp2_with fail
  have HB := Lib.hid (Below.refl w.heap.size w)
  go_loopw [11] (fun i wr => ∃ k : Nat, k ≤ n ∧ i = .int .i64 k ∧ Hid (∀ j, j < k → ¬ (x j = a ∧ y j = b)) ∧ Hid (Below w.heap.size w wr)) (fun i _ => n - (intOf i).toNat)
  case atStart => exact ⟨0, by omega, rfl, Lib.hid (fun j h => by omega), HB⟩
  case round =>
    clear HB
    obtain ⟨k, hk, rfl, HK, HB⟩ := hrel
    by_cases hlt : k < n
    · obtain ⟨b', off, rfl, hnc, hP0⟩ := HP.out (by omega)
      have hp := hP0.later HB.out
      have q0 := hp.c0 k hlt
      have q1 := hp.c1 k hlt
      have hkc : k ≤ c := by omega
      have hm29 : Tryd.prog.eqGuardType Tryd.prog.depth 29 = false := by kernel_rfl
      have he := fun w => pair_eq29 (x k) (y k) a b w
      have HBA := Lib.hid (HB.out.trans ((below_one (w := wr) (.cells #[.int .i64 (x k), .int .i64 (y k)] 29)).mono HB.out.size))
      obtain ⟨c0, c1⟩ := two_cells wr 29 (.int .i64 (x k)) (.int .i64 (y k))
      clear hp hP0 HB
      cases hh : (x k == a && y k == b) with
      | true =>
        rw [hh] at he
        obtain rfl : r = true := HR.out.2 ⟨k, hlt, by simpa using hh⟩
        clear HR HK hh HP
        go_wp2
        go_ret
        exact ⟨rfl, HBA.out⟩
      | false =>
        rw [hh] at he
        have HH := Lib.hid hh
        clear hh
        go_wp2_with fail
        refine ⟨⟨k + 1, by omega, by go_num, Lib.hid (fun j h1 => ?_), HBA⟩, by simp [intOf]; omega⟩
        by_cases e : j = k
        · rw [e]
          have := HH.out
          rw [Bool.eq_false_iff] at this
          exact fun q => this (by simpa using q)
        · exact HK.out j (by omega)
    · obtain rfl : k = n := by omega
      obtain rfl : r = false := by
        rw [Bool.eq_false_iff]
        intro q
        obtain ⟨j, h1, h2⟩ := HR.out.1 q
        exact HK.out j h1 h2
      clear HR HK HP
      go_wp2
      go_ret
      exact ⟨rfl, HB.out⟩
end Go.Proofs.YtpfenoioeajkmaaDoor.X
end

section
set_option linter.unusedVariables false
set_option linter.unusedSimpArgs false
namespace Go.Proofs.YtpfenoioeajkmaaDoor.L
open Go.RowKit Go.Proofs.YtpfenoioeajkmaaDoor.X
abbrev Side := (Int × Int) × Int
def sidesOf (C : Int → Int → Bool) (a b : Int) : List Side :=
  (if C a (b - 1) then [] else [((a, b), 114)]) ++ ((if C (a + 1) b then [] else [((a + 1, b), 117)]) ++ ((if C a (b + 1) then [] else [((a + 1, b + 1), 108)]) ++ (if C (a - 1) b then [] else [((a, b + 1), 100)])))
def sidesTo (C : Int → Int → Bool) (x y : Nat → Int) : Nat → List Side
  | 0 => []
  | k + 1 => sidesTo C x y k ++ sidesOf C (x k) (y k)
def side (C : Int → Int → Bool) (p q c : Int) : Prop :=
  (c = 114 ∧ C p q = true ∧ C p (q - 1) = false) ∨ (c = 117 ∧ C (p - 1) q = true ∧ C p q = false) ∨ (c = 108 ∧ C (p - 1) (q - 1) = true ∧ C (p - 1) q = false) ∨ (c = 100 ∧ C p (q - 1) = true ∧ C (p - 1) (q - 1) = false)
theorem mem_if {P : Prop} [Decidable P] {α : Type} {a b : α} : a ∈ (if P then [] else [b]) ↔ ¬ P ∧ a = b := by
  split
  · simp [*]
  · simp [*]
theorem mem_sidesOf (C : Int → Int → Bool) (a b p q c : Int) : ((p, q), c) ∈ sidesOf C a b ↔
    (c = 114 ∧ p = a ∧ q = b ∧ C a (b - 1) = false) ∨ (c = 117 ∧ p = a + 1 ∧ q = b ∧ C (a + 1) b = false) ∨ (c = 108 ∧ p = a + 1 ∧ q = b + 1 ∧ C a (b + 1) = false) ∨ (c = 100 ∧ p = a ∧ q = b + 1 ∧ C (a - 1) b = false) := by
  unfold sidesOf
  simp only [List.mem_append, mem_if, Prod.mk.injEq, Bool.not_eq_true]
  constructor
  · rintro (⟨h, ⟨h1, h2⟩, h3⟩ | ⟨h, ⟨h1, h2⟩, h3⟩ | ⟨h, ⟨h1, h2⟩, h3⟩ | ⟨h, ⟨h1, h2⟩, h3⟩)
    · exact .inl ⟨h3, h1, h2, h⟩
    · exact .inr (.inl ⟨h3, h1, h2, h⟩)
    · exact .inr (.inr (.inl ⟨h3, h1, h2, h⟩))
    · exact .inr (.inr (.inr ⟨h3, h1, h2, h⟩))
  · rintro (⟨h3, h1, h2, h⟩ | ⟨h3, h1, h2, h⟩ | ⟨h3, h1, h2, h⟩ | ⟨h3, h1, h2, h⟩)
    · exact .inl ⟨h, ⟨h1, h2⟩, h3⟩
    · exact .inr (.inl ⟨h, ⟨h1, h2⟩, h3⟩)
    · exact .inr (.inr (.inl ⟨h, ⟨h1, h2⟩, h3⟩))
    · exact .inr (.inr (.inr ⟨h, ⟨h1, h2⟩, h3⟩))
theorem mem_sidesTo (C : Int → Int → Bool) (x y : Nat → Int) (e : Side) : ∀ k, e ∈ sidesTo C x y k ↔ ∃ i, i < k ∧ e ∈ sidesOf C (x i) (y i)
  | 0 => by simp [sidesTo]
  | k + 1 => by
    rw [sidesTo, List.mem_append, mem_sidesTo C x y e k]
    constructor
    · rintro (⟨i, hi, h⟩ | h)
      · exact ⟨i, by omega, h⟩
      · exact ⟨k, by omega, h⟩
    · rintro ⟨i, hi, h⟩
      by_cases e : i = k
      · subst e
        exact .inr h
      · exact .inl ⟨i, by omega, h⟩
theorem mem_sides {x y : Nat → Int} {n : Nat} (p q c : Int) : ((p, q), c) ∈ sidesTo (inB x y n) x y n ↔ side (inB x y n) p q c := by
  rw [mem_sidesTo]
  simp only [mem_sidesOf]
  unfold side
  constructor
  · rintro ⟨i, hi, ⟨rfl, rfl, rfl, h⟩ | ⟨rfl, rfl, rfl, h⟩ | ⟨rfl, rfl, rfl, h⟩ | ⟨rfl, rfl, rfl, h⟩⟩
    · exact .inl ⟨rfl, (inB_iff ..).2 ⟨i, hi, rfl, rfl⟩, h⟩
    · exact .inr (.inl ⟨rfl, (inB_iff ..).2 ⟨i, hi, by omega, rfl⟩, h⟩)
    · exact .inr (.inr (.inl ⟨rfl, (inB_iff ..).2 ⟨i, hi, by omega, by omega⟩, by rw [show x i + 1 - 1 = x i by omega]; exact h⟩))
    · exact .inr (.inr (.inr ⟨rfl, (inB_iff ..).2 ⟨i, hi, rfl, by omega⟩, by rw [show y i + 1 - 1 = y i by omega]; exact h⟩))
  · rintro (⟨rfl, h1, h2⟩ | ⟨rfl, h1, h2⟩ | ⟨rfl, h1, h2⟩ | ⟨rfl, h1, h2⟩)
    · obtain ⟨i, hi, h3, h4⟩ := (inB_iff ..).1 h1
      exact ⟨i, hi, .inl ⟨rfl, h3.symm, h4.symm, by rw [h3, h4]; exact h2⟩⟩
    · obtain ⟨i, hi, h3, h4⟩ := (inB_iff ..).1 h1
      exact ⟨i, hi, .inr (.inl ⟨rfl, by omega, h4.symm, by rw [h3, h4, show p - 1 + 1 = p by omega]; exact h2⟩)⟩
    · obtain ⟨i, hi, h3, h4⟩ := (inB_iff ..).1 h1
      exact ⟨i, hi, .inr (.inr (.inl ⟨rfl, by omega, by omega, by rw [h3, h4, show q - 1 + 1 = q by omega]; exact h2⟩))⟩
    · obtain ⟨i, hi, h3, h4⟩ := (inB_iff ..).1 h1
      exact ⟨i, hi, .inr (.inr (.inr ⟨rfl, h3.symm, by omega, by rw [h3, h4]; exact h2⟩))⟩
theorem side_isL {C : Int → Int → Bool} {p q c : Int} (h : side C p q c) : isL c := by
  unfold side at h
  unfold isL
  rcases h with ⟨rfl, -⟩ | ⟨rfl, -⟩ | ⟨rfl, -⟩ | ⟨rfl, -⟩ <;> simp
theorem side_in {C : Int → Int → Bool} {p q c a b : Int} (h : side C p q c) (ha : a = p + stepx c) (hb : b = q + stepy c) :
    (c = 114 ∧ C (a - 1) b = true ∧ C (a - 1) (b - 1) = false) ∨ (c = 117 ∧ C (a - 1) (b - 1) = true ∧ C a (b - 1) = false) ∨ (c = 108 ∧ C a (b - 1) = true ∧ C a b = false) ∨ (c = 100 ∧ C a b = true ∧ C (a - 1) b = false) := by
  unfold side at h
  rcases h with ⟨rfl, h1, h2⟩ | ⟨rfl, h1, h2⟩ | ⟨rfl, h1, h2⟩ | ⟨rfl, h1, h2⟩ <;> simp [stepx, stepy] at ha hb
  · obtain rfl : p = a - 1 := by omega
    obtain rfl : q = b := by omega
    exact .inl ⟨rfl, h1, h2⟩
  · obtain rfl : p = a := by omega
    obtain rfl : q = b - 1 := by omega
    exact .inr (.inl ⟨rfl, h1, h2⟩)
  · obtain rfl : p = a + 1 := by omega
    obtain rfl : q = b := by omega
    rw [show a + 1 - 1 = a by omega] at h1 h2
    exact .inr (.inr (.inl ⟨rfl, h1, h2⟩))
  · obtain rfl : p = a := by omega
    obtain rfl : q = b + 1 := by omega
    rw [show b + 1 - 1 = b by omega] at h1 h2
    exact .inr (.inr (.inr ⟨rfl, h1, h2⟩))
theorem side_on {C : Int → Int → Bool} {p q c : Int} (h : side C p q c) : ∃ d, side C (p + stepx c) (q + stepy c) d := by
  have h1 := side_in h rfl rfl
  generalize p + stepx c = a at h1 ⊢
  generalize q + stepy c = b at h1 ⊢
  unfold side
  cases e1 : C a b <;> cases e2 : C (a - 1) b <;> cases e3 : C (a - 1) (b - 1) <;> cases e4 : C a (b - 1) <;> simp [e1, e2, e3, e4] at h1 ⊢
theorem side_back {C : Int → Int → Bool} {p q c p' q' c' : Int} (h : side C p q c) (h' : side C p' q' c') (ea : p + stepx c = p' + stepx c') (eb : q + stepy c = q' + stepy c')
    (hu : ∀ d d', side C (p + stepx c) (q + stepy c) d → side C (p + stepx c) (q + stepy c) d' → d = d') : p = p' ∧ q = q' := by
  have h1 := side_in h rfl rfl
  have h2 := side_in h' ea eb
  suffices hc : c = c' by
    subst hc
    omega
  generalize p + stepx c = a at h1 h2 hu
  generalize q + stepy c = b at h1 h2 hu
  have u1 : ¬ (C a b = true ∧ C a (b - 1) = false ∧ C (a - 1) (b - 1) = true ∧ C (a - 1) b = false) := by
    rintro ⟨a1, a2, a3, a4⟩
    have := hu 114 108 (.inl ⟨rfl, a1, a2⟩) (.inr (.inr (.inl ⟨rfl, a3, a4⟩)))
    omega
  have u2 : ¬ (C (a - 1) b = true ∧ C a b = false ∧ C a (b - 1) = true ∧ C (a - 1) (b - 1) = false) := by
    rintro ⟨a1, a2, a3, a4⟩
    have := hu 117 100 (.inr (.inl ⟨rfl, a1, a2⟩)) (.inr (.inr (.inr ⟨rfl, a3, a4⟩)))
    omega
  clear hu
  cases e1 : C a b <;> cases e2 : C (a - 1) b <;> cases e3 : C (a - 1) (b - 1) <;> cases e4 : C a (b - 1) <;> simp [e1, e2, e3, e4] at h1 h2 u1 u2 <;> omega
section
variable {α β : Type} [DecidableEq α]
theorem findL_mem {l : List (α × β)} {p : α} {c : β} (h : findL l p = some c) : (p, c) ∈ l := by
  induction l with
  | nil => cases h
  | cons e r ih =>
    unfold findL at h
    split at h
    · rename_i he
      injection h with h
      subst he h
      exact List.mem_cons_self
    · exact List.mem_cons_of_mem _ (ih h)
theorem findL_of {l : List (α × β)} (hn : (l.map (·.1)).Nodup) {p : α} {c : β} (h : (p, c) ∈ l) : findL l p = some c := by
  induction l with
  | nil => cases h
  | cons e r ih =>
    rw [List.map_cons, List.nodup_cons] at hn
    unfold findL
    rcases List.mem_cons.1 h with rfl | h
    · rw [if_pos rfl]
    · rw [if_neg, ih hn.2 h]
      intro he
      exact hn.1 (he ▸ List.mem_map.2 ⟨(p, c), h, rfl⟩)
theorem putL_len (l : List (α × β)) (k : α) (v : β) : (putL l k v).length ≤ l.length + 1 ∧ (putL l k v).map (·.1) = if k ∈ l.map (·.1) then l.map (·.1) else l.map (·.1) ++ [k] := by
  induction l with
  | nil => simp [putL]
  | cons p r ih =>
    unfold putL
    by_cases h : p.1 = k
    · rw [if_pos h]
      simp [h]
    · rw [if_neg h]
      refine ⟨by simp only [List.length_cons]; omega, ?_⟩
      rw [List.map_cons, ih.2, List.map_cons]
      by_cases h2 : k ∈ r.map (·.1)
      · rw [if_pos h2, if_pos (List.mem_cons_of_mem _ h2)]
      · rw [if_neg h2, if_neg, List.cons_append]
        intro hh
        rcases List.mem_cons.1 hh with e | e
        · exact h e.symm
        · exact h2 e
def mapOf (l : List (α × β)) : List (α × β) := l.foldl (fun m e => putL m e.1 e.2) []
theorem mapOf_snoc (l : List (α × β)) (e : α × β) : mapOf (l ++ [e]) = putL (mapOf l) e.1 e.2 := by unfold mapOf; rw [List.foldl_append]; rfl
end
theorem rev_ind {α : Type} {P : List α → Prop} (h0 : P []) (h1 : ∀ l a, P l → P (l ++ [a])) (l : List α) : P l := by
  suffices h : ∀ n, ∀ l : List α, l.length = n → P l from h _ l rfl
  intro n
  induction n with
  | zero => intro l hl; rw [List.length_eq_zero_iff.1 hl]; exact h0
  | succ n ih =>
    intro l hl
    have hne : l ≠ [] := by intro e; rw [e] at hl; cases hl
    rw [← List.dropLast_concat_getLast hne]
    exact h1 _ _ (ih _ (by rw [List.length_dropLast]; omega))
section
variable {α β : Type} [DecidableEq α]
theorem mapOf_keys (l : List (α × β)) : (mapOf l).length ≤ l.length ∧ (∀ k, k ∈ (mapOf l).map (·.1) ↔ k ∈ l.map (·.1)) ∧ ((mapOf l).length = l.length → (l.map (·.1)).Nodup) ∧ ((l.map (·.1)).Nodup → mapOf l = l) := by
  refine rev_ind (P := fun l : List (α × β) => (mapOf l).length ≤ l.length ∧ (∀ k, k ∈ (mapOf l).map (·.1) ↔ k ∈ l.map (·.1)) ∧ ((mapOf l).length = l.length → (l.map (·.1)).Nodup) ∧ ((l.map (·.1)).Nodup → mapOf l = l)) ?_ ?_ l
  · simp [mapOf]
  · rintro l e ⟨i1, i2, i3, i4⟩
    rw [mapOf_snoc]
    obtain ⟨p1, p2⟩ := putL_len (mapOf l) e.1 e.2
    have pl : (putL (mapOf l) e.1 e.2).length = ((putL (mapOf l) e.1 e.2).map (·.1)).length := by simp
    refine ⟨by rw [List.length_append]; simp only [List.length_cons, List.length_nil]; omega, fun k => ?_, fun hl => ?_, fun hn => ?_⟩
    · rw [p2]
      by_cases he : e.1 ∈ (mapOf l).map (·.1)
      · rw [if_pos he, i2, List.map_append, List.mem_append]
        constructor
        · exact .inl
        · rintro (h | h)
          · exact h
          · simp at h
            rw [h]
            exact (i2 _).1 he
      · rw [if_neg he, List.mem_append, i2, List.map_append, List.mem_append]
        simp
    · by_cases he : e.1 ∈ (mapOf l).map (·.1)
      · rw [p2, if_pos he, List.length_map] at pl
        rw [List.length_append] at hl
        simp only [List.length_cons, List.length_nil] at hl
        omega
      · rw [p2, if_neg he, List.length_append, List.length_map] at pl
        rw [List.length_append] at hl
        simp only [List.length_cons, List.length_nil] at hl pl
        rw [List.map_append, List.nodup_append]
        refine ⟨i3 (by omega), by simp, fun a ha b hb hab => ?_⟩
        simp at hb
        subst hb
        subst hab
        exact he ((i2 _).2 ha)
    · rw [List.map_append, List.nodup_append] at hn
      rw [i4 hn.1]
      refine putL_none ?_
      cases hf : findL l e.1 with
      | none => rfl
      | some v => exact absurd rfl (hn.2.2 _ (List.mem_map.2 ⟨_, findL_mem hf, rfl⟩) _ (by simp))
end
def ltr (E : List Side) (p : Int × Int) : Int := (findL E p).getD 0
def fol (E : List Side) (p : Int × Int) : Nat → Int × Int
  | 0 => p
  | k + 1 => ((fol E p k).1 + stepx (ltr E (fol E p k)), (fol E p k).2 + stepy (ltr E (fol E p k)))
theorem subset_length {α : Type} [DecidableEq α] : ∀ {l m : List α}, l.Nodup → (∀ a ∈ l, a ∈ m) → l.length ≤ m.length
  | [], _, _, _ => Nat.zero_le _
  | a :: l, m, hn, hs => by
    rw [List.nodup_cons] at hn
    have h1 : l.length ≤ (m.erase a).length := subset_length hn.2 fun b hb => by
      refine (List.mem_erase_of_ne fun e => ?_).2 (hs b (List.mem_cons_of_mem _ hb))
      subst e
      exact hn.1 hb
    have h2 := hs a List.mem_cons_self
    rw [List.length_erase_of_mem h2] at h1
    have := List.length_pos_of_mem h2
    simp only [List.length_cons]
    omega
theorem hole {α : Type} [DecidableEq α] (f : Nat → α) (m : List α) (n : Nat) (hn : m.length < n) (hf : ∀ i, i < n → f i ∈ m) : ∃ i d, 0 < d ∧ i + d < n ∧ f i = f (i + d) := by
  refine Classical.byContradiction fun hc => ?_
  have h1 : ((List.range n).map f).Nodup := by
    unfold List.Nodup
    rw [List.pairwise_map]
    refine List.pairwise_lt_range.imp_of_mem fun {a b} ha hb hab he => hc ⟨a, b - a, by omega, ?_, ?_⟩
    · rw [List.mem_range] at hb
      omega
    · rw [he]
      congr 1
      omega
  have h2 := subset_length h1 fun a ha => by
    obtain ⟨i, hi, rfl⟩ := List.mem_map.1 ha
    exact hf i (List.mem_range.1 hi)
  simp at h2
  omega
theorem least_one (P : Nat → Prop) (n : Nat) : P n → ∃ m, m ≤ n ∧ P m ∧ ∀ k, k < m → ¬ P k := by
  induction n using Nat.strongRecOn with
  | _ n ih =>
    intro h
    by_cases hx : ∃ k, k < n ∧ P k
    · obtain ⟨k, hk, hp⟩ := hx
      obtain ⟨m, h1, h2⟩ := ih k hk hp
      exact ⟨m, by omega, h2⟩
    · exact ⟨n, Nat.le_refl _, h, fun k hk hp => hx ⟨k, hk, hp⟩⟩
theorem come_back {x y : Nat → Int} {n : Nat} {E : List Side} (hE : E = sidesTo (inB x y n) x y n) (hn : (E.map (·.1)).Nodup) {p : Int × Int} {c : Int} (hp : (p, c) ∈ E) :
    ∃ K, 1 ≤ K ∧ K ≤ E.length ∧ fol E p K = p ∧ (∀ k, 0 < k → k < K → fol E p k ≠ p) ∧ ∀ k, ∃ c, findL E (fol E p k) = some c ∧ isL c ∧ ltr E (fol E p k) = c := by
  have hs : ∀ q c, (q, c) ∈ E ↔ side (inB x y n) q.1 q.2 c := fun q c => by rw [hE]; exact mem_sides q.1 q.2 c
  have hf : ∀ k, ∃ c, (fol E p k, c) ∈ E := by
    intro k
    induction k with
    | zero => exact ⟨c, hp⟩
    | succ k ih =>
      obtain ⟨d, hd⟩ := ih
      have h1 := findL_of hn hd
      obtain ⟨d', h2⟩ := side_on ((hs _ _).1 hd)
      refine ⟨d', (hs _ _).2 ?_⟩
      have h3 : ltr E (fol E p k) = d := by unfold ltr; rw [h1]; rfl
      show side _ ((fol E p k).1 + stepx (ltr E (fol E p k))) ((fol E p k).2 + stepy (ltr E (fol E p k))) d'
      rw [h3]
      exact h2
  have hu : ∀ q d d', (q, d) ∈ E → (q, d') ∈ E → d = d' := fun q d d' h1 h2 => by
    have e1 := findL_of hn h1
    rw [findL_of hn h2] at e1
    injection e1 with e1
    exact e1.symm
  have hl : ∀ k, ∃ c, findL E (fol E p k) = some c ∧ isL c ∧ ltr E (fol E p k) = c := fun k => by
    obtain ⟨d, hd⟩ := hf k
    exact ⟨d, findL_of hn hd, side_isL ((hs _ _).1 hd), by unfold ltr; rw [findL_of hn hd]; rfl⟩
  have hb : ∀ i j, fol E p (i + 1) = fol E p (j + 1) → fol E p i = fol E p j := fun i j he => by
    obtain ⟨d, hd⟩ := hf i
    obtain ⟨d', hd'⟩ := hf j
    obtain ⟨_, a1, -, a2⟩ := hl i
    obtain ⟨_, b1, -, b2⟩ := hl j
    rw [findL_of hn hd] at a1
    injection a1 with a1
    subst a1
    rw [findL_of hn hd'] at b1
    injection b1 with b1
    subst b1
    unfold fol at he
    rw [a2, b2] at he
    have e1 := congrArg Prod.fst he
    have e2 := congrArg Prod.snd he
    simp only at e1 e2
    have := side_back ((hs _ _).1 hd) ((hs _ _).1 hd') e1 e2 fun d1 d2 h1 h2 => hu _ d1 d2 ((hs (_, _) _).2 h1) ((hs (_, _) _).2 h2)
    exact Prod.ext this.1 this.2
  have hb' : ∀ i d, fol E p i = fol E p (i + d) → fol E p d = p := by
    intro i d
    induction i with
    | zero => intro h; rw [Nat.zero_add] at h; exact h.symm
    | succ i ih => intro h; rw [show i + 1 + d = i + d + 1 by omega] at h; exact ih (hb _ _ h)
  obtain ⟨i, d, hd0, hd1, he⟩ := hole (fol E p) (E.map (·.1)) (E.length + 1) (by simp) fun i hi => by
    obtain ⟨c, hc⟩ := hf i
    exact List.mem_map.2 ⟨_, hc, rfl⟩
  obtain ⟨K, k1, k2, k3⟩ := least_one (fun k => 0 < k ∧ fol E p k = p) d ⟨hd0, hb' i d he⟩
  exact ⟨K, k2.1, by omega, k2.2, fun k h0 hk e => k3 k hk ⟨h0, e⟩, hl⟩
end Go.Proofs.YtpfenoioeajkmaaDoor.L
end

section
set_option linter.unusedVariables false
namespace Go.Proofs
open Go.Shelf
def Tryd.lays167_ren : Go.Shelf.Ren := ⟨fun | 167 => 70 | 240 => 79 | 276 => 91 | n => n, fun | 70 => 77 | 72 => 80 | 37 => 78 | 75 => 84 | 80 => 86 | 164 => 111 | n => n, fun | n => n⟩
theorem Tryd.lays167 : Go.Proofs.Lays.n167 Tryd.prog Tryd.lays167_ren := {
  mixed := by kernel_rfl
  f167 := Tryd.func70.trans (congrArg some (by kernel_rfl))
  f240 := Tryd.func79.trans (congrArg some (by kernel_rfl))
  f276 := Tryd.func91.trans (congrArg some (by kernel_rfl))
  t0 := Tryd.underlying0
  a0 := Tryd.isAgg0
  z0 := Tryd.sizeOf0
  v0 := Tryd.zeroValue0
  t4 := Tryd.underlying4
  a4 := Tryd.isAgg4
  z4 := Tryd.sizeOf4
  v4 := Tryd.zeroValue4
  t5 := Tryd.underlying5
  a5 := Tryd.isAgg5
  z5 := Tryd.sizeOf5
  v5 := Tryd.zeroValue5
  t9 := Tryd.underlying9
  a9 := Tryd.isAgg9
  z9 := Tryd.sizeOf9
  v9 := Tryd.zeroValue9
  t20 := Tryd.underlying20
  a20 := Tryd.isAgg20
  z20 := Tryd.sizeOf20
  v20 := Tryd.zeroValue20
  t37 := Tryd.underlying78
  a37 := Tryd.isAgg78
  z37 := Tryd.sizeOf78
  v37 := Tryd.zeroValue78
  t70 := Tryd.underlying77
  a70 := Tryd.isAgg77
  z70 := Tryd.sizeOf77
  v70 := Tryd.zeroValue77
  t72 := Tryd.underlying80
  a72 := Tryd.isAgg80
  z72 := Tryd.sizeOf80
  v72 := Tryd.zeroValue80
  t75 := Tryd.underlying84
  a75 := Tryd.isAgg84
  z75 := Tryd.sizeOf84
  v75 := Tryd.zeroValue84
  t164 := Tryd.underlying111
  a164 := Tryd.isAgg111
  z164 := Tryd.sizeOf111
  v164 := Tryd.zeroValue111 }
theorem Tryd.Builder_Extra_167 : Builder.Extra Tryd.prog Tryd.lays167_ren := {
  sizeBuilder := by kernel_rfl
  liesBuilder := by kernel_rfl
  t5 := Tryd.underlying5
  a5 := Tryd.isAgg5
  z5 := Tryd.sizeOf5
  v5 := Tryd.zeroValue5
  infoByte := by kernel_rfl
  cellsByte := by kernel_rfl
  sizeByte := by kernel_rfl
  neB5 := by decide }
open Go.RowKit in
theorem Tryd.Builder_WriteByte_k (B b : Nat) (bs : List Value) (c : Int) (w : World) (h : Lib.IsBuilderF 80 5 B b bs w) (hlen : bs.length + 1 ≤ 140737488355328) (hBw : B ≤ w.heap.size) :
    Calls Tryd.prog 70 #[.pointer (some ⟨b, 0, none⟩), .int .u8 c] w fun e w' => e = .returned .nilIface ∧ (Lib.BuilderAtF 80 5 B b (.pointer (some ⟨b, 0, none⟩)) (bs ++ [.int .u8 c]) w' ∧ Below B w w' ∧ Lib.OthersKept 5 (some b) w w') := Any.Builder_WriteByte_k Tryd.lays167 Tryd.Builder_Extra_167 B b bs c w h hlen hBw
open Go.RowKit in
theorem Tryd.Builder_Len_f (B b : Nat) (bs : List Value) (w : World) (h : Lib.IsBuilderF 80 5 B b bs w) :
    Calls Tryd.prog 68 #[.pointer (some ⟨b, 0, none⟩)] w fun e w' => e = .returned (.int .i64 bs.length) ∧ w' = w := Any.Builder_Len_f Tryd.lays170 B b bs w h
open Go.RowKit in
theorem Tryd.Builder_String_k (B b : Nat) (l : List UInt8) (w : World) (h : Lib.IsBuilderF 80 5 B b (Lib.byteCells l) w) (h0 : l ≠ []) :
    Calls Tryd.prog 71 #[.pointer (some ⟨b, 0, none⟩)] w fun e w' => e = .returned (.string ⟨l.toArray⟩) ∧ Below B w w' := (Any.Builder_String_k Tryd.lays169 Tryd.Builder_Extra_169 B b l w h h0).mono fun e w' hh => ⟨hh.1, hh.2.2.1⟩
end Go.Proofs
end

section
set_option linter.unusedVariables false
set_option linter.unusedSimpArgs false
namespace Go.Proofs.YtpfenoioeajkmaaDoor.X
open Go.RowKit Go.Proofs.YtpfenoioeajkmaaDoorW.PrintWords Go.Proofs.YtpfenoioeajkmaaDoorW.PrintLast Go.Proofs.YtpfenoioeajkmaaDoorW.PrintMore
section
variable {P : Program} {ops : Array Oper} {Q : Exit → Act → World → Prop}
theorem goesv_ {oi : Oper} {N : Option Tmp} {a : Act} {w : World} {K : Act → World → Prop} {f : FuncId} {fn : Func} {x : Operand} {as0 : Array Operand} {ts : Array TypeId} (hf : P.funcs[f]? = some fn) (hname : (fn.name == "runtime.NumGoroutine") = false) (hb : fn.body.isSome = true) (args : Array Value)
    (hw : Region.wanted oi (yielded ops a.tmps) = true) (hN : oi.dst = N) (hop : oi.op = .call { callee := .value x, args := as0, argTypes := ts }) (hx : a.eval x = .func (.func f) #[] #[]) (hargs : as0.map a.eval = args)
    (h : Calls P f args w fun e w' => ∃ v, e = .returned v ∧ K (a.put N v) w') : if Region.wanted oi (yielded ops a.tmps) = true then Oper.wp P oi a w K Q else K (a.put N undef) w := by
  refine call_ f args hw hN ?_ h
  have he := enters_ hf hname hb args w
  unfold execOp
  simp [hop, resolve, Deferred.ofValue, invoke, hx, hargs, he]
end
def lt2 (a b c d : Int) : Prop := a < c ∨ (a = c ∧ b < d)
theorem good_pw {x y : Nat → Int} {n : Nat} (h : goodTo x y n = true) (i : Nat) : ∀ d, i + d + 1 < n → lt2 (x i) (y i) (x (i + d + 1)) (y (i + d + 1))
  | 0, hd => by
    have := (goodTo_at h hd).2
    rw [cmpP_iff] at this
    unfold lt2
    rcases this with e | e
    · omega
    · exact e
  | d + 1, hd => by
    have h1 := good_pw h i d (by omega)
    have := (goodTo_at h hd).2
    rw [cmpP_iff] at this
    unfold lt2 at *
    rcases this with e | e
    · omega
    · rw [show i + (d + 1) + 1 - 1 = i + d + 1 by omega] at e
      omega
theorem good_lt {x y : Nat → Int} {n : Nat} (h : goodTo x y n = true) {i j : Nat} (hij : i < j) (hj : j < n) : lt2 (x i) (y i) (x j) (y j) := by
  obtain ⟨d, rfl⟩ : ∃ d, j = i + d + 1 := ⟨j - i - 1, by omega⟩
  exact good_pw h i d hj
theorem cmpP_zero (a b c d : Int) : cmpP a b c d = 0 ↔ a = c ∧ b = d := by
  unfold cmpP cmpI
  by_cases h1 : a < c
  · simp [h1]
    omega
  · by_cases h2 : a > c
    · simp [h1, h2]
      omega
    · obtain rfl : a = c := by omega
      by_cases h3 : b < d
      · simp [h3]
        omega
      · by_cases h4 : b > d
        · simp [h3, h4]
          omega
        · obtain rfl : b = d := by omega
          simp
set_option maxHeartbeats 8000000 in
set_option maxRecDepth 100000 in
theorem search_calls (A : Option Addr) (n c : Nat) (x y : Nat → Int) (a b : Int) (w : World) (hA : Sl w A n c x y) (hn : n ≤ 1000) (hg : goodTo x y n = true) :
    Calls Tryd.prog 66 #[.slice A n c, ptV a b, .func (.func 67) #[] #[]] w fun e w' => (∃ i : Int, e = .returned (.tuple #[.int .i64 i, .bool (inB x y n a b)])) ∧ Below w.heap.size w w' := by
  have HP := Lib.hid (show 0 < n → ∃ b off, A = some ⟨b, off, none⟩ ∧ n ≤ c ∧ Pts w b off n x y from fun h => by
    rcases hA with ⟨_, h2, _⟩ | ⟨b, off, h1, h4, h3⟩ | ⟨_, _, h2⟩
    · omega
    · exact ⟨b, off, h1, h4, h3⟩
    · omega)
  have HG := Lib.hid hg
  clear hA hg
  unfold ptV
  go_enter Tryd.func66, Tryd.ntmps66
  go_wp2_with fail
  have HB1 := Lib.hid (below_one (w := w) (.cells #[.int .i64 a, .int .i64 b] 63))
  have HC := Lib.hid (two_cells w 63 (.int .i64 a) (.int .i64 b))
  have HZ := Lib.hid (show w.heap.size < (w.alloc (.cells #[.int .i64 a, .int .i64 b] 63)).heap.size by simp)
  generalize hw1 : w.alloc (.cells #[.int .i64 a, .int .i64 b] 63) = w1 at HB1 HC HZ ⊢
  clear hw1
  have HB := Lib.hid (Below.refl w1.heap.size w1)
  go_loopw [9, 10] (fun i j wr => ∃ k m : Nat, k ≤ m ∧ m ≤ n ∧ i = .int .i64 k ∧ j = .int .i64 m ∧ Hid (∀ q, q < k → cmpP (x q) (y q) a b < 0) ∧ Hid (∀ q, m ≤ q → q < n → 0 ≤ cmpP (x q) (y q) a b) ∧ Hid (Below w1.heap.size w1 wr)) (fun i j _ => (intOf j).toNat - (intOf i).toNat)
  case atStart => exact ⟨0, n, by omega, by omega, rfl, rfl, Lib.hid (fun j h => by omega), Lib.hid (fun j h h' => by omega), HB⟩
  case round =>
    clear HB
    obtain ⟨k, m, hkm, hmn, rfl, rfl, HK, HM, HB⟩ := hrel
    by_cases hlt : k < m
    · obtain ⟨b', off, rfl, hnc, hP0⟩ := HP.out (by omega)
      obtain ⟨h, hh⟩ : ∃ h, (k + m) / 2 = h := ⟨_, rfl⟩
      have hk1 : k ≤ h := by omega
      have hk2 : h < m := by omega
      have hP := hP0.later (HB1.out.trans (HB.out.mono HB1.out.size))
      have h0 := hP.c0 h (by omega)
      have h1 := hP.c1 h (by omega)
      obtain ⟨t0, t1⟩ := HC.out
      have t0' := (HB.out.cell (p := ⟨w.heap.size, 0, none⟩) HZ.out).trans t0
      have t1' := (HB.out.cell (p := ⟨w.heap.size, 1, none⟩) HZ.out).trans t1
      have e1 : wrap64 ((k : Int) + m) = k + m := by unfold wrap64; omega
      have hhc : h < n := by omega
      clear hP hP0 t0 t1
      go_wp2_with fail
      rw [show ((k : Int) + (m : Int)) / 2 = (h : Int) by omega]
      obtain ⟨X, hX⟩ : ∃ X, x h = X := ⟨_, rfl⟩
      obtain ⟨Y, hY⟩ : ∃ Y, y h = Y := ⟨_, rfl⟩
      rw [hX] at h0
      rw [hY] at h1
      refine start_ (n := 8) (S := fun w' => w'.cell? ⟨b', off + h * 2, none⟩ = some (.int .i64 X) ∧ w'.cell? ⟨b', off + h * 2 + 1, none⟩ = some (.int .i64 Y) ∧ w'.cell? ⟨w.heap.size, 0, none⟩ = some (.int .i64 a) ∧ w'.cell? ⟨w.heap.size, 1, none⟩ = some (.int .i64 b)) (ds := [6]) #[false, false, false, false, false, false, false, false] (by kernel_rfl) rfl rfl ⟨by simpa using h0, by simpa using h1, by simpa using t0', by simpa using t1'⟩ (fun hHeld => ?_)
      refine pure_ (i := 0) (N := (some 24)) (v := ?_) (a' := ?_) #[true, false, false, false, false, false, false, false] rfl rfl (by kernel_rfl) (fun _ _ _ h => h) (Or.inl ⟨by rfl, ?_⟩) ?_ ?_
      rotate_left
      · intro w'; go_simp; first | done | with_reducible rfl
      rotate_left
      · simp only [Act.put, List.setIfInBounds_toArray, List.set_cons_zero, List.set_cons_succ, i64_w, i32_w]; rfl
      refine pure_ (i := 1) (N := (some 25)) (v := ?_) (a' := ?_) #[true, true, false, false, false, false, false, false] rfl rfl (by kernel_rfl) (fun _ _ _ h => h) (Or.inl ⟨by rfl, ?_⟩) ?_ ?_
      rotate_left
      · intro w'; go_simp; first | done | with_reducible rfl
      rotate_left
      · simp only [Act.put, List.setIfInBounds_toArray, List.set_cons_zero, List.set_cons_succ, i64_w, i32_w]; rfl
      refine pure_ (i := 2) (N := (some 26)) (v := ?_) (a' := ?_) #[true, true, true, false, false, false, false, false] rfl rfl (by kernel_rfl) (fun _ _ _ h => h) (Or.inl ⟨by rfl, ?_⟩) ?_ ?_
      rotate_left
      · intro w'; go_simp; first | done | with_reducible rfl
      rotate_left
      · simp only [Act.put, List.setIfInBounds_toArray, List.set_cons_zero, List.set_cons_succ, i64_w, i32_w]; rfl
      refine pure_ (i := 3) (N := (some 27)) (v := ?_) (a' := ?_) #[true, true, true, true, false, false, false, false] rfl rfl (by kernel_rfl) (fun _ _ _ h => h) (Or.inl ⟨by rfl, ?_⟩) ?_ ?_
      rotate_left
      · intro w'; go_simp; first | done | with_reducible rfl
      rotate_left
      · simp only [Act.put, List.setIfInBounds_toArray, List.set_cons_zero, List.set_cons_succ, i64_w, i32_w]; rfl
      refine take_ (i := 4) (N := (some 28)) (v := ?_) (a' := ?_) #[true, true, true, true, true, false, false, false] rfl rfl (by kernel_rfl) (fun _ _ _ h => h) (Or.inl ⟨by rfl, ?_⟩) hHeld ?_ ?_
      rotate_left
      · rintro w' ⟨s0, s1, s2, s3⟩; go_simp; first | done | with_reducible rfl
      rotate_left
      · simp only [Act.put, List.setIfInBounds_toArray, List.set_cons_zero, List.set_cons_succ, i64_w, i32_w]; rfl
      refine take_ (i := 5) (N := (some 29)) (v := ?_) (a' := ?_) #[true, true, true, true, true, true, false, false] rfl rfl (by kernel_rfl) (fun _ _ _ h => h) (Or.inl ⟨by rfl, ?_⟩) hHeld ?_ ?_
      rotate_left
      · rintro w' ⟨s0, s1, s2, s3⟩; go_simp; first | done | with_reducible rfl
      rotate_left
      · simp only [Act.put, List.setIfInBounds_toArray, List.set_cons_zero, List.set_cons_succ, i64_w, i32_w]; rfl
      refine last_ (i := 6) (N := (some 30)) #[true, true, true, true, true, true, true, false] rfl rfl (by kernel_rfl) (by decide) (fun K hK => ?_)
      refine goesv_ Tryd.func67 (by kernel_rfl) rfl #[ptV X Y, ptV a b] (by rfl) rfl rfl rfl (by (try simp only [List.map_toArray, List.map_cons, List.map_nil]); first | done | rfl) ?_
      refine (compare_calls _ _ _ _ _).mono ?_
      rintro e w2 ⟨rfl, hb2⟩
      refine ⟨_, rfl, ?_⟩
      have HB2 := Lib.hid (HB.out.drew.trans (hb2.mono HB.out.drew.size))
      clear hb2 HB
      refine hK.out _ _ ?_
      clear hK K
      refine norm_ (a' := ?_) ?_ ?_
      rotate_left
      · show Act.put _ (some 30) _ = _; simp only [Act.put, List.setIfInBounds_toArray, List.set_cons_zero, List.set_cons_succ, i64_w, i32_w]; rfl
      refine pure_ (i := 7) (N := (some 31)) (v := ?_) (a' := ?_) #[true, true, true, true, true, true, true, true] rfl rfl (by kernel_rfl) (fun _ _ _ h => h) (Or.inl ⟨by rfl, ?_⟩) ?_ ?_
      rotate_left
      · intro w'; go_simp; first | done | with_reducible rfl
      rotate_left
      · simp only [Act.put, List.setIfInBounds_toArray, List.set_cons_zero, List.set_cons_succ, i64_w, i32_w]; rfl
      refine done_ (by kernel_rfl) ?_
      clear hHeld h0 h1 t0' t1'
      by_cases hc : cmpP X Y a b < 0
      · have HCC := Lib.hid hc
        go_wp2_with fail
        refine ⟨⟨h + 1, m, by omega, by omega, by go_num, rfl, Lib.hid (fun q hq => ?_), HM, HB2⟩, by simp [intOf]; omega⟩
        by_cases e : q = h
        · rw [e, hX, hY]
          exact HCC.out
        · have h2 := good_lt HG.out (show q < h by omega) (by omega)
          have h3 := HCC.out
          rw [cmpP_iff] at h3 ⊢
          rw [hX, hY] at h2
          unfold lt2 at h2
          omega
      · have HCC : Hid (0 ≤ cmpP X Y a b) := Lib.hid (by omega)
        have hc' : ¬ cmpP X Y a b < 0 := hc
        go_wp2_with fail
        refine ⟨⟨k, h, by omega, by omega, rfl, rfl, HK, Lib.hid (fun q hq hqn => ?_), HB2⟩, by simp [intOf]; omega⟩
        by_cases e : q = h
        · rw [e, hX, hY]
          exact HCC.out
        · have h2 := good_lt HG.out (show h < q by omega) (by omega)
          have h3 := HCC.out
          rw [hX, hY] at h2
          unfold lt2 at h2
          refine Int.not_lt.1 fun h4 => ?_
          rw [cmpP_iff] at h4
          have h5 : ¬ cmpP X Y a b < 0 := by omega
          rw [cmpP_iff] at h5
          omega
    · obtain rfl : k = m := by omega
      have HBW : Hid (Below w.heap.size w wr) := Lib.hid (HB1.out.trans (HB.out.mono HB1.out.size))
      by_cases hkn : k < n
      · obtain ⟨b', off, rfl, hnc, hP0⟩ := HP.out (by omega)
        have hP := hP0.later HBW.out
        have h0 := hP.c0 k hkn
        have h1 := hP.c1 k hkn
        obtain ⟨t0, t1⟩ := HC.out
        have t0' := (HB.out.cell (p := ⟨w.heap.size, 0, none⟩) HZ.out).trans t0
        have t1' := (HB.out.cell (p := ⟨w.heap.size, 1, none⟩) HZ.out).trans t1
        have hkc : k < c := by omega
        clear hP hP0 t0 t1 hlt
        go_wp2_with fail
        obtain ⟨X, hX⟩ : ∃ X, x k = X := ⟨_, rfl⟩
        obtain ⟨Y, hY⟩ : ∃ Y, y k = Y := ⟨_, rfl⟩
        rw [hX] at h0
        rw [hY] at h1
        have HXY := Lib.hid (And.intro hX hY)
        have HZ2 := Lib.hid (show Below w.heap.size w wr from HBW.out)
        clear hX hY
        refine start_ (n := 16) (S := fun w' => w'.cell? ⟨b', off + k * 2, none⟩ = some (.int .i64 X) ∧ w'.cell? ⟨b', off + k * 2 + 1, none⟩ = some (.int .i64 Y) ∧ w'.cell? ⟨w.heap.size, 0, none⟩ = some (.int .i64 a) ∧ w'.cell? ⟨w.heap.size, 1, none⟩ = some (.int .i64 b)) (ds := [11]) #[false, false, false, false, false, false, false, false, false, false, false, false, false, false, false, false] (by kernel_rfl) rfl rfl ⟨by simpa using h0, by simpa using h1, by simpa using t0', by simpa using t1'⟩ (fun hHeld => ?_)
        refine pure_ (i := 0) (N := (some 35)) (v := ?_) (a' := ?_) #[true, false, false, false, false, false, false, false, false, false, false, false, false, false, false, false] rfl rfl (by kernel_rfl) (fun _ _ _ h => h) (Or.inl ⟨by rfl, ?_⟩) ?_ ?_
        rotate_left
        · intro w'; go_simp; first | done | with_reducible rfl
        rotate_left
        · simp only [Act.put, List.setIfInBounds_toArray, List.set_cons_zero, List.set_cons_succ, i64_w, i32_w]; rfl
        refine pure_ (i := 1) (N := (some 36)) (v := ?_) (a' := ?_) #[true, true, false, false, false, false, false, false, false, false, false, false, false, false, false, false] rfl rfl (by kernel_rfl) (fun _ _ _ h => h) (Or.inl ⟨by rfl, ?_⟩) ?_ ?_
        rotate_left
        · intro w'; go_simp; first | done | with_reducible rfl
        rotate_left
        · simp only [Act.put, List.setIfInBounds_toArray, List.set_cons_zero, List.set_cons_succ, i64_w, i32_w]; rfl
        refine pure_ (i := 2) (N := (some 37)) (v := ?_) (a' := ?_) #[true, true, true, false, false, false, false, false, false, false, false, false, false, false, false, false] rfl rfl (by kernel_rfl) (fun _ _ _ h => h) (Or.inl ⟨by rfl, ?_⟩) ?_ ?_
        rotate_left
        · intro w'; go_simp; first | done | with_reducible rfl
        rotate_left
        · simp only [Act.put, List.setIfInBounds_toArray, List.set_cons_zero, List.set_cons_succ, i64_w, i32_w]; rfl
        refine pure_ (i := 3) (N := (some 38)) (v := (.bool true)) (a' := ?_) #[true, true, true, true, false, false, false, false, false, false, false, false, false, false, false, false] rfl rfl (by kernel_rfl) (fun _ _ _ h => h) (Or.inl ⟨by rfl, ?_⟩) ?_ ?_
        · intro w'; go_simp; first | done | with_reducible rfl
        rotate_left
        · simp only [Act.put, List.setIfInBounds_toArray, List.set_cons_zero, List.set_cons_succ, i64_w, i32_w]; rfl
        refine pure_ (i := 4) (N := (some 39)) (v := ?_) (a' := ?_) #[true, true, true, true, true, false, false, false, false, false, false, false, false, false, false, false] rfl rfl (by kernel_rfl) (fun _ _ _ h => h) (Or.inl ⟨by rfl, ?_⟩) ?_ ?_
        rotate_left
        · intro w'; go_simp; first | done | with_reducible rfl
        rotate_left
        · simp only [Act.put, List.setIfInBounds_toArray, List.set_cons_zero, List.set_cons_succ, i64_w, i32_w]; rfl
        refine pure_ (i := 5) (N := (some 40)) (v := ?_) (a' := ?_) #[true, true, true, true, true, true, false, false, false, false, false, false, false, false, false, false] rfl rfl (by kernel_rfl) (fun _ _ _ h => h) (Or.inl ⟨by rfl, ?_⟩) ?_ ?_
        rotate_left
        · intro w'; go_simp; first | done | with_reducible rfl
        rotate_left
        · simp only [Act.put, List.setIfInBounds_toArray, List.set_cons_zero, List.set_cons_succ, i64_w, i32_w]; rfl
        refine pure_ (i := 6) (N := (some 41)) (v := ?_) (a' := ?_) #[true, true, true, true, true, true, true, false, false, false, false, false, false, false, false, false] rfl rfl (by kernel_rfl) (fun _ _ _ h => h) (Or.inl ⟨by rfl, ?_⟩) ?_ ?_
        rotate_left
        · intro w'; go_simp; first | done | with_reducible rfl
        rotate_left
        · simp only [Act.put, List.setIfInBounds_toArray, List.set_cons_zero, List.set_cons_succ, i64_w, i32_w]; rfl
        refine pure_ (i := 7) (N := (some 42)) (v := ?_) (a' := ?_) #[true, true, true, true, true, true, true, true, false, false, false, false, false, false, false, false] rfl rfl (by kernel_rfl) (fun _ _ _ h => h) (Or.inl ⟨by rfl, ?_⟩) ?_ ?_
        rotate_left
        · intro w'; go_simp; first | done | with_reducible rfl
        rotate_left
        · simp only [Act.put, List.setIfInBounds_toArray, List.set_cons_zero, List.set_cons_succ, i64_w, i32_w]; rfl
        refine pure_ (i := 8) (N := (some 43)) (v := ?_) (a' := ?_) #[true, true, true, true, true, true, true, true, true, false, false, false, false, false, false, false] rfl rfl (by kernel_rfl) (fun _ _ _ h => h) (Or.inl ⟨by rfl, ?_⟩) ?_ ?_
        rotate_left
        · intro w'; go_simp; first | done | with_reducible rfl
        rotate_left
        · simp only [Act.put, List.setIfInBounds_toArray, List.set_cons_zero, List.set_cons_succ, i64_w, i32_w]; rfl
        refine take_ (i := 9) (N := (some 44)) (v := ?_) (a' := ?_) #[true, true, true, true, true, true, true, true, true, true, false, false, false, false, false, false] rfl rfl (by kernel_rfl) (fun _ _ _ h => h) (Or.inl ⟨by rfl, ?_⟩) hHeld ?_ ?_
        rotate_left
        · rintro w' ⟨s0, s1, s2, s3⟩; go_simp; first | done | with_reducible rfl
        rotate_left
        · simp only [Act.put, List.setIfInBounds_toArray, List.set_cons_zero, List.set_cons_succ, i64_w, i32_w]; rfl
        refine take_ (i := 10) (N := (some 45)) (v := ?_) (a' := ?_) #[true, true, true, true, true, true, true, true, true, true, true, false, false, false, false, false] rfl rfl (by kernel_rfl) (fun _ _ _ h => h) (Or.inl ⟨by rfl, ?_⟩) hHeld ?_ ?_
        rotate_left
        · rintro w' ⟨s0, s1, s2, s3⟩; go_simp; first | done | with_reducible rfl
        rotate_left
        · simp only [Act.put, List.setIfInBounds_toArray, List.set_cons_zero, List.set_cons_succ, i64_w, i32_w]; rfl
        refine last_ (i := 11) (N := (some 46)) #[true, true, true, true, true, true, true, true, true, true, true, true, false, false, false, false] rfl rfl (by kernel_rfl) (by decide) (fun K hK => ?_)
        refine goesv_ Tryd.func67 (by kernel_rfl) rfl #[ptV X Y, ptV a b] (by rfl) rfl rfl rfl (by (try simp only [List.map_toArray, List.map_cons, List.map_nil]); first | done | rfl) ?_
        refine (compare_calls _ _ _ _ _).mono ?_
        rintro e w2 ⟨rfl, hb2⟩
        refine ⟨_, rfl, ?_⟩
        have HB2 := Lib.hid (HBW.out.drew.trans (hb2.mono HBW.out.drew.size))
        clear hb2 HBW HB
        refine hK.out _ _ ?_
        clear hK K
        refine norm_ (a' := ?_) ?_ ?_
        rotate_left
        · show Act.put _ (some 46) _ = _; simp only [Act.put, List.setIfInBounds_toArray, List.set_cons_zero, List.set_cons_succ, i64_w, i32_w]; rfl
        refine pure_ (i := 12) (N := (some 47)) (v := ?_) (a' := ?_) #[true, true, true, true, true, true, true, true, true, true, true, true, true, false, false, false] rfl rfl (by kernel_rfl) (fun _ _ _ h => h) (Or.inl ⟨by rfl, ?_⟩) ?_ ?_
        rotate_left
        · intro w'; go_simp; first | done | with_reducible rfl
        rotate_left
        · simp only [Act.put, List.setIfInBounds_toArray, List.set_cons_zero, List.set_cons_succ, i64_w, i32_w]; rfl
        refine pure_ (i := 13) (N := (some 48)) (v := ?_) (a' := ?_) #[true, true, true, true, true, true, true, true, true, true, true, true, true, true, false, false] rfl rfl (by kernel_rfl) (fun _ _ _ h => h) (Or.inl ⟨by rfl, ?_⟩) ?_ ?_
        rotate_left
        · intro w'; go_simp; first | done | with_reducible rfl
        rotate_left
        · simp only [Act.put, List.setIfInBounds_toArray, List.set_cons_zero, List.set_cons_succ, i64_w, i32_w]; rfl
        refine pure_ (i := 14) (N := (some 6)) (v := ?_) (a' := ?_) #[true, true, true, true, true, true, true, true, true, true, true, true, true, true, true, false] rfl rfl (by kernel_rfl) (fun _ _ _ h => h) (Or.inl ⟨by rfl, ?_⟩) ?_ ?_
        rotate_left
        · intro w'; go_simp; first | done | with_reducible rfl
        rotate_left
        · simp only [Act.put, List.setIfInBounds_toArray, List.set_cons_zero, List.set_cons_succ, i64_w, i32_w]; rfl
        refine pure_ (i := 15) (N := (some 7)) (v := ?_) (a' := ?_) #[true, true, true, true, true, true, true, true, true, true, true, true, true, true, true, true] rfl rfl (by kernel_rfl) (fun _ _ _ h => h) (Or.inl ⟨by rfl, ?_⟩) ?_ ?_
        rotate_left
        · intro w'; go_simp; first | done | with_reducible rfl
        rotate_left
        · simp only [Act.put, List.setIfInBounds_toArray, List.set_cons_zero, List.set_cons_succ, i64_w, i32_w]; rfl
        refine done_ (by kernel_rfl) ?_
        clear hHeld h0 h1 t0' t1'
        go_wp2
        go_ret2
        refine ⟨⟨k, congrArg (fun b : Bool => Ending.returned (.tuple #[.int .i64 k, .bool b])) ?_⟩, HB2.out⟩
        rw [Bool.eq_iff_iff, beq_iff_eq, cmpP_zero, inB_iff, ← HXY.out.1, ← HXY.out.2]
        constructor
        · rintro ⟨h1, h2⟩
          exact ⟨k, hkn, h1, h2⟩
        · rintro ⟨q, hq, rfl, rfl⟩
          by_cases e1 : q < k
          · have := HK.out q e1
            rw [cmpP_iff] at this
            omega
          · by_cases e2 : q = k
            · subst e2
              exact ⟨rfl, rfl⟩
            · have h2 := good_lt HG.out (show k < q by omega) hq
              have h3 := HM.out k (Nat.le_refl _) hkn
              have h5 : ¬ cmpP (x k) (y k) (x q) (y q) < 0 := by omega
              rw [cmpP_iff] at h5
              unfold lt2 at h2
              omega
      · have hkn2 : k = n := by omega
        have hx0 : ¬ (k : Int) < n := by omega
        go_wp2_with fail
        refine start_ (n := 16) (S := fun w' => True) (ds := []) #[false, false, false, false, false, false, false, false, false, false, false, false, false, false, false, false] (by kernel_rfl) rfl rfl trivial (fun hHeld => ?_)
        refine pure_ (i := 0) (N := (some 35)) (v := ?_) (a' := ?_) #[true, false, false, false, false, false, false, false, false, false, false, false, false, false, false, false] rfl rfl (by kernel_rfl) (fun _ _ _ h => h) (Or.inl ⟨by rfl, ?_⟩) ?_ ?_
        rotate_left
        · intro w'; go_simp; first | done | with_reducible rfl
        rotate_left
        · simp only [Act.put, List.setIfInBounds_toArray, List.set_cons_zero, List.set_cons_succ, i64_w, i32_w]; rfl
        refine pure_ (i := 1) (N := (some 36)) (v := ?_) (a' := ?_) #[true, true, false, false, false, false, false, false, false, false, false, false, false, false, false, false] rfl rfl (by kernel_rfl) (fun _ _ _ h => h) (Or.inl ⟨by rfl, ?_⟩) ?_ ?_
        rotate_left
        · intro w'; go_simp; first | done | with_reducible rfl
        rotate_left
        · simp only [Act.put, List.setIfInBounds_toArray, List.set_cons_zero, List.set_cons_succ, i64_w, i32_w]; rfl
        refine pure_ (i := 2) (N := (some 37)) (v := ?_) (a' := ?_) #[true, true, true, false, false, false, false, false, false, false, false, false, false, false, false, false] rfl rfl (by kernel_rfl) (fun _ _ _ h => h) (Or.inl ⟨by rfl, ?_⟩) ?_ ?_
        rotate_left
        · intro w'; go_simp; first | done | with_reducible rfl
        rotate_left
        · simp only [Act.put, List.setIfInBounds_toArray, List.set_cons_zero, List.set_cons_succ, i64_w, i32_w]; rfl
        refine pure_ (i := 3) (N := (some 38)) (v := (.bool false)) (a' := ?_) #[true, true, true, true, false, false, false, false, false, false, false, false, false, false, false, false] rfl rfl (by kernel_rfl) (fun _ _ _ h => h) (Or.inl ⟨by rfl, ?_⟩) ?_ ?_
        · intro w'; go_simp; first | done | with_reducible rfl
        rotate_left
        · simp only [Act.put, List.setIfInBounds_toArray, List.set_cons_zero, List.set_cons_succ, i64_w, i32_w]; rfl
        refine pure_ (i := 4) (N := (some 39)) (v := ?_) (a' := ?_) #[true, true, true, true, true, false, false, false, false, false, false, false, false, false, false, false] rfl rfl (by kernel_rfl) (fun _ _ _ h => h) (Or.inl ⟨by rfl, ?_⟩) ?_ ?_
        rotate_left
        · intro w'; go_simp; first | done | with_reducible rfl
        rotate_left
        · simp only [Act.put, List.setIfInBounds_toArray, List.set_cons_zero, List.set_cons_succ, i64_w, i32_w]; rfl
        refine off_ (i := 5) (N := (some 40)) #[true, true, true, true, true, true, false, false, false, false, false, false, false, false, false, false] rfl rfl (by kernel_rfl) (fun _ _ _ h => h) (by rfl) (by simp only [Act.put, List.setIfInBounds_toArray, List.set_cons_zero, List.set_cons_succ, i64_w, i32_w]; rfl) ?_
        refine off_ (i := 6) (N := (some 41)) #[true, true, true, true, true, true, true, false, false, false, false, false, false, false, false, false] rfl rfl (by kernel_rfl) (fun _ _ _ h => h) (by rfl) (by simp only [Act.put, List.setIfInBounds_toArray, List.set_cons_zero, List.set_cons_succ, i64_w, i32_w]; rfl) ?_
        refine off_ (i := 7) (N := (some 42)) #[true, true, true, true, true, true, true, true, false, false, false, false, false, false, false, false] rfl rfl (by kernel_rfl) (fun _ _ _ h => h) (by rfl) (by simp only [Act.put, List.setIfInBounds_toArray, List.set_cons_zero, List.set_cons_succ, i64_w, i32_w]; rfl) ?_
        refine off_ (i := 8) (N := (some 43)) #[true, true, true, true, true, true, true, true, true, false, false, false, false, false, false, false] rfl rfl (by kernel_rfl) (fun _ _ _ h => h) (by rfl) (by simp only [Act.put, List.setIfInBounds_toArray, List.set_cons_zero, List.set_cons_succ, i64_w, i32_w]; rfl) ?_
        refine off_ (i := 9) (N := (some 44)) #[true, true, true, true, true, true, true, true, true, true, false, false, false, false, false, false] rfl rfl (by kernel_rfl) (fun _ _ _ h => h) (by rfl) (by simp only [Act.put, List.setIfInBounds_toArray, List.set_cons_zero, List.set_cons_succ, i64_w, i32_w]; rfl) ?_
        refine off_ (i := 10) (N := (some 45)) #[true, true, true, true, true, true, true, true, true, true, true, false, false, false, false, false] rfl rfl (by kernel_rfl) (fun _ _ _ h => h) (by rfl) (by simp only [Act.put, List.setIfInBounds_toArray, List.set_cons_zero, List.set_cons_succ, i64_w, i32_w]; rfl) ?_
        refine off_ (i := 11) (N := (some 46)) #[true, true, true, true, true, true, true, true, true, true, true, true, false, false, false, false] rfl rfl (by kernel_rfl) (fun _ _ _ h => h) (by rfl) (by simp only [Act.put, List.setIfInBounds_toArray, List.set_cons_zero, List.set_cons_succ, i64_w, i32_w]; rfl) ?_
        refine off_ (i := 12) (N := (some 47)) #[true, true, true, true, true, true, true, true, true, true, true, true, true, false, false, false] rfl rfl (by kernel_rfl) (fun _ _ _ h => h) (by rfl) (by simp only [Act.put, List.setIfInBounds_toArray, List.set_cons_zero, List.set_cons_succ, i64_w, i32_w]; rfl) ?_
        refine pure_ (i := 13) (N := (some 48)) (v := ?_) (a' := ?_) #[true, true, true, true, true, true, true, true, true, true, true, true, true, true, false, false] rfl rfl (by kernel_rfl) (fun _ _ _ h => h) (Or.inl ⟨by rfl, ?_⟩) ?_ ?_
        rotate_left
        · intro w'; go_simp; first | done | with_reducible rfl
        rotate_left
        · simp only [Act.put, List.setIfInBounds_toArray, List.set_cons_zero, List.set_cons_succ, i64_w, i32_w]; rfl
        refine pure_ (i := 14) (N := (some 6)) (v := ?_) (a' := ?_) #[true, true, true, true, true, true, true, true, true, true, true, true, true, true, true, false] rfl rfl (by kernel_rfl) (fun _ _ _ h => h) (Or.inl ⟨by rfl, ?_⟩) ?_ ?_
        rotate_left
        · intro w'; go_simp; first | done | with_reducible rfl
        rotate_left
        · simp only [Act.put, List.setIfInBounds_toArray, List.set_cons_zero, List.set_cons_succ, i64_w, i32_w]; rfl
        refine pure_ (i := 15) (N := (some 7)) (v := ?_) (a' := ?_) #[true, true, true, true, true, true, true, true, true, true, true, true, true, true, true, true] rfl rfl (by kernel_rfl) (fun _ _ _ h => h) (Or.inl ⟨by rfl, ?_⟩) ?_ ?_
        rotate_left
        · intro w'; go_simp; first | done | with_reducible rfl
        rotate_left
        · simp only [Act.put, List.setIfInBounds_toArray, List.set_cons_zero, List.set_cons_succ, i64_w, i32_w]; rfl
        refine done_ (by kernel_rfl) ?_
        have HB2 := Lib.hid HBW.out.drew
        clear hHeld
        go_wp2
        go_ret2
        refine ⟨⟨n, congrArg (fun b : Bool => Ending.returned (.tuple #[.int .i64 n, .bool b])) ?_⟩, HB2.out⟩
        symm
        rw [Bool.eq_false_iff, Ne, inB_iff]
        rintro ⟨q, hq, rfl, rfl⟩
        have := HK.out q (by omega)
        rw [cmpP_iff] at this
        omega
end Go.Proofs.YtpfenoioeajkmaaDoor.X
end
