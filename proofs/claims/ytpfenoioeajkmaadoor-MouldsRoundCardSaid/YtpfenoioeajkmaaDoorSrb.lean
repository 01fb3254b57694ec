/- Texts of this claim, merged by a program (wip/tools/shake.py); what nothing names is left out. -/
import Derived.Shelf.Strings.BuilderK
import Derived.Test.YtpfenoioeajkmaaDoorSra
section
set_option linter.unusedVariables false
set_option linter.unusedSimpArgs false
namespace Go.Proofs.YtpfenoioeajkmaaDoor.X
open Go.RowKit Go.Proofs.YtpfenoioeajkmaaDoorW.PrintWords Go.Proofs.YtpfenoioeajkmaaDoorW.PrintLast Go.Proofs.YtpfenoioeajkmaaDoorW.PrintMore
section
variable {P : Program} {md : Region.Mode} {ops : Array Oper} {Q : Exit → Act → World → Prop} {S : World → Prop} {ds : List Nat}
theorem off_ {i : Nat} {N : Option Tmp} {oi : Oper} {fuel : Nat} {l : Array Bool} {a : Act} {w : World} (l' : Array Bool) (hi : ops[i]? = some oi) (hN : oi.dst = N) (hc : anyB md ops l l' i = true)
    (hQ : ∀ c a w, Q (.panic c) (a.put oi.dst undef) w → Q (.panic c) a w) (hw : Region.wanted oi (yielded ops a.tmps) = false) {a' : Act} (ha : a.put N undef = a')
    (h : wpAnyLast P md ops Q S ds fuel l' a' w) : wpAnyLast P md ops Q S ds (fuel + 1) l a w := pure_ l' hi hN hc hQ (Or.inr ⟨hw, rfl⟩) ha h
end
structure Pts (w : World) (b off n : Nat) (x y : Nat → Int) : Prop where
  c0 : ∀ i : Nat, i < n → w.cell? ⟨b, off + i * 2, none⟩ = some (.int .i64 (x i))
  c1 : ∀ i : Nat, i < n → w.cell? ⟨b, off + i * 2 + 1, none⟩ = some (.int .i64 (y i))
theorem Pts.later {w w' : World} {b off n : Nat} {x y : Nat → Int} (h : Pts w b off n x y) (hb : Below w.heap.size w w') : Pts w' b off n x y :=
  ⟨fun i hi => (hb.cell (p := ⟨b, off + i * 2, none⟩) (World.block_lt_of_cell? w _ (h.c0 i hi))).trans (h.c0 i hi), fun i hi => (hb.cell (p := ⟨b, off + i * 2 + 1, none⟩) (World.block_lt_of_cell? w _ (h.c1 i hi))).trans (h.c1 i hi)⟩
theorem Pts.less {w : World} {b off n m : Nat} {x y : Nat → Int} (h : Pts w b off n x y) (hm : m ≤ n) : Pts w b off m x y := ⟨fun i hi => h.c0 i (by omega), fun i hi => h.c1 i (by omega)⟩
def flat (x y : Nat → Int) : Nat → List Value
  | 0 => []
  | k + 1 => flat x y k ++ [.int .i64 (x k), .int .i64 (y k)]
theorem flat_length (x y : Nat → Int) : ∀ k, (flat x y k).length = k * 2
  | 0 => rfl
  | k + 1 => by rw [flat, List.length_append, flat_length x y k]; simp; omega
theorem flat_get (x y : Nat → Int) : ∀ k i, i < k → (flat x y k)[i * 2]? = some (.int .i64 (x i)) ∧ (flat x y k)[i * 2 + 1]? = some (.int .i64 (y i))
  | 0, i, h => by omega
  | k + 1, i, h => by
    have hl := flat_length x y k
    rw [flat]
    by_cases e : i = k
    · subst e
      rw [List.getElem?_append_right (by omega), List.getElem?_append_right (by omega), hl]
      simp
    · rw [List.getElem?_append_left (by omega), List.getElem?_append_left (by omega)]
      exact flat_get x y k i (by omega)
theorem own_pts {w : World} {base e n : Nat} {v : Value} {x y : Nat → Int} (h : w.ownsRow base e 2 v n (flat x y n)) :
    (v = .slice none 0 0 ∧ n = 0) ∨ ∃ g cap, v = .slice (some ⟨g, 0, none⟩) n cap ∧ base ≤ g ∧ g < w.heap.size ∧ n ≤ cap ∧ Pts w g 0 n x y := by
  obtain ⟨_, h | ⟨g, cap, cur, rfl, hg, hb, hn, _, hs, ht⟩⟩ := h
  · exact .inl h
  · refine .inr ⟨g, cap, rfl, hg, (Array.getElem?_eq_some_iff.1 hb).1, hn, ?_⟩
    have key : ∀ j u, (flat x y n)[j]? = some u → j < n * 2 → w.cell? ⟨g, 0 + j, none⟩ = some u := fun j u hu hj => by
      rw [← ht, List.getElem?_take, if_pos hj] at hu
      have hu' : cur[j]? = some u := by simpa using hu
      rw [Nat.zero_add]
      unfold World.cell?
      simp only [hb]
      simpa using hu'
    exact ⟨fun i hi => key _ _ (flat_get x y n i hi).1 (by omega), fun i hi => by rw [Nat.add_assoc]; exact key _ _ (flat_get x y n i hi).2 (by omega)⟩
theorem info63 : (Tryd.prog.info? 63).map (fun i => (i.zero, i.size, i.bytes)) = some (some (.agg #[.int .i64 0, .int .i64 0]), 2, 16) := by kernel_rfl
theorem two_new (w : World) (t : TypeId) (u v : Value) : ∀ (j : Nat) z, ([u, v] : List Value)[j]? = some z → (w.alloc (.cells #[u, v] t)).cell? ((⟨w.heap.size, 0, none⟩ : Addr).add j) = some z := fun j z hz => by
  have hj : j = 0 ∨ j = 1 := by
    have := (List.getElem?_eq_some_iff.1 hz).1
    simp at this
    omega
  rcases hj with rfl | rfl
  · simp at hz
    simp [Addr.add, hz]
  · simp at hz
    simp [Addr.add, hz]
theorem own_grow {B : Nat} {u w w1 : World} {e n : Nat} {v : Value} {xs : List Value} (hb : Below B u w) (hs : w.ownsRow u.heap.size e 2 v n xs) (hg : w.grownBy w1 v.ownBlock) (hB : B = u.heap.size := by rfl) : Below B u w1 := by
  subst hB
  refine hb.grown hg hb.size fun k hk => ?_
  obtain ⟨_, ⟨h, _⟩ | ⟨g, cap, cur, h, h2, _⟩⟩ := hs
  · rw [h] at hk
    simp [Value.ownBlock] at hk
  · rw [h] at hk
    simp [Value.ownBlock] at hk
    omega
def goodTo (x y : Nat → Int) : Nat → Bool
  | 0 => true
  | k + 1 => goodTo x y k && (decide (-100 ≤ x k ∧ x k ≤ 100 ∧ -100 ≤ y k ∧ y k ≤ 100) && (k == 0 || decide (cmpP (x (k - 1)) (y (k - 1)) (x k) (y k) < 0)))
theorem goodTo_less {x y : Nat → Int} : ∀ d k, goodTo x y (k + d) = true → goodTo x y k = true
  | 0, k, h => h
  | d + 1, k, h => by
    rw [← Nat.add_assoc, goodTo, Bool.and_eq_true] at h
    exact goodTo_less d k h.1
theorem goodTo_at {x y : Nat → Int} {n k : Nat} (h : goodTo x y n = true) (hk : k < n) : (-100 ≤ x k ∧ x k ≤ 100 ∧ -100 ≤ y k ∧ y k ≤ 100) ∧ (k = 0 ∨ cmpP (x (k - 1)) (y (k - 1)) (x k) (y k) < 0) := by
  have h1 := goodTo_less (n - (k + 1)) (k + 1) (x := x) (y := y) (by rw [show k + 1 + (n - (k + 1)) = n by omega]; exact h)
  rw [goodTo, Bool.and_eq_true, Bool.and_eq_true, Bool.or_eq_true, decide_eq_true_eq, decide_eq_true_eq, beq_iff_eq] at h1
  exact h1.2
theorem goodTo_next {x y : Nat → Int} {k : Nat} (h : goodTo x y k = true) (hk : (-100 ≤ x k ∧ x k ≤ 100 ∧ -100 ≤ y k ∧ y k ≤ 100) ∧ (k = 0 ∨ cmpP (x (k - 1)) (y (k - 1)) (x k) (y k) < 0)) : goodTo x y (k + 1) = true := by
  rw [goodTo, Bool.and_eq_true, Bool.and_eq_true, Bool.or_eq_true, decide_eq_true_eq, decide_eq_true_eq, beq_iff_eq]
  exact ⟨h, hk⟩
theorem goodTo_bad {x y : Nat → Int} {n k : Nat} (hk : k < n) (h : ¬ ((-100 ≤ x k ∧ x k ≤ 100 ∧ -100 ≤ y k ∧ y k ≤ 100) ∧ (k = 0 ∨ cmpP (x (k - 1)) (y (k - 1)) (x k) (y k) < 0))) : goodTo x y n = false := by
  rw [Bool.eq_false_iff]
  exact fun q => h (goodTo_at q hk)
set_option maxHeartbeats 16000000 in
set_option maxRecDepth 100000 in
theorem read_any (A : Option Addr) (n c : Nat) (x y : Nat → Int) (w : World) (hA : 0 < n → ∃ b off, A = some ⟨b, off, none⟩ ∧ Pts w b off n x y) (hn : 1 ≤ n ∧ n ≤ 30) :
    Calls Tryd.prog 62 #[.slice A n c] w fun e w' => ((goodTo x y n = true ∧ ∃ v, e = .returned (.tuple #[v, .bool true]) ∧ w'.ownsRow w.heap.size 63 2 v n (flat x y n)) ∨ (goodTo x y n = false ∧ e = .returned (.tuple #[.slice none 0 0, .bool false]))) ∧ Below w.heap.size w w' := by
  obtain ⟨b, off, rfl, hP⟩ := hA (by omega)
  have HP := Lib.hid hP
  clear hA hP
  have hn1 : ¬ (n : Int) < 1 := by omega
  have hn2 : ¬ (n : Int) > 30 := by omega
  go_enter Tryd.func62, Tryd.ntmps62
  go_wp2_with fail
  have HB := Lib.hid (Below.refl w.heap.size w)
  have HO := Lib.hid (World.ownsRow_nil w w.heap.size 63 2)
  go_loopw [17, 4] (fun i v wr => ∃ k : Nat, k ≤ n ∧ i = .int .i64 k ∧ Hid (goodTo x y k = true) ∧ Hid (wr.ownsRow w.heap.size 63 2 v k (flat x y k)) ∧ Hid (Below w.heap.size w wr)) (fun i _ _ => n - (intOf i).toNat)
  case atStart => exact ⟨0, by omega, rfl, Lib.hid rfl, HO, HB⟩
  case round =>
    clear HO HB
    obtain ⟨k, hk, rfl, HG, HO, HB⟩ := hrel
    by_cases hlt : k < n
    · have hP := HP.out.later HB.out
      have h0 := hP.c0 k hlt
      have h1 := hP.c1 k hlt
      go_wp2_with fail
      have hP := HP.out.later HB.out
      obtain ⟨wa, hwa⟩ : ∃ wa, wa = wr.alloc (.cells #[.int .i64 (x k), .int .i64 (y k)] 29) := ⟨_, rfl⟩
      have q0 : wa.cell? ⟨wr.heap.size, 0, none⟩ = some (.int .i64 (x k)) := by rw [hwa]; simp
      have q1 : wa.cell? ⟨wr.heap.size, 1, none⟩ = some (.int .i64 (y k)) := by rw [hwa]; simp
      have hba : Below wr.heap.size wr wa := by rw [hwa]; exact below_one _
      have HBA := Lib.hid (HB.out.trans (hba.mono HB.out.size))
      have HOA := Lib.hid (pw_own_below HO.out hba)
      have HPA := Lib.hid (hP.later hba)
      rw [← hwa]
      clear hwa hba hP
      generalize wr.heap.size = G at q0 q1 ⊢
      by_cases hgk : (-100 ≤ x k ∧ x k ≤ 100 ∧ -100 ≤ y k ∧ y k ≤ 100) ∧ (k = 0 ∨ cmpP (x (k - 1)) (y (k - 1)) (x k) (y k) < 0)
      · have HGK := Lib.hid hgk
        obtain ⟨hx, hxy⟩ := hgk
        have e1 : max (x k) (y k) ≤ 100 := by omega
        have e2 : -100 ≤ min (x k) (y k) := by omega
        rcases Nat.eq_zero_or_pos k with hk0 | hk0
        · subst hk0
          refine start_ (n := 28) (S := fun w' => w'.cell? ⟨G, 0, none⟩ = some (.int .i64 (x 0)) ∧ w'.cell? ⟨G, 1, none⟩ = some (.int .i64 (y 0))) (ds := []) #[false, false, false, false, false, false, false, false, false, false, false, false, false, false, false, false, false, false, false, false, false, false, false, false, false, false, false, false] (by kernel_rfl) rfl rfl ⟨by simpa using q0, by simpa using q1⟩ (fun hHeld => ?_)
          refine pure_ (i := 0) (N := (some 22)) (v := ?_) (a' := ?_) #[true, false, false, false, false, false, false, false, false, false, false, false, false, false, false, false, false, false, false, false, false, false, false, false, false, false, false, false] rfl rfl (by kernel_rfl) (fun _ _ _ h => h) (Or.inl ⟨by rfl, ?_⟩) ?_ ?_
          rotate_left
          · intro w'; go_simp; first | done | with_reducible rfl
          rotate_left
          · simp only [Act.put, List.setIfInBounds_toArray, List.set_cons_zero, List.set_cons_succ, i64_w, i32_w]; rfl
          refine take_ (i := 1) (N := (some 23)) (v := ?_) (a' := ?_) #[true, true, false, false, false, false, false, false, false, false, false, false, false, false, false, false, false, false, false, false, false, false, false, false, false, false, false, false] rfl rfl (by kernel_rfl) (fun _ _ _ h => h) (Or.inl ⟨by rfl, ?_⟩) hHeld ?_ ?_
          rotate_left
          · rintro w' ⟨s0, s1⟩; go_simp; first | done | with_reducible rfl
          rotate_left
          · simp only [Act.put, List.setIfInBounds_toArray, List.set_cons_zero, List.set_cons_succ, i64_w, i32_w]; rfl
          refine pure_ (i := 2) (N := (some 24)) (v := ?_) (a' := ?_) #[true, true, true, false, false, false, false, false, false, false, false, false, false, false, false, false, false, false, false, false, false, false, false, false, false, false, false, false] rfl rfl (by kernel_rfl) (fun _ _ _ h => h) (Or.inl ⟨by rfl, ?_⟩) ?_ ?_
          rotate_left
          · intro w'; go_simp; first | done | with_reducible rfl
          rotate_left
          · simp only [Act.put, List.setIfInBounds_toArray, List.set_cons_zero, List.set_cons_succ, i64_w, i32_w]; rfl
          refine take_ (i := 3) (N := (some 25)) (v := ?_) (a' := ?_) #[true, true, true, true, false, false, false, false, false, false, false, false, false, false, false, false, false, false, false, false, false, false, false, false, false, false, false, false] rfl rfl (by kernel_rfl) (fun _ _ _ h => h) (Or.inl ⟨by rfl, ?_⟩) hHeld ?_ ?_
          rotate_left
          · rintro w' ⟨s0, s1⟩; go_simp; first | done | with_reducible rfl
          rotate_left
          · simp only [Act.put, List.setIfInBounds_toArray, List.set_cons_zero, List.set_cons_succ, i64_w, i32_w]; rfl
          refine pure_ (i := 4) (N := (some 26)) (v := ?_) (a' := ?_) #[true, true, true, true, true, false, false, false, false, false, false, false, false, false, false, false, false, false, false, false, false, false, false, false, false, false, false, false] rfl rfl (by kernel_rfl) (fun _ _ _ h => h) (Or.inl ⟨by rfl, ?_⟩) ?_ ?_
          rotate_left
          · intro w'; go_simp; first | done | with_reducible rfl
          rotate_left
          · simp only [Act.put, List.setIfInBounds_toArray, List.set_cons_zero, List.set_cons_succ, i64_w, i32_w]; rfl
          refine pure_ (i := 5) (N := (some 27)) (v := (.bool false)) (a' := ?_) #[true, true, true, true, true, true, false, false, false, false, false, false, false, false, false, false, false, false, false, false, false, false, false, false, false, false, false, false] rfl rfl (by kernel_rfl) (fun _ _ _ h => h) (Or.inl ⟨by rfl, ?_⟩) ?_ ?_
          · intro w'; go_simp; first | done | with_reducible rfl
          rotate_left
          · simp only [Act.put, List.setIfInBounds_toArray, List.set_cons_zero, List.set_cons_succ, i64_w, i32_w]; rfl
          refine pure_ (i := 6) (N := (some 28)) (v := ?_) (a' := ?_) #[true, true, true, true, true, true, true, false, false, false, false, false, false, false, false, false, false, false, false, false, false, false, false, false, false, false, false, false] rfl rfl (by kernel_rfl) (fun _ _ _ h => h) (Or.inl ⟨by rfl, ?_⟩) ?_ ?_
          rotate_left
          · intro w'; go_simp; first | done | with_reducible rfl
          rotate_left
          · simp only [Act.put, List.setIfInBounds_toArray, List.set_cons_zero, List.set_cons_succ, i64_w, i32_w]; rfl
          refine pure_ (i := 7) (N := (some 29)) (v := ?_) (a' := ?_) #[true, true, true, true, true, true, true, true, false, false, false, false, false, false, false, false, false, false, false, false, false, false, false, false, false, false, false, false] rfl rfl (by kernel_rfl) (fun _ _ _ h => h) (Or.inl ⟨by rfl, ?_⟩) ?_ ?_
          rotate_left
          · intro w'; go_simp; first | done | with_reducible rfl
          rotate_left
          · simp only [Act.put, List.setIfInBounds_toArray, List.set_cons_zero, List.set_cons_succ, i64_w, i32_w]; rfl
          refine take_ (i := 8) (N := (some 30)) (v := ?_) (a' := ?_) #[true, true, true, true, true, true, true, true, true, false, false, false, false, false, false, false, false, false, false, false, false, false, false, false, false, false, false, false] rfl rfl (by kernel_rfl) (fun _ _ _ h => h) (Or.inl ⟨by rfl, ?_⟩) hHeld ?_ ?_
          rotate_left
          · rintro w' ⟨s0, s1⟩; go_simp; first | done | with_reducible rfl
          rotate_left
          · simp only [Act.put, List.setIfInBounds_toArray, List.set_cons_zero, List.set_cons_succ, i64_w, i32_w]; rfl
          refine pure_ (i := 9) (N := (some 31)) (v := ?_) (a' := ?_) #[true, true, true, true, true, true, true, true, true, true, false, false, false, false, false, false, false, false, false, false, false, false, false, false, false, false, false, false] rfl rfl (by kernel_rfl) (fun _ _ _ h => h) (Or.inl ⟨by rfl, ?_⟩) ?_ ?_
          rotate_left
          · intro w'; go_simp; first | done | with_reducible rfl
          rotate_left
          · simp only [Act.put, List.setIfInBounds_toArray, List.set_cons_zero, List.set_cons_succ, i64_w, i32_w]; rfl
          refine take_ (i := 10) (N := (some 32)) (v := ?_) (a' := ?_) #[true, true, true, true, true, true, true, true, true, true, true, false, false, false, false, false, false, false, false, false, false, false, false, false, false, false, false, false] rfl rfl (by kernel_rfl) (fun _ _ _ h => h) (Or.inl ⟨by rfl, ?_⟩) hHeld ?_ ?_
          rotate_left
          · rintro w' ⟨s0, s1⟩; go_simp; first | done | with_reducible rfl
          rotate_left
          · simp only [Act.put, List.setIfInBounds_toArray, List.set_cons_zero, List.set_cons_succ, i64_w, i32_w]; rfl
          refine pure_ (i := 11) (N := (some 33)) (v := ?_) (a' := ?_) #[true, true, true, true, true, true, true, true, true, true, true, true, false, false, false, false, false, false, false, false, false, false, false, false, false, false, false, false] rfl rfl (by kernel_rfl) (fun _ _ _ h => h) (Or.inl ⟨by rfl, ?_⟩) ?_ ?_
          rotate_left
          · intro w'; go_simp; first | done | with_reducible rfl
          rotate_left
          · simp only [Act.put, List.setIfInBounds_toArray, List.set_cons_zero, List.set_cons_succ, i64_w, i32_w]; rfl
          refine pure_ (i := 12) (N := (some 34)) (v := (.bool false)) (a' := ?_) #[true, true, true, true, true, true, true, true, true, true, true, true, true, false, false, false, false, false, false, false, false, false, false, false, false, false, false, false] rfl rfl (by kernel_rfl) (fun _ _ _ h => h) (Or.inl ⟨by rfl, ?_⟩) ?_ ?_
          · intro w'; go_simp; first | done | with_reducible rfl
          rotate_left
          · simp only [Act.put, List.setIfInBounds_toArray, List.set_cons_zero, List.set_cons_succ, i64_w, i32_w]; rfl
          refine pure_ (i := 13) (N := (some 35)) (v := ?_) (a' := ?_) #[true, true, true, true, true, true, true, true, true, true, true, true, true, true, false, false, false, false, false, false, false, false, false, false, false, false, false, false] rfl rfl (by kernel_rfl) (fun _ _ _ h => h) (Or.inl ⟨by rfl, ?_⟩) ?_ ?_
          rotate_left
          · intro w'; go_simp; first | done | with_reducible rfl
          rotate_left
          · simp only [Act.put, List.setIfInBounds_toArray, List.set_cons_zero, List.set_cons_succ, i64_w, i32_w]; rfl
          refine pure_ (i := 14) (N := (some 36)) (v := ?_) (a' := ?_) #[true, true, true, true, true, true, true, true, true, true, true, true, true, true, true, false, false, false, false, false, false, false, false, false, false, false, false, false] rfl rfl (by kernel_rfl) (fun _ _ _ h => h) (Or.inl ⟨by rfl, ?_⟩) ?_ ?_
          rotate_left
          · intro w'; go_simp; first | done | with_reducible rfl
          rotate_left
          · simp only [Act.put, List.setIfInBounds_toArray, List.set_cons_zero, List.set_cons_succ, i64_w, i32_w]; rfl
          refine pure_ (i := 15) (N := (some 37)) (v := ?_) (a' := ?_) #[true, true, true, true, true, true, true, true, true, true, true, true, true, true, true, true, false, false, false, false, false, false, false, false, false, false, false, false] rfl rfl (by kernel_rfl) (fun _ _ _ h => h) (Or.inl ⟨by rfl, ?_⟩) ?_ ?_
          rotate_left
          · intro w'; go_simp; first | done | with_reducible rfl
          rotate_left
          · simp only [Act.put, List.setIfInBounds_toArray, List.set_cons_zero, List.set_cons_succ, i64_w, i32_w]; rfl
          refine pure_ (i := 16) (N := (some 38)) (v := ?_) (a' := ?_) #[true, true, true, true, true, true, true, true, true, true, true, true, true, true, true, true, true, false, false, false, false, false, false, false, false, false, false, false] rfl rfl (by kernel_rfl) (fun _ _ _ h => h) (Or.inl ⟨by rfl, ?_⟩) ?_ ?_
          rotate_left
          · intro w'; go_simp; first | done | with_reducible rfl
          rotate_left
          · simp only [Act.put, List.setIfInBounds_toArray, List.set_cons_zero, List.set_cons_succ, i64_w, i32_w]; rfl
          refine pure_ (i := 17) (N := (some 39)) (v := ?_) (a' := ?_) #[true, true, true, true, true, true, true, true, true, true, true, true, true, true, true, true, true, true, false, false, false, false, false, false, false, false, false, false] rfl rfl (by kernel_rfl) (fun _ _ _ h => h) (Or.inl ⟨by rfl, ?_⟩) ?_ ?_
          rotate_left
          · intro w'; go_simp; first | done | with_reducible rfl
          rotate_left
          · simp only [Act.put, List.setIfInBounds_toArray, List.set_cons_zero, List.set_cons_succ, i64_w, i32_w]; rfl
          refine off_ (i := 18) (N := (some 40)) #[true, true, true, true, true, true, true, true, true, true, true, true, true, true, true, true, true, true, true, false, false, false, false, false, false, false, false, false] rfl rfl (by kernel_rfl) (fun _ _ _ h => h) (by rfl) (by simp only [Act.put, List.setIfInBounds_toArray, List.set_cons_zero, List.set_cons_succ, i64_w, i32_w]; rfl) ?_
          refine off_ (i := 19) (N := (some 41)) #[true, true, true, true, true, true, true, true, true, true, true, true, true, true, true, true, true, true, true, true, false, false, false, false, false, false, false, false] rfl rfl (by kernel_rfl) (fun _ _ _ h => h) (by rfl) (by simp only [Act.put, List.setIfInBounds_toArray, List.set_cons_zero, List.set_cons_succ, i64_w, i32_w]; rfl) ?_
          refine off_ (i := 20) (N := (some 42)) #[true, true, true, true, true, true, true, true, true, true, true, true, true, true, true, true, true, true, true, true, true, false, false, false, false, false, false, false] rfl rfl (by kernel_rfl) (fun _ _ _ h => h) (by rfl) (by simp only [Act.put, List.setIfInBounds_toArray, List.set_cons_zero, List.set_cons_succ, i64_w, i32_w]; rfl) ?_
          refine off_ (i := 21) (N := (some 43)) #[true, true, true, true, true, true, true, true, true, true, true, true, true, true, true, true, true, true, true, true, true, true, false, false, false, false, false, false] rfl rfl (by kernel_rfl) (fun _ _ _ h => h) (by rfl) (by simp only [Act.put, List.setIfInBounds_toArray, List.set_cons_zero, List.set_cons_succ, i64_w, i32_w]; rfl) ?_
          refine off_ (i := 22) (N := (some 44)) #[true, true, true, true, true, true, true, true, true, true, true, true, true, true, true, true, true, true, true, true, true, true, true, false, false, false, false, false] rfl rfl (by kernel_rfl) (fun _ _ _ h => h) (by rfl) (by simp only [Act.put, List.setIfInBounds_toArray, List.set_cons_zero, List.set_cons_succ, i64_w, i32_w]; rfl) ?_
          refine off_ (i := 23) (N := (some 45)) #[true, true, true, true, true, true, true, true, true, true, true, true, true, true, true, true, true, true, true, true, true, true, true, true, false, false, false, false] rfl rfl (by kernel_rfl) (fun _ _ _ h => h) (by rfl) (by simp only [Act.put, List.setIfInBounds_toArray, List.set_cons_zero, List.set_cons_succ, i64_w, i32_w]; rfl) ?_
          refine off_ (i := 24) (N := (some 46)) #[true, true, true, true, true, true, true, true, true, true, true, true, true, true, true, true, true, true, true, true, true, true, true, true, true, false, false, false] rfl rfl (by kernel_rfl) (fun _ _ _ h => h) (by rfl) (by simp only [Act.put, List.setIfInBounds_toArray, List.set_cons_zero, List.set_cons_succ, i64_w, i32_w]; rfl) ?_
          refine off_ (i := 25) (N := (some 47)) #[true, true, true, true, true, true, true, true, true, true, true, true, true, true, true, true, true, true, true, true, true, true, true, true, true, true, false, false] rfl rfl (by kernel_rfl) (fun _ _ _ h => h) (by rfl) (by simp only [Act.put, List.setIfInBounds_toArray, List.set_cons_zero, List.set_cons_succ, i64_w, i32_w]; rfl) ?_
          refine pure_ (i := 26) (N := (some 48)) (v := ?_) (a' := ?_) #[true, true, true, true, true, true, true, true, true, true, true, true, true, true, true, true, true, true, true, true, true, true, true, true, true, true, true, false] rfl rfl (by kernel_rfl) (fun _ _ _ h => h) (Or.inl ⟨by rfl, ?_⟩) ?_ ?_
          rotate_left
          · intro w'; go_simp; first | done | with_reducible rfl
          rotate_left
          · simp only [Act.put, List.setIfInBounds_toArray, List.set_cons_zero, List.set_cons_succ, i64_w, i32_w]; rfl
          refine pure_ (i := 27) (N := (some 49)) (v := ?_) (a' := ?_) #[true, true, true, true, true, true, true, true, true, true, true, true, true, true, true, true, true, true, true, true, true, true, true, true, true, true, true, true] rfl rfl (by kernel_rfl) (fun _ _ _ h => h) (Or.inl ⟨by rfl, ?_⟩) ?_ ?_
          rotate_left
          · intro w'; go_simp; first | done | with_reducible rfl
          rotate_left
          · simp only [Act.put, List.setIfInBounds_toArray, List.set_cons_zero, List.set_cons_succ, i64_w, i32_w]; rfl
          refine done_ (by kernel_rfl) ?_
          have q0' : wa.drew.cell? ⟨G, 0, none⟩ = some (.int .i64 (x 0)) := by simpa using q0
          have q1' : wa.drew.cell? ⟨G, 1, none⟩ = some (.int .i64 (y 0)) := by simpa using q1
          have HBD := Lib.hid HBA.out.drew
          have HOD := Lib.hid (pw_own_below HOA.out (Below.refl _ wa).drew)
          clear q0 q1 HBA HOA h0 h1 e1 e2 hHeld
          generalize wa.drew = wd at q0' q1' HBD HOD ⊢
          obtain ⟨i0, hi0, hz0, hz1, hz2⟩ := info_parts info63
          have HBD2 := Lib.hid (HBD.out.trans ((below_one (w := wd) (.cells #[.int .i64 (x 0), .int .i64 (y 0)] 63)).mono HBD.out.size))
          have HOE := Lib.hid (pw_own_below HOD.out (below_one (w := wd) (.cells #[.int .i64 (x 0), .int .i64 (y 0)] 63)))
          have HI := Lib.hid hi0
          have HZ := Lib.hid (And.intro hz0 (And.intro hz1 hz2))
          clear hi0 hz0 hz1 hz2
          go_wp2_with (first | (at_builtin; go_loud (refine wpList_append_own_at _ rfl (.tmp 50) (.tmp 52) 67 rfl w.heap.size 63 i0 _ 2 16 Tryd.underlying67 HI.out HZ.out.1 HZ.out.2.1 HZ.out.2.2 rfl (by decide) u4 0 (flat x y 0) rfl HOE.out ⟨wd.heap.size, 0, none⟩ 1 1 [.int .i64 (x 0), .int .i64 (y 0)] rfl rfl (two_new _ _ _ _) (by simp [Value.oneCell']) (by decide) (by decide) HBD2.out.size ?_); intro v1 w1 hown1 hgrow1 _ _; have HOF := Lib.hid hown1; have HBF := Lib.hid (own_grow HBD2.out HOE.out hgrow1); clear hown1 hgrow1) | go_in)
          refine ⟨⟨0 + 1, by omega, by go_num, Lib.hid (goodTo_next HG.out HGK.out), HOF, HBF⟩, by simp [intOf]; omega⟩
        · obtain ⟨m, rfl⟩ : ∃ m, k = m + 1 := ⟨k - 1, by omega⟩
          have hpm := HPA.out
          have q2 := hpm.c0 m (by omega)
          have q3 := hpm.c1 m (by omega)
          have hmn : m < n := by omega
          have e3 : cmpP (x m) (y m) (x (m + 1)) (y (m + 1)) < 0 := by
            rcases hxy with h | h
            · omega
            · simpa using h
          have hwm : wrap64 (m : Int) = m := by unfold wrap64; omega
          clear hpm hxy
          refine start_ (n := 28) (S := fun w' => w'.cell? ⟨G, 0, none⟩ = some (.int .i64 (x (m + 1))) ∧ w'.cell? ⟨G, 1, none⟩ = some (.int .i64 (y (m + 1))) ∧ w'.cell? ⟨b, off + m * 2, none⟩ = some (.int .i64 (x m)) ∧ w'.cell? ⟨b, off + m * 2 + 1, none⟩ = some (.int .i64 (y m))) (ds := []) #[false, false, false, false, false, false, false, false, false, false, false, false, false, false, false, false, false, false, false, false, false, false, false, false, false, false, false, false] (by kernel_rfl) rfl rfl ⟨by simpa using q0, by simpa using q1, by simpa using q2, by simpa using q3⟩ (fun hHeld => ?_)
          refine pure_ (i := 0) (N := (some 22)) (v := ?_) (a' := ?_) #[true, false, false, false, false, false, false, false, false, false, false, false, false, false, false, false, false, false, false, false, false, false, false, false, false, false, false, false] rfl rfl (by kernel_rfl) (fun _ _ _ h => h) (Or.inl ⟨by rfl, ?_⟩) ?_ ?_
          rotate_left
          · intro w'; go_simp; first | done | with_reducible rfl
          rotate_left
          · simp only [Act.put, List.setIfInBounds_toArray, List.set_cons_zero, List.set_cons_succ, i64_w, i32_w]; rfl
          refine take_ (i := 1) (N := (some 23)) (v := ?_) (a' := ?_) #[true, true, false, false, false, false, false, false, false, false, false, false, false, false, false, false, false, false, false, false, false, false, false, false, false, false, false, false] rfl rfl (by kernel_rfl) (fun _ _ _ h => h) (Or.inl ⟨by rfl, ?_⟩) hHeld ?_ ?_
          rotate_left
          · rintro w' ⟨s0, s1, s2, s3⟩; go_simp; first | done | with_reducible rfl
          rotate_left
          · simp only [Act.put, List.setIfInBounds_toArray, List.set_cons_zero, List.set_cons_succ, i64_w, i32_w]; rfl
          refine pure_ (i := 2) (N := (some 24)) (v := ?_) (a' := ?_) #[true, true, true, false, false, false, false, false, false, false, false, false, false, false, false, false, false, false, false, false, false, false, false, false, false, false, false, false] rfl rfl (by kernel_rfl) (fun _ _ _ h => h) (Or.inl ⟨by rfl, ?_⟩) ?_ ?_
          rotate_left
          · intro w'; go_simp; first | done | with_reducible rfl
          rotate_left
          · simp only [Act.put, List.setIfInBounds_toArray, List.set_cons_zero, List.set_cons_succ, i64_w, i32_w]; rfl
          refine take_ (i := 3) (N := (some 25)) (v := ?_) (a' := ?_) #[true, true, true, true, false, false, false, false, false, false, false, false, false, false, false, false, false, false, false, false, false, false, false, false, false, false, false, false] rfl rfl (by kernel_rfl) (fun _ _ _ h => h) (Or.inl ⟨by rfl, ?_⟩) hHeld ?_ ?_
          rotate_left
          · rintro w' ⟨s0, s1, s2, s3⟩; go_simp; first | done | with_reducible rfl
          rotate_left
          · simp only [Act.put, List.setIfInBounds_toArray, List.set_cons_zero, List.set_cons_succ, i64_w, i32_w]; rfl
          refine pure_ (i := 4) (N := (some 26)) (v := ?_) (a' := ?_) #[true, true, true, true, true, false, false, false, false, false, false, false, false, false, false, false, false, false, false, false, false, false, false, false, false, false, false, false] rfl rfl (by kernel_rfl) (fun _ _ _ h => h) (Or.inl ⟨by rfl, ?_⟩) ?_ ?_
          rotate_left
          · intro w'; go_simp; first | done | with_reducible rfl
          rotate_left
          · simp only [Act.put, List.setIfInBounds_toArray, List.set_cons_zero, List.set_cons_succ, i64_w, i32_w]; rfl
          refine pure_ (i := 5) (N := (some 27)) (v := (.bool false)) (a' := ?_) #[true, true, true, true, true, true, false, false, false, false, false, false, false, false, false, false, false, false, false, false, false, false, false, false, false, false, false, false] rfl rfl (by kernel_rfl) (fun _ _ _ h => h) (Or.inl ⟨by rfl, ?_⟩) ?_ ?_
          · intro w'; go_simp; first | done | with_reducible rfl
          rotate_left
          · simp only [Act.put, List.setIfInBounds_toArray, List.set_cons_zero, List.set_cons_succ, i64_w, i32_w]; rfl
          refine pure_ (i := 6) (N := (some 28)) (v := ?_) (a' := ?_) #[true, true, true, true, true, true, true, false, false, false, false, false, false, false, false, false, false, false, false, false, false, false, false, false, false, false, false, false] rfl rfl (by kernel_rfl) (fun _ _ _ h => h) (Or.inl ⟨by rfl, ?_⟩) ?_ ?_
          rotate_left
          · intro w'; go_simp; first | done | with_reducible rfl
          rotate_left
          · simp only [Act.put, List.setIfInBounds_toArray, List.set_cons_zero, List.set_cons_succ, i64_w, i32_w]; rfl
          refine pure_ (i := 7) (N := (some 29)) (v := ?_) (a' := ?_) #[true, true, true, true, true, true, true, true, false, false, false, false, false, false, false, false, false, false, false, false, false, false, false, false, false, false, false, false] rfl rfl (by kernel_rfl) (fun _ _ _ h => h) (Or.inl ⟨by rfl, ?_⟩) ?_ ?_
          rotate_left
          · intro w'; go_simp; first | done | with_reducible rfl
          rotate_left
          · simp only [Act.put, List.setIfInBounds_toArray, List.set_cons_zero, List.set_cons_succ, i64_w, i32_w]; rfl
          refine take_ (i := 8) (N := (some 30)) (v := ?_) (a' := ?_) #[true, true, true, true, true, true, true, true, true, false, false, false, false, false, false, false, false, false, false, false, false, false, false, false, false, false, false, false] rfl rfl (by kernel_rfl) (fun _ _ _ h => h) (Or.inl ⟨by rfl, ?_⟩) hHeld ?_ ?_
          rotate_left
          · rintro w' ⟨s0, s1, s2, s3⟩; go_simp; first | done | with_reducible rfl
          rotate_left
          · simp only [Act.put, List.setIfInBounds_toArray, List.set_cons_zero, List.set_cons_succ, i64_w, i32_w]; rfl
          refine pure_ (i := 9) (N := (some 31)) (v := ?_) (a' := ?_) #[true, true, true, true, true, true, true, true, true, true, false, false, false, false, false, false, false, false, false, false, false, false, false, false, false, false, false, false] rfl rfl (by kernel_rfl) (fun _ _ _ h => h) (Or.inl ⟨by rfl, ?_⟩) ?_ ?_
          rotate_left
          · intro w'; go_simp; first | done | with_reducible rfl
          rotate_left
          · simp only [Act.put, List.setIfInBounds_toArray, List.set_cons_zero, List.set_cons_succ, i64_w, i32_w]; rfl
          refine take_ (i := 10) (N := (some 32)) (v := ?_) (a' := ?_) #[true, true, true, true, true, true, true, true, true, true, true, false, false, false, false, false, false, false, false, false, false, false, false, false, false, false, false, false] rfl rfl (by kernel_rfl) (fun _ _ _ h => h) (Or.inl ⟨by rfl, ?_⟩) hHeld ?_ ?_
          rotate_left
          · rintro w' ⟨s0, s1, s2, s3⟩; go_simp; first | done | with_reducible rfl
          rotate_left
          · simp only [Act.put, List.setIfInBounds_toArray, List.set_cons_zero, List.set_cons_succ, i64_w, i32_w]; rfl
          refine pure_ (i := 11) (N := (some 33)) (v := ?_) (a' := ?_) #[true, true, true, true, true, true, true, true, true, true, true, true, false, false, false, false, false, false, false, false, false, false, false, false, false, false, false, false] rfl rfl (by kernel_rfl) (fun _ _ _ h => h) (Or.inl ⟨by rfl, ?_⟩) ?_ ?_
          rotate_left
          · intro w'; go_simp; first | done | with_reducible rfl
          rotate_left
          · simp only [Act.put, List.setIfInBounds_toArray, List.set_cons_zero, List.set_cons_succ, i64_w, i32_w]; rfl
          refine pure_ (i := 12) (N := (some 34)) (v := (.bool false)) (a' := ?_) #[true, true, true, true, true, true, true, true, true, true, true, true, true, false, false, false, false, false, false, false, false, false, false, false, false, false, false, false] rfl rfl (by kernel_rfl) (fun _ _ _ h => h) (Or.inl ⟨by rfl, ?_⟩) ?_ ?_
          · intro w'; go_simp; first | done | with_reducible rfl
          rotate_left
          · simp only [Act.put, List.setIfInBounds_toArray, List.set_cons_zero, List.set_cons_succ, i64_w, i32_w]; rfl
          refine pure_ (i := 13) (N := (some 35)) (v := ?_) (a' := ?_) #[true, true, true, true, true, true, true, true, true, true, true, true, true, true, false, false, false, false, false, false, false, false, false, false, false, false, false, false] rfl rfl (by kernel_rfl) (fun _ _ _ h => h) (Or.inl ⟨by rfl, ?_⟩) ?_ ?_
          rotate_left
          · intro w'; go_simp; first | done | with_reducible rfl
          rotate_left
          · simp only [Act.put, List.setIfInBounds_toArray, List.set_cons_zero, List.set_cons_succ, i64_w, i32_w]; rfl
          refine pure_ (i := 14) (N := (some 36)) (v := ?_) (a' := ?_) #[true, true, true, true, true, true, true, true, true, true, true, true, true, true, true, false, false, false, false, false, false, false, false, false, false, false, false, false] rfl rfl (by kernel_rfl) (fun _ _ _ h => h) (Or.inl ⟨by rfl, ?_⟩) ?_ ?_
          rotate_left
          · intro w'; go_simp; first | done | with_reducible rfl
          rotate_left
          · simp only [Act.put, List.setIfInBounds_toArray, List.set_cons_zero, List.set_cons_succ, i64_w, i32_w]; rfl
          refine pure_ (i := 15) (N := (some 37)) (v := ?_) (a' := ?_) #[true, true, true, true, true, true, true, true, true, true, true, true, true, true, true, true, false, false, false, false, false, false, false, false, false, false, false, false] rfl rfl (by kernel_rfl) (fun _ _ _ h => h) (Or.inl ⟨by rfl, ?_⟩) ?_ ?_
          rotate_left
          · intro w'; go_simp; first | done | with_reducible rfl
          rotate_left
          · simp only [Act.put, List.setIfInBounds_toArray, List.set_cons_zero, List.set_cons_succ, i64_w, i32_w]; rfl
          refine pure_ (i := 16) (N := (some 38)) (v := ?_) (a' := ?_) #[true, true, true, true, true, true, true, true, true, true, true, true, true, true, true, true, true, false, false, false, false, false, false, false, false, false, false, false] rfl rfl (by kernel_rfl) (fun _ _ _ h => h) (Or.inl ⟨by rfl, ?_⟩) ?_ ?_
          rotate_left
          · intro w'; go_simp; first | done | with_reducible rfl
          rotate_left
          · simp only [Act.put, List.setIfInBounds_toArray, List.set_cons_zero, List.set_cons_succ, i64_w, i32_w]; rfl
          refine pure_ (i := 17) (N := (some 39)) (v := ?_) (a' := ?_) #[true, true, true, true, true, true, true, true, true, true, true, true, true, true, true, true, true, true, false, false, false, false, false, false, false, false, false, false] rfl rfl (by kernel_rfl) (fun _ _ _ h => h) (Or.inl ⟨by rfl, ?_⟩) ?_ ?_
          rotate_left
          · intro w'; go_simp; first | done | with_reducible rfl
          rotate_left
          · simp only [Act.put, List.setIfInBounds_toArray, List.set_cons_zero, List.set_cons_succ, i64_w, i32_w]; rfl
          refine pure_ (i := 18) (N := (some 40)) (v := ?_) (a' := ?_) #[true, true, true, true, true, true, true, true, true, true, true, true, true, true, true, true, true, true, true, false, false, false, false, false, false, false, false, false] rfl rfl (by kernel_rfl) (fun _ _ _ h => h) (Or.inl ⟨by rfl, ?_⟩) ?_ ?_
          rotate_left
          · intro w'; go_simp; first | done | with_reducible rfl
          rotate_left
          · simp only [Act.put, List.setIfInBounds_toArray, List.set_cons_zero, List.set_cons_succ, i64_w, i32_w]; rfl
          refine pure_ (i := 19) (N := (some 41)) (v := ?_) (a' := ?_) #[true, true, true, true, true, true, true, true, true, true, true, true, true, true, true, true, true, true, true, true, false, false, false, false, false, false, false, false] rfl rfl (by kernel_rfl) (fun _ _ _ h => h) (Or.inl ⟨by rfl, ?_⟩) ?_ ?_
          rotate_left
          · intro w'; go_simp; first | done | with_reducible rfl
          rotate_left
          · simp only [Act.put, List.setIfInBounds_toArray, List.set_cons_zero, List.set_cons_succ, i64_w, i32_w]; rfl
          refine pure_ (i := 20) (N := (some 42)) (v := ?_) (a' := ?_) #[true, true, true, true, true, true, true, true, true, true, true, true, true, true, true, true, true, true, true, true, true, false, false, false, false, false, false, false] rfl rfl (by kernel_rfl) (fun _ _ _ h => h) (Or.inl ⟨by rfl, ?_⟩) ?_ ?_
          rotate_left
          · intro w'; go_simp; first | done | with_reducible rfl
          rotate_left
          · simp only [Act.put, List.setIfInBounds_toArray, List.set_cons_zero, List.set_cons_succ, i64_w, i32_w]; rfl
          refine pure_ (i := 21) (N := (some 43)) (v := ?_) (a' := ?_) #[true, true, true, true, true, true, true, true, true, true, true, true, true, true, true, true, true, true, true, true, true, true, false, false, false, false, false, false] rfl rfl (by kernel_rfl) (fun _ _ _ h => h) (Or.inl ⟨by rfl, ?_⟩) ?_ ?_
          rotate_left
          · intro w'; go_simp; first | done | with_reducible rfl
          rotate_left
          · simp only [Act.put, List.setIfInBounds_toArray, List.set_cons_zero, List.set_cons_succ, i64_w, i32_w]; rfl
          refine take_ (i := 22) (N := (some 44)) (v := ?_) (a' := ?_) #[true, true, true, true, true, true, true, true, true, true, true, true, true, true, true, true, true, true, true, true, true, true, true, false, false, false, false, false] rfl rfl (by kernel_rfl) (fun _ _ _ h => h) (Or.inl ⟨by rfl, ?_⟩) hHeld ?_ ?_
          rotate_left
          · rintro w' ⟨s0, s1, s2, s3⟩; go_simp; first | done | with_reducible rfl
          rotate_left
          · simp only [Act.put, List.setIfInBounds_toArray, List.set_cons_zero, List.set_cons_succ, i64_w, i32_w]; rfl
          refine take_ (i := 23) (N := (some 45)) (v := ?_) (a' := ?_) #[true, true, true, true, true, true, true, true, true, true, true, true, true, true, true, true, true, true, true, true, true, true, true, true, false, false, false, false] rfl rfl (by kernel_rfl) (fun _ _ _ h => h) (Or.inl ⟨by rfl, ?_⟩) hHeld ?_ ?_
          rotate_left
          · rintro w' ⟨s0, s1, s2, s3⟩; go_simp; first | done | with_reducible rfl
          rotate_left
          · simp only [Act.put, List.setIfInBounds_toArray, List.set_cons_zero, List.set_cons_succ, i64_w, i32_w]; rfl
          refine one_ (i := 24) (N := (some 46)) #[true, true, true, true, true, true, true, true, true, true, true, true, true, true, true, true, true, true, true, true, true, true, true, true, true, false, false, false] rfl rfl (by kernel_rfl) (by decide) (fun K hK => ?_)
          refine goes_ Tryd.func67 (by kernel_rfl) rfl #[ptV (x m) (y m), ptV (x (m + 1)) (y (m + 1))] (by rfl) rfl rfl (by (try simp only [List.map_toArray, List.map_cons, List.map_nil]); first | done | rfl) ?_
          refine (compare_calls _ _ _ _ _).mono ?_
          rintro e wc ⟨rfl, hbc⟩
          refine ⟨_, rfl, ?_⟩
          have HBC := Lib.hid (HBA.out.drew.trans (hbc.mono HBA.out.drew.size))
          have HOC := Lib.hid (pw_own_below (pw_own_below HOA.out (Below.refl _ wa).drew) hbc)
          obtain ⟨g0, g1, g2, g3⟩ := hHeld
          have g0' := (hbc.cell (p := ⟨G, 0, none⟩) (World.block_lt_of_cell? _ _ g0)).trans g0
          have g1' := (hbc.cell (p := ⟨G, 1, none⟩) (World.block_lt_of_cell? _ _ g1)).trans g1
          have g2' := (hbc.cell (p := ⟨b, off + m * 2, none⟩) (World.block_lt_of_cell? _ _ g2)).trans g2
          have g3' := (hbc.cell (p := ⟨b, off + m * 2 + 1, none⟩) (World.block_lt_of_cell? _ _ g3)).trans g3
          refine hK.out _ _ ⟨g0', g1', g2', g3'⟩ (fun hHeld => ?_)
          clear hK K
          refine norm_ (a' := ?_) ?_ ?_
          rotate_left
          · show Act.put _ (some 46) _ = _; simp only [Act.put, List.setIfInBounds_toArray, List.set_cons_zero, List.set_cons_succ, i64_w, i32_w]; rfl
          refine pure_ (i := 25) (N := (some 47)) (v := (.bool false)) (a' := ?_) #[true, true, true, true, true, true, true, true, true, true, true, true, true, true, true, true, true, true, true, true, true, true, true, true, true, true, false, false] rfl rfl (by kernel_rfl) (fun _ _ _ h => h) (Or.inl ⟨by rfl, ?_⟩) ?_ ?_
          · intro w'; go_simp; first | done | with_reducible rfl
          rotate_left
          · simp only [Act.put, List.setIfInBounds_toArray, List.set_cons_zero, List.set_cons_succ, i64_w, i32_w]; rfl
          refine pure_ (i := 26) (N := (some 48)) (v := ?_) (a' := ?_) #[true, true, true, true, true, true, true, true, true, true, true, true, true, true, true, true, true, true, true, true, true, true, true, true, true, true, true, false] rfl rfl (by kernel_rfl) (fun _ _ _ h => h) (Or.inl ⟨by rfl, ?_⟩) ?_ ?_
          rotate_left
          · intro w'; go_simp; first | done | with_reducible rfl
          rotate_left
          · simp only [Act.put, List.setIfInBounds_toArray, List.set_cons_zero, List.set_cons_succ, i64_w, i32_w]; rfl
          refine pure_ (i := 27) (N := (some 49)) (v := ?_) (a' := ?_) #[true, true, true, true, true, true, true, true, true, true, true, true, true, true, true, true, true, true, true, true, true, true, true, true, true, true, true, true] rfl rfl (by kernel_rfl) (fun _ _ _ h => h) (Or.inl ⟨by rfl, ?_⟩) ?_ ?_
          rotate_left
          · intro w'; go_simp; first | done | with_reducible rfl
          rotate_left
          · simp only [Act.put, List.setIfInBounds_toArray, List.set_cons_zero, List.set_cons_succ, i64_w, i32_w]; rfl
          refine done_ (by kernel_rfl) ?_
          obtain ⟨q0', q1', _, _⟩ := hHeld
          have HBD := Lib.hid HBC.out
          have HOD := Lib.hid HOC.out
          clear q0 q1 q2 q3 HBA HOA h0 h1 e1 e2 e3 HBC HOC
          generalize wc = wd at q0' q1' HBD HOD ⊢
          obtain ⟨i0, hi0, hz0, hz1, hz2⟩ := info_parts info63
          have HBD2 := Lib.hid (HBD.out.trans ((below_one (w := wd) (.cells #[.int .i64 (x (m + 1)), .int .i64 (y (m + 1))] 63)).mono HBD.out.size))
          have HOE := Lib.hid (pw_own_below HOD.out (below_one (w := wd) (.cells #[.int .i64 (x (m + 1)), .int .i64 (y (m + 1))] 63)))
          have HI := Lib.hid hi0
          have HZ := Lib.hid (And.intro hz0 (And.intro hz1 hz2))
          clear hi0 hz0 hz1 hz2
          go_wp2_with (first | (at_builtin; go_loud (refine wpList_append_own_at _ rfl (.tmp 50) (.tmp 52) 67 rfl w.heap.size 63 i0 _ 2 16 Tryd.underlying67 HI.out HZ.out.1 HZ.out.2.1 HZ.out.2.2 rfl (by decide) u4 (m + 1) (flat x y (m + 1)) rfl HOE.out ⟨wd.heap.size, 0, none⟩ 1 1 [.int .i64 (x (m + 1)), .int .i64 (y (m + 1))] rfl rfl (two_new _ _ _ _) (by simp [Value.oneCell']) (by unfold maxLen; omega) (by omega) HBD2.out.size ?_); intro v1 w1 hown1 hgrow1 _ _; have HOF := Lib.hid hown1; have HBF := Lib.hid (own_grow HBD2.out HOE.out hgrow1); clear hown1 hgrow1) | go_in)
          refine ⟨⟨m + 1 + 1, by omega, by go_num, Lib.hid (goodTo_next HG.out HGK.out), HOF, HBF⟩, by simp [intOf]; omega⟩
      · have HGN := Lib.hid (goodTo_bad hlt hgk)
        by_cases e1 : max (x k) (y k) ≤ 100
        · by_cases e2 : -100 ≤ min (x k) (y k)
          · have hxy : k ≠ 0 ∧ 0 ≤ cmpP (x (k - 1)) (y (k - 1)) (x k) (y k) := by
              by_cases h : k = 0
              · exact absurd ⟨by omega, .inl h⟩ hgk
              · refine ⟨h, ?_⟩
                have := fun q => hgk ⟨by omega, .inr q⟩
                omega
            obtain ⟨hk0, hxy⟩ := hxy
            clear hgk
            obtain ⟨m, rfl⟩ : ∃ m, k = m + 1 := ⟨k - 1, by omega⟩
            have hpm := HPA.out
            have q2 := hpm.c0 m (by omega)
            have q3 := hpm.c1 m (by omega)
            have hmn : m < n := by omega
            have e3 : 0 ≤ cmpP (x m) (y m) (x (m + 1)) (y (m + 1)) := by simpa using hxy
            have hwm : wrap64 (m : Int) = m := by unfold wrap64; omega
            clear hpm hxy
            refine start_ (n := 28) (S := fun w' => w'.cell? ⟨G, 0, none⟩ = some (.int .i64 (x (m + 1))) ∧ w'.cell? ⟨G, 1, none⟩ = some (.int .i64 (y (m + 1))) ∧ w'.cell? ⟨b, off + m * 2, none⟩ = some (.int .i64 (x m)) ∧ w'.cell? ⟨b, off + m * 2 + 1, none⟩ = some (.int .i64 (y m))) (ds := []) #[false, false, false, false, false, false, false, false, false, false, false, false, false, false, false, false, false, false, false, false, false, false, false, false, false, false, false, false] (by kernel_rfl) rfl rfl ⟨by simpa using q0, by simpa using q1, by simpa using q2, by simpa using q3⟩ (fun hHeld => ?_)
            refine pure_ (i := 0) (N := (some 22)) (v := ?_) (a' := ?_) #[true, false, false, false, false, false, false, false, false, false, false, false, false, false, false, false, false, false, false, false, false, false, false, false, false, false, false, false] rfl rfl (by kernel_rfl) (fun _ _ _ h => h) (Or.inl ⟨by rfl, ?_⟩) ?_ ?_
            rotate_left
            · intro w'; go_simp; first | done | with_reducible rfl
            rotate_left
            · simp only [Act.put, List.setIfInBounds_toArray, List.set_cons_zero, List.set_cons_succ, i64_w, i32_w]; rfl
            refine take_ (i := 1) (N := (some 23)) (v := ?_) (a' := ?_) #[true, true, false, false, false, false, false, false, false, false, false, false, false, false, false, false, false, false, false, false, false, false, false, false, false, false, false, false] rfl rfl (by kernel_rfl) (fun _ _ _ h => h) (Or.inl ⟨by rfl, ?_⟩) hHeld ?_ ?_
            rotate_left
            · rintro w' ⟨s0, s1, s2, s3⟩; go_simp; first | done | with_reducible rfl
            rotate_left
            · simp only [Act.put, List.setIfInBounds_toArray, List.set_cons_zero, List.set_cons_succ, i64_w, i32_w]; rfl
            refine pure_ (i := 2) (N := (some 24)) (v := ?_) (a' := ?_) #[true, true, true, false, false, false, false, false, false, false, false, false, false, false, false, false, false, false, false, false, false, false, false, false, false, false, false, false] rfl rfl (by kernel_rfl) (fun _ _ _ h => h) (Or.inl ⟨by rfl, ?_⟩) ?_ ?_
            rotate_left
            · intro w'; go_simp; first | done | with_reducible rfl
            rotate_left
            · simp only [Act.put, List.setIfInBounds_toArray, List.set_cons_zero, List.set_cons_succ, i64_w, i32_w]; rfl
            refine take_ (i := 3) (N := (some 25)) (v := ?_) (a' := ?_) #[true, true, true, true, false, false, false, false, false, false, false, false, false, false, false, false, false, false, false, false, false, false, false, false, false, false, false, false] rfl rfl (by kernel_rfl) (fun _ _ _ h => h) (Or.inl ⟨by rfl, ?_⟩) hHeld ?_ ?_
            rotate_left
            · rintro w' ⟨s0, s1, s2, s3⟩; go_simp; first | done | with_reducible rfl
            rotate_left
            · simp only [Act.put, List.setIfInBounds_toArray, List.set_cons_zero, List.set_cons_succ, i64_w, i32_w]; rfl
            refine pure_ (i := 4) (N := (some 26)) (v := ?_) (a' := ?_) #[true, true, true, true, true, false, false, false, false, false, false, false, false, false, false, false, false, false, false, false, false, false, false, false, false, false, false, false] rfl rfl (by kernel_rfl) (fun _ _ _ h => h) (Or.inl ⟨by rfl, ?_⟩) ?_ ?_
            rotate_left
            · intro w'; go_simp; first | done | with_reducible rfl
            rotate_left
            · simp only [Act.put, List.setIfInBounds_toArray, List.set_cons_zero, List.set_cons_succ, i64_w, i32_w]; rfl
            refine pure_ (i := 5) (N := (some 27)) (v := (.bool false)) (a' := ?_) #[true, true, true, true, true, true, false, false, false, false, false, false, false, false, false, false, false, false, false, false, false, false, false, false, false, false, false, false] rfl rfl (by kernel_rfl) (fun _ _ _ h => h) (Or.inl ⟨by rfl, ?_⟩) ?_ ?_
            · intro w'; go_simp; first | done | with_reducible rfl
            rotate_left
            · simp only [Act.put, List.setIfInBounds_toArray, List.set_cons_zero, List.set_cons_succ, i64_w, i32_w]; rfl
            refine pure_ (i := 6) (N := (some 28)) (v := ?_) (a' := ?_) #[true, true, true, true, true, true, true, false, false, false, false, false, false, false, false, false, false, false, false, false, false, false, false, false, false, false, false, false] rfl rfl (by kernel_rfl) (fun _ _ _ h => h) (Or.inl ⟨by rfl, ?_⟩) ?_ ?_
            rotate_left
            · intro w'; go_simp; first | done | with_reducible rfl
            rotate_left
            · simp only [Act.put, List.setIfInBounds_toArray, List.set_cons_zero, List.set_cons_succ, i64_w, i32_w]; rfl
            refine pure_ (i := 7) (N := (some 29)) (v := ?_) (a' := ?_) #[true, true, true, true, true, true, true, true, false, false, false, false, false, false, false, false, false, false, false, false, false, false, false, false, false, false, false, false] rfl rfl (by kernel_rfl) (fun _ _ _ h => h) (Or.inl ⟨by rfl, ?_⟩) ?_ ?_
            rotate_left
            · intro w'; go_simp; first | done | with_reducible rfl
            rotate_left
            · simp only [Act.put, List.setIfInBounds_toArray, List.set_cons_zero, List.set_cons_succ, i64_w, i32_w]; rfl
            refine take_ (i := 8) (N := (some 30)) (v := ?_) (a' := ?_) #[true, true, true, true, true, true, true, true, true, false, false, false, false, false, false, false, false, false, false, false, false, false, false, false, false, false, false, false] rfl rfl (by kernel_rfl) (fun _ _ _ h => h) (Or.inl ⟨by rfl, ?_⟩) hHeld ?_ ?_
            rotate_left
            · rintro w' ⟨s0, s1, s2, s3⟩; go_simp; first | done | with_reducible rfl
            rotate_left
            · simp only [Act.put, List.setIfInBounds_toArray, List.set_cons_zero, List.set_cons_succ, i64_w, i32_w]; rfl
            refine pure_ (i := 9) (N := (some 31)) (v := ?_) (a' := ?_) #[true, true, true, true, true, true, true, true, true, true, false, false, false, false, false, false, false, false, false, false, false, false, false, false, false, false, false, false] rfl rfl (by kernel_rfl) (fun _ _ _ h => h) (Or.inl ⟨by rfl, ?_⟩) ?_ ?_
            rotate_left
            · intro w'; go_simp; first | done | with_reducible rfl
            rotate_left
            · simp only [Act.put, List.setIfInBounds_toArray, List.set_cons_zero, List.set_cons_succ, i64_w, i32_w]; rfl
            refine take_ (i := 10) (N := (some 32)) (v := ?_) (a' := ?_) #[true, true, true, true, true, true, true, true, true, true, true, false, false, false, false, false, false, false, false, false, false, false, false, false, false, false, false, false] rfl rfl (by kernel_rfl) (fun _ _ _ h => h) (Or.inl ⟨by rfl, ?_⟩) hHeld ?_ ?_
            rotate_left
            · rintro w' ⟨s0, s1, s2, s3⟩; go_simp; first | done | with_reducible rfl
            rotate_left
            · simp only [Act.put, List.setIfInBounds_toArray, List.set_cons_zero, List.set_cons_succ, i64_w, i32_w]; rfl
            refine pure_ (i := 11) (N := (some 33)) (v := ?_) (a' := ?_) #[true, true, true, true, true, true, true, true, true, true, true, true, false, false, false, false, false, false, false, false, false, false, false, false, false, false, false, false] rfl rfl (by kernel_rfl) (fun _ _ _ h => h) (Or.inl ⟨by rfl, ?_⟩) ?_ ?_
            rotate_left
            · intro w'; go_simp; first | done | with_reducible rfl
            rotate_left
            · simp only [Act.put, List.setIfInBounds_toArray, List.set_cons_zero, List.set_cons_succ, i64_w, i32_w]; rfl
            refine pure_ (i := 12) (N := (some 34)) (v := (.bool false)) (a' := ?_) #[true, true, true, true, true, true, true, true, true, true, true, true, true, false, false, false, false, false, false, false, false, false, false, false, false, false, false, false] rfl rfl (by kernel_rfl) (fun _ _ _ h => h) (Or.inl ⟨by rfl, ?_⟩) ?_ ?_
            · intro w'; go_simp; first | done | with_reducible rfl
            rotate_left
            · simp only [Act.put, List.setIfInBounds_toArray, List.set_cons_zero, List.set_cons_succ, i64_w, i32_w]; rfl
            refine pure_ (i := 13) (N := (some 35)) (v := ?_) (a' := ?_) #[true, true, true, true, true, true, true, true, true, true, true, true, true, true, false, false, false, false, false, false, false, false, false, false, false, false, false, false] rfl rfl (by kernel_rfl) (fun _ _ _ h => h) (Or.inl ⟨by rfl, ?_⟩) ?_ ?_
            rotate_left
            · intro w'; go_simp; first | done | with_reducible rfl
            rotate_left
            · simp only [Act.put, List.setIfInBounds_toArray, List.set_cons_zero, List.set_cons_succ, i64_w, i32_w]; rfl
            refine pure_ (i := 14) (N := (some 36)) (v := ?_) (a' := ?_) #[true, true, true, true, true, true, true, true, true, true, true, true, true, true, true, false, false, false, false, false, false, false, false, false, false, false, false, false] rfl rfl (by kernel_rfl) (fun _ _ _ h => h) (Or.inl ⟨by rfl, ?_⟩) ?_ ?_
            rotate_left
            · intro w'; go_simp; first | done | with_reducible rfl
            rotate_left
            · simp only [Act.put, List.setIfInBounds_toArray, List.set_cons_zero, List.set_cons_succ, i64_w, i32_w]; rfl
            refine pure_ (i := 15) (N := (some 37)) (v := ?_) (a' := ?_) #[true, true, true, true, true, true, true, true, true, true, true, true, true, true, true, true, false, false, false, false, false, false, false, false, false, false, false, false] rfl rfl (by kernel_rfl) (fun _ _ _ h => h) (Or.inl ⟨by rfl, ?_⟩) ?_ ?_
            rotate_left
            · intro w'; go_simp; first | done | with_reducible rfl
            rotate_left
            · simp only [Act.put, List.setIfInBounds_toArray, List.set_cons_zero, List.set_cons_succ, i64_w, i32_w]; rfl
            refine pure_ (i := 16) (N := (some 38)) (v := ?_) (a' := ?_) #[true, true, true, true, true, true, true, true, true, true, true, true, true, true, true, true, true, false, false, false, false, false, false, false, false, false, false, false] rfl rfl (by kernel_rfl) (fun _ _ _ h => h) (Or.inl ⟨by rfl, ?_⟩) ?_ ?_
            rotate_left
            · intro w'; go_simp; first | done | with_reducible rfl
            rotate_left
            · simp only [Act.put, List.setIfInBounds_toArray, List.set_cons_zero, List.set_cons_succ, i64_w, i32_w]; rfl
            refine pure_ (i := 17) (N := (some 39)) (v := ?_) (a' := ?_) #[true, true, true, true, true, true, true, true, true, true, true, true, true, true, true, true, true, true, false, false, false, false, false, false, false, false, false, false] rfl rfl (by kernel_rfl) (fun _ _ _ h => h) (Or.inl ⟨by rfl, ?_⟩) ?_ ?_
            rotate_left
            · intro w'; go_simp; first | done | with_reducible rfl
            rotate_left
            · simp only [Act.put, List.setIfInBounds_toArray, List.set_cons_zero, List.set_cons_succ, i64_w, i32_w]; rfl
            refine pure_ (i := 18) (N := (some 40)) (v := ?_) (a' := ?_) #[true, true, true, true, true, true, true, true, true, true, true, true, true, true, true, true, true, true, true, false, false, false, false, false, false, false, false, false] rfl rfl (by kernel_rfl) (fun _ _ _ h => h) (Or.inl ⟨by rfl, ?_⟩) ?_ ?_
            rotate_left
            · intro w'; go_simp; first | done | with_reducible rfl
            rotate_left
            · simp only [Act.put, List.setIfInBounds_toArray, List.set_cons_zero, List.set_cons_succ, i64_w, i32_w]; rfl
            refine pure_ (i := 19) (N := (some 41)) (v := ?_) (a' := ?_) #[true, true, true, true, true, true, true, true, true, true, true, true, true, true, true, true, true, true, true, true, false, false, false, false, false, false, false, false] rfl rfl (by kernel_rfl) (fun _ _ _ h => h) (Or.inl ⟨by rfl, ?_⟩) ?_ ?_
            rotate_left
            · intro w'; go_simp; first | done | with_reducible rfl
            rotate_left
            · simp only [Act.put, List.setIfInBounds_toArray, List.set_cons_zero, List.set_cons_succ, i64_w, i32_w]; rfl
            refine pure_ (i := 20) (N := (some 42)) (v := ?_) (a' := ?_) #[true, true, true, true, true, true, true, true, true, true, true, true, true, true, true, true, true, true, true, true, true, false, false, false, false, false, false, false] rfl rfl (by kernel_rfl) (fun _ _ _ h => h) (Or.inl ⟨by rfl, ?_⟩) ?_ ?_
            rotate_left
            · intro w'; go_simp; first | done | with_reducible rfl
            rotate_left
            · simp only [Act.put, List.setIfInBounds_toArray, List.set_cons_zero, List.set_cons_succ, i64_w, i32_w]; rfl
            refine pure_ (i := 21) (N := (some 43)) (v := ?_) (a' := ?_) #[true, true, true, true, true, true, true, true, true, true, true, true, true, true, true, true, true, true, true, true, true, true, false, false, false, false, false, false] rfl rfl (by kernel_rfl) (fun _ _ _ h => h) (Or.inl ⟨by rfl, ?_⟩) ?_ ?_
            rotate_left
            · intro w'; go_simp; first | done | with_reducible rfl
            rotate_left
            · simp only [Act.put, List.setIfInBounds_toArray, List.set_cons_zero, List.set_cons_succ, i64_w, i32_w]; rfl
            refine take_ (i := 22) (N := (some 44)) (v := ?_) (a' := ?_) #[true, true, true, true, true, true, true, true, true, true, true, true, true, true, true, true, true, true, true, true, true, true, true, false, false, false, false, false] rfl rfl (by kernel_rfl) (fun _ _ _ h => h) (Or.inl ⟨by rfl, ?_⟩) hHeld ?_ ?_
            rotate_left
            · rintro w' ⟨s0, s1, s2, s3⟩; go_simp; first | done | with_reducible rfl
            rotate_left
            · simp only [Act.put, List.setIfInBounds_toArray, List.set_cons_zero, List.set_cons_succ, i64_w, i32_w]; rfl
            refine take_ (i := 23) (N := (some 45)) (v := ?_) (a' := ?_) #[true, true, true, true, true, true, true, true, true, true, true, true, true, true, true, true, true, true, true, true, true, true, true, true, false, false, false, false] rfl rfl (by kernel_rfl) (fun _ _ _ h => h) (Or.inl ⟨by rfl, ?_⟩) hHeld ?_ ?_
            rotate_left
            · rintro w' ⟨s0, s1, s2, s3⟩; go_simp; first | done | with_reducible rfl
            rotate_left
            · simp only [Act.put, List.setIfInBounds_toArray, List.set_cons_zero, List.set_cons_succ, i64_w, i32_w]; rfl
            refine one_ (i := 24) (N := (some 46)) #[true, true, true, true, true, true, true, true, true, true, true, true, true, true, true, true, true, true, true, true, true, true, true, true, true, false, false, false] rfl rfl (by kernel_rfl) (by decide) (fun K hK => ?_)
            refine goes_ Tryd.func67 (by kernel_rfl) rfl #[ptV (x m) (y m), ptV (x (m + 1)) (y (m + 1))] (by rfl) rfl rfl (by (try simp only [List.map_toArray, List.map_cons, List.map_nil]); first | done | rfl) ?_
            refine (compare_calls _ _ _ _ _).mono ?_
            rintro e wc ⟨rfl, hbc⟩
            refine ⟨_, rfl, ?_⟩
            have HBC := Lib.hid (HBA.out.drew.trans (hbc.mono HBA.out.drew.size))
            have HOC := Lib.hid (pw_own_below (pw_own_below HOA.out (Below.refl _ wa).drew) hbc)
            obtain ⟨g0, g1, g2, g3⟩ := hHeld
            have g0' := (hbc.cell (p := ⟨G, 0, none⟩) (World.block_lt_of_cell? _ _ g0)).trans g0
            have g1' := (hbc.cell (p := ⟨G, 1, none⟩) (World.block_lt_of_cell? _ _ g1)).trans g1
            have g2' := (hbc.cell (p := ⟨b, off + m * 2, none⟩) (World.block_lt_of_cell? _ _ g2)).trans g2
            have g3' := (hbc.cell (p := ⟨b, off + m * 2 + 1, none⟩) (World.block_lt_of_cell? _ _ g3)).trans g3
            refine hK.out _ _ ⟨g0', g1', g2', g3'⟩ (fun hHeld => ?_)
            clear hK K
            refine norm_ (a' := ?_) ?_ ?_
            rotate_left
            · show Act.put _ (some 46) _ = _; simp only [Act.put, List.setIfInBounds_toArray, List.set_cons_zero, List.set_cons_succ, i64_w, i32_w]; rfl
            refine pure_ (i := 25) (N := (some 47)) (v := (.bool true)) (a' := ?_) #[true, true, true, true, true, true, true, true, true, true, true, true, true, true, true, true, true, true, true, true, true, true, true, true, true, true, false, false] rfl rfl (by kernel_rfl) (fun _ _ _ h => h) (Or.inl ⟨by rfl, ?_⟩) ?_ ?_
            · intro w'; go_simp; first | done | with_reducible rfl
            rotate_left
            · simp only [Act.put, List.setIfInBounds_toArray, List.set_cons_zero, List.set_cons_succ, i64_w, i32_w]; rfl
            refine pure_ (i := 26) (N := (some 48)) (v := ?_) (a' := ?_) #[true, true, true, true, true, true, true, true, true, true, true, true, true, true, true, true, true, true, true, true, true, true, true, true, true, true, true, false] rfl rfl (by kernel_rfl) (fun _ _ _ h => h) (Or.inl ⟨by rfl, ?_⟩) ?_ ?_
            rotate_left
            · intro w'; go_simp; first | done | with_reducible rfl
            rotate_left
            · simp only [Act.put, List.setIfInBounds_toArray, List.set_cons_zero, List.set_cons_succ, i64_w, i32_w]; rfl
            refine pure_ (i := 27) (N := (some 49)) (v := ?_) (a' := ?_) #[true, true, true, true, true, true, true, true, true, true, true, true, true, true, true, true, true, true, true, true, true, true, true, true, true, true, true, true] rfl rfl (by kernel_rfl) (fun _ _ _ h => h) (Or.inl ⟨by rfl, ?_⟩) ?_ ?_
            rotate_left
            · intro w'; go_simp; first | done | with_reducible rfl
            rotate_left
            · simp only [Act.put, List.setIfInBounds_toArray, List.set_cons_zero, List.set_cons_succ, i64_w, i32_w]; rfl
            refine done_ (by kernel_rfl) ?_
            have HBD := Lib.hid HBC.out
            clear q0 q1 q2 q3 HBA HOA h0 h1 e1 e2 e3 HOC hHeld g0 g1 g2 g3
            generalize wc = wd at HBD ⊢
            go_wp2
            go_ret2
            exact ⟨.inr ⟨HGN.out, rfl⟩, HBD.out⟩
          · have e2 : min (x k) (y k) < -100 := by omega
            clear hgk
            refine start_ (n := 28) (S := fun w' => w'.cell? ⟨G, 0, none⟩ = some (.int .i64 (x k)) ∧ w'.cell? ⟨G, 1, none⟩ = some (.int .i64 (y k))) (ds := []) #[false, false, false, false, false, false, false, false, false, false, false, false, false, false, false, false, false, false, false, false, false, false, false, false, false, false, false, false] (by kernel_rfl) rfl rfl ⟨by simpa using q0, by simpa using q1⟩ (fun hHeld => ?_)
            refine pure_ (i := 0) (N := (some 22)) (v := ?_) (a' := ?_) #[true, false, false, false, false, false, false, false, false, false, false, false, false, false, false, false, false, false, false, false, false, false, false, false, false, false, false, false] rfl rfl (by kernel_rfl) (fun _ _ _ h => h) (Or.inl ⟨by rfl, ?_⟩) ?_ ?_
            rotate_left
            · intro w'; go_simp; first | done | with_reducible rfl
            rotate_left
            · simp only [Act.put, List.setIfInBounds_toArray, List.set_cons_zero, List.set_cons_succ, i64_w, i32_w]; rfl
            refine take_ (i := 1) (N := (some 23)) (v := ?_) (a' := ?_) #[true, true, false, false, false, false, false, false, false, false, false, false, false, false, false, false, false, false, false, false, false, false, false, false, false, false, false, false] rfl rfl (by kernel_rfl) (fun _ _ _ h => h) (Or.inl ⟨by rfl, ?_⟩) hHeld ?_ ?_
            rotate_left
            · rintro w' ⟨s0, s1⟩; go_simp; first | done | with_reducible rfl
            rotate_left
            · simp only [Act.put, List.setIfInBounds_toArray, List.set_cons_zero, List.set_cons_succ, i64_w, i32_w]; rfl
            refine pure_ (i := 2) (N := (some 24)) (v := ?_) (a' := ?_) #[true, true, true, false, false, false, false, false, false, false, false, false, false, false, false, false, false, false, false, false, false, false, false, false, false, false, false, false] rfl rfl (by kernel_rfl) (fun _ _ _ h => h) (Or.inl ⟨by rfl, ?_⟩) ?_ ?_
            rotate_left
            · intro w'; go_simp; first | done | with_reducible rfl
            rotate_left
            · simp only [Act.put, List.setIfInBounds_toArray, List.set_cons_zero, List.set_cons_succ, i64_w, i32_w]; rfl
            refine take_ (i := 3) (N := (some 25)) (v := ?_) (a' := ?_) #[true, true, true, true, false, false, false, false, false, false, false, false, false, false, false, false, false, false, false, false, false, false, false, false, false, false, false, false] rfl rfl (by kernel_rfl) (fun _ _ _ h => h) (Or.inl ⟨by rfl, ?_⟩) hHeld ?_ ?_
            rotate_left
            · rintro w' ⟨s0, s1⟩; go_simp; first | done | with_reducible rfl
            rotate_left
            · simp only [Act.put, List.setIfInBounds_toArray, List.set_cons_zero, List.set_cons_succ, i64_w, i32_w]; rfl
            refine pure_ (i := 4) (N := (some 26)) (v := ?_) (a' := ?_) #[true, true, true, true, true, false, false, false, false, false, false, false, false, false, false, false, false, false, false, false, false, false, false, false, false, false, false, false] rfl rfl (by kernel_rfl) (fun _ _ _ h => h) (Or.inl ⟨by rfl, ?_⟩) ?_ ?_
            rotate_left
            · intro w'; go_simp; first | done | with_reducible rfl
            rotate_left
            · simp only [Act.put, List.setIfInBounds_toArray, List.set_cons_zero, List.set_cons_succ, i64_w, i32_w]; rfl
            refine pure_ (i := 5) (N := (some 27)) (v := (.bool false)) (a' := ?_) #[true, true, true, true, true, true, false, false, false, false, false, false, false, false, false, false, false, false, false, false, false, false, false, false, false, false, false, false] rfl rfl (by kernel_rfl) (fun _ _ _ h => h) (Or.inl ⟨by rfl, ?_⟩) ?_ ?_
            · intro w'; go_simp; first | done | with_reducible rfl
            rotate_left
            · simp only [Act.put, List.setIfInBounds_toArray, List.set_cons_zero, List.set_cons_succ, i64_w, i32_w]; rfl
            refine pure_ (i := 6) (N := (some 28)) (v := ?_) (a' := ?_) #[true, true, true, true, true, true, true, false, false, false, false, false, false, false, false, false, false, false, false, false, false, false, false, false, false, false, false, false] rfl rfl (by kernel_rfl) (fun _ _ _ h => h) (Or.inl ⟨by rfl, ?_⟩) ?_ ?_
            rotate_left
            · intro w'; go_simp; first | done | with_reducible rfl
            rotate_left
            · simp only [Act.put, List.setIfInBounds_toArray, List.set_cons_zero, List.set_cons_succ, i64_w, i32_w]; rfl
            refine pure_ (i := 7) (N := (some 29)) (v := ?_) (a' := ?_) #[true, true, true, true, true, true, true, true, false, false, false, false, false, false, false, false, false, false, false, false, false, false, false, false, false, false, false, false] rfl rfl (by kernel_rfl) (fun _ _ _ h => h) (Or.inl ⟨by rfl, ?_⟩) ?_ ?_
            rotate_left
            · intro w'; go_simp; first | done | with_reducible rfl
            rotate_left
            · simp only [Act.put, List.setIfInBounds_toArray, List.set_cons_zero, List.set_cons_succ, i64_w, i32_w]; rfl
            refine take_ (i := 8) (N := (some 30)) (v := ?_) (a' := ?_) #[true, true, true, true, true, true, true, true, true, false, false, false, false, false, false, false, false, false, false, false, false, false, false, false, false, false, false, false] rfl rfl (by kernel_rfl) (fun _ _ _ h => h) (Or.inl ⟨by rfl, ?_⟩) hHeld ?_ ?_
            rotate_left
            · rintro w' ⟨s0, s1⟩; go_simp; first | done | with_reducible rfl
            rotate_left
            · simp only [Act.put, List.setIfInBounds_toArray, List.set_cons_zero, List.set_cons_succ, i64_w, i32_w]; rfl
            refine pure_ (i := 9) (N := (some 31)) (v := ?_) (a' := ?_) #[true, true, true, true, true, true, true, true, true, true, false, false, false, false, false, false, false, false, false, false, false, false, false, false, false, false, false, false] rfl rfl (by kernel_rfl) (fun _ _ _ h => h) (Or.inl ⟨by rfl, ?_⟩) ?_ ?_
            rotate_left
            · intro w'; go_simp; first | done | with_reducible rfl
            rotate_left
            · simp only [Act.put, List.setIfInBounds_toArray, List.set_cons_zero, List.set_cons_succ, i64_w, i32_w]; rfl
            refine take_ (i := 10) (N := (some 32)) (v := ?_) (a' := ?_) #[true, true, true, true, true, true, true, true, true, true, true, false, false, false, false, false, false, false, false, false, false, false, false, false, false, false, false, false] rfl rfl (by kernel_rfl) (fun _ _ _ h => h) (Or.inl ⟨by rfl, ?_⟩) hHeld ?_ ?_
            rotate_left
            · rintro w' ⟨s0, s1⟩; go_simp; first | done | with_reducible rfl
            rotate_left
            · simp only [Act.put, List.setIfInBounds_toArray, List.set_cons_zero, List.set_cons_succ, i64_w, i32_w]; rfl
            refine pure_ (i := 11) (N := (some 33)) (v := ?_) (a' := ?_) #[true, true, true, true, true, true, true, true, true, true, true, true, false, false, false, false, false, false, false, false, false, false, false, false, false, false, false, false] rfl rfl (by kernel_rfl) (fun _ _ _ h => h) (Or.inl ⟨by rfl, ?_⟩) ?_ ?_
            rotate_left
            · intro w'; go_simp; first | done | with_reducible rfl
            rotate_left
            · simp only [Act.put, List.setIfInBounds_toArray, List.set_cons_zero, List.set_cons_succ, i64_w, i32_w]; rfl
            refine pure_ (i := 12) (N := (some 34)) (v := (.bool true)) (a' := ?_) #[true, true, true, true, true, true, true, true, true, true, true, true, true, false, false, false, false, false, false, false, false, false, false, false, false, false, false, false] rfl rfl (by kernel_rfl) (fun _ _ _ h => h) (Or.inl ⟨by rfl, ?_⟩) ?_ ?_
            · intro w'; go_simp; first | done | with_reducible rfl
            rotate_left
            · simp only [Act.put, List.setIfInBounds_toArray, List.set_cons_zero, List.set_cons_succ, i64_w, i32_w]; rfl
            refine pure_ (i := 13) (N := (some 35)) (v := ?_) (a' := ?_) #[true, true, true, true, true, true, true, true, true, true, true, true, true, true, false, false, false, false, false, false, false, false, false, false, false, false, false, false] rfl rfl (by kernel_rfl) (fun _ _ _ h => h) (Or.inl ⟨by rfl, ?_⟩) ?_ ?_
            rotate_left
            · intro w'; go_simp; first | done | with_reducible rfl
            rotate_left
            · simp only [Act.put, List.setIfInBounds_toArray, List.set_cons_zero, List.set_cons_succ, i64_w, i32_w]; rfl
            refine pure_ (i := 14) (N := (some 36)) (v := ?_) (a' := ?_) #[true, true, true, true, true, true, true, true, true, true, true, true, true, true, true, false, false, false, false, false, false, false, false, false, false, false, false, false] rfl rfl (by kernel_rfl) (fun _ _ _ h => h) (Or.inl ⟨by rfl, ?_⟩) ?_ ?_
            rotate_left
            · intro w'; go_simp; first | done | with_reducible rfl
            rotate_left
            · simp only [Act.put, List.setIfInBounds_toArray, List.set_cons_zero, List.set_cons_succ, i64_w, i32_w]; rfl
            refine off_ (i := 15) (N := (some 37)) #[true, true, true, true, true, true, true, true, true, true, true, true, true, true, true, true, false, false, false, false, false, false, false, false, false, false, false, false] rfl rfl (by kernel_rfl) (fun _ _ _ h => h) (by rfl) (by simp only [Act.put, List.setIfInBounds_toArray, List.set_cons_zero, List.set_cons_succ, i64_w, i32_w]; rfl) ?_
            refine off_ (i := 16) (N := (some 38)) #[true, true, true, true, true, true, true, true, true, true, true, true, true, true, true, true, true, false, false, false, false, false, false, false, false, false, false, false] rfl rfl (by kernel_rfl) (fun _ _ _ h => h) (by rfl) (by simp only [Act.put, List.setIfInBounds_toArray, List.set_cons_zero, List.set_cons_succ, i64_w, i32_w]; rfl) ?_
            refine off_ (i := 17) (N := (some 39)) #[true, true, true, true, true, true, true, true, true, true, true, true, true, true, true, true, true, true, false, false, false, false, false, false, false, false, false, false] rfl rfl (by kernel_rfl) (fun _ _ _ h => h) (by rfl) (by simp only [Act.put, List.setIfInBounds_toArray, List.set_cons_zero, List.set_cons_succ, i64_w, i32_w]; rfl) ?_
            refine off_ (i := 18) (N := (some 40)) #[true, true, true, true, true, true, true, true, true, true, true, true, true, true, true, true, true, true, true, false, false, false, false, false, false, false, false, false] rfl rfl (by kernel_rfl) (fun _ _ _ h => h) (by rfl) (by simp only [Act.put, List.setIfInBounds_toArray, List.set_cons_zero, List.set_cons_succ, i64_w, i32_w]; rfl) ?_
            refine off_ (i := 19) (N := (some 41)) #[true, true, true, true, true, true, true, true, true, true, true, true, true, true, true, true, true, true, true, true, false, false, false, false, false, false, false, false] rfl rfl (by kernel_rfl) (fun _ _ _ h => h) (by rfl) (by simp only [Act.put, List.setIfInBounds_toArray, List.set_cons_zero, List.set_cons_succ, i64_w, i32_w]; rfl) ?_
            refine off_ (i := 20) (N := (some 42)) #[true, true, true, true, true, true, true, true, true, true, true, true, true, true, true, true, true, true, true, true, true, false, false, false, false, false, false, false] rfl rfl (by kernel_rfl) (fun _ _ _ h => h) (by rfl) (by simp only [Act.put, List.setIfInBounds_toArray, List.set_cons_zero, List.set_cons_succ, i64_w, i32_w]; rfl) ?_
            refine off_ (i := 21) (N := (some 43)) #[true, true, true, true, true, true, true, true, true, true, true, true, true, true, true, true, true, true, true, true, true, true, false, false, false, false, false, false] rfl rfl (by kernel_rfl) (fun _ _ _ h => h) (by rfl) (by simp only [Act.put, List.setIfInBounds_toArray, List.set_cons_zero, List.set_cons_succ, i64_w, i32_w]; rfl) ?_
            refine off_ (i := 22) (N := (some 44)) #[true, true, true, true, true, true, true, true, true, true, true, true, true, true, true, true, true, true, true, true, true, true, true, false, false, false, false, false] rfl rfl (by kernel_rfl) (fun _ _ _ h => h) (by rfl) (by simp only [Act.put, List.setIfInBounds_toArray, List.set_cons_zero, List.set_cons_succ, i64_w, i32_w]; rfl) ?_
            refine off_ (i := 23) (N := (some 45)) #[true, true, true, true, true, true, true, true, true, true, true, true, true, true, true, true, true, true, true, true, true, true, true, true, false, false, false, false] rfl rfl (by kernel_rfl) (fun _ _ _ h => h) (by rfl) (by simp only [Act.put, List.setIfInBounds_toArray, List.set_cons_zero, List.set_cons_succ, i64_w, i32_w]; rfl) ?_
            refine off_ (i := 24) (N := (some 46)) #[true, true, true, true, true, true, true, true, true, true, true, true, true, true, true, true, true, true, true, true, true, true, true, true, true, false, false, false] rfl rfl (by kernel_rfl) (fun _ _ _ h => h) (by rfl) (by simp only [Act.put, List.setIfInBounds_toArray, List.set_cons_zero, List.set_cons_succ, i64_w, i32_w]; rfl) ?_
            refine off_ (i := 25) (N := (some 47)) #[true, true, true, true, true, true, true, true, true, true, true, true, true, true, true, true, true, true, true, true, true, true, true, true, true, true, false, false] rfl rfl (by kernel_rfl) (fun _ _ _ h => h) (by rfl) (by simp only [Act.put, List.setIfInBounds_toArray, List.set_cons_zero, List.set_cons_succ, i64_w, i32_w]; rfl) ?_
            refine off_ (i := 26) (N := (some 48)) #[true, true, true, true, true, true, true, true, true, true, true, true, true, true, true, true, true, true, true, true, true, true, true, true, true, true, true, false] rfl rfl (by kernel_rfl) (fun _ _ _ h => h) (by rfl) (by simp only [Act.put, List.setIfInBounds_toArray, List.set_cons_zero, List.set_cons_succ, i64_w, i32_w]; rfl) ?_
            refine pure_ (i := 27) (N := (some 49)) (v := ?_) (a' := ?_) #[true, true, true, true, true, true, true, true, true, true, true, true, true, true, true, true, true, true, true, true, true, true, true, true, true, true, true, true] rfl rfl (by kernel_rfl) (fun _ _ _ h => h) (Or.inl ⟨by rfl, ?_⟩) ?_ ?_
            rotate_left
            · intro w'; go_simp; first | done | with_reducible rfl
            rotate_left
            · simp only [Act.put, List.setIfInBounds_toArray, List.set_cons_zero, List.set_cons_succ, i64_w, i32_w]; rfl
            refine done_ (by kernel_rfl) ?_
            have HBD := Lib.hid HBA.out.drew
            clear q0 q1 HBA HOA h0 h1 hHeld
            generalize wa.drew = wd at HBD ⊢
            go_wp2
            go_ret2
            exact ⟨.inr ⟨HGN.out, rfl⟩, HBD.out⟩
        · have e1 : 100 < max (x k) (y k) := by omega
          clear hgk
          refine start_ (n := 28) (S := fun w' => w'.cell? ⟨G, 0, none⟩ = some (.int .i64 (x k)) ∧ w'.cell? ⟨G, 1, none⟩ = some (.int .i64 (y k))) (ds := []) #[false, false, false, false, false, false, false, false, false, false, false, false, false, false, false, false, false, false, false, false, false, false, false, false, false, false, false, false] (by kernel_rfl) rfl rfl ⟨by simpa using q0, by simpa using q1⟩ (fun hHeld => ?_)
          refine pure_ (i := 0) (N := (some 22)) (v := ?_) (a' := ?_) #[true, false, false, false, false, false, false, false, false, false, false, false, false, false, false, false, false, false, false, false, false, false, false, false, false, false, false, false] rfl rfl (by kernel_rfl) (fun _ _ _ h => h) (Or.inl ⟨by rfl, ?_⟩) ?_ ?_
          rotate_left
          · intro w'; go_simp; first | done | with_reducible rfl
          rotate_left
          · simp only [Act.put, List.setIfInBounds_toArray, List.set_cons_zero, List.set_cons_succ, i64_w, i32_w]; rfl
          refine take_ (i := 1) (N := (some 23)) (v := ?_) (a' := ?_) #[true, true, false, false, false, false, false, false, false, false, false, false, false, false, false, false, false, false, false, false, false, false, false, false, false, false, false, false] rfl rfl (by kernel_rfl) (fun _ _ _ h => h) (Or.inl ⟨by rfl, ?_⟩) hHeld ?_ ?_
          rotate_left
          · rintro w' ⟨s0, s1⟩; go_simp; first | done | with_reducible rfl
          rotate_left
          · simp only [Act.put, List.setIfInBounds_toArray, List.set_cons_zero, List.set_cons_succ, i64_w, i32_w]; rfl
          refine pure_ (i := 2) (N := (some 24)) (v := ?_) (a' := ?_) #[true, true, true, false, false, false, false, false, false, false, false, false, false, false, false, false, false, false, false, false, false, false, false, false, false, false, false, false] rfl rfl (by kernel_rfl) (fun _ _ _ h => h) (Or.inl ⟨by rfl, ?_⟩) ?_ ?_
          rotate_left
          · intro w'; go_simp; first | done | with_reducible rfl
          rotate_left
          · simp only [Act.put, List.setIfInBounds_toArray, List.set_cons_zero, List.set_cons_succ, i64_w, i32_w]; rfl
          refine take_ (i := 3) (N := (some 25)) (v := ?_) (a' := ?_) #[true, true, true, true, false, false, false, false, false, false, false, false, false, false, false, false, false, false, false, false, false, false, false, false, false, false, false, false] rfl rfl (by kernel_rfl) (fun _ _ _ h => h) (Or.inl ⟨by rfl, ?_⟩) hHeld ?_ ?_
          rotate_left
          · rintro w' ⟨s0, s1⟩; go_simp; first | done | with_reducible rfl
          rotate_left
          · simp only [Act.put, List.setIfInBounds_toArray, List.set_cons_zero, List.set_cons_succ, i64_w, i32_w]; rfl
          refine pure_ (i := 4) (N := (some 26)) (v := ?_) (a' := ?_) #[true, true, true, true, true, false, false, false, false, false, false, false, false, false, false, false, false, false, false, false, false, false, false, false, false, false, false, false] rfl rfl (by kernel_rfl) (fun _ _ _ h => h) (Or.inl ⟨by rfl, ?_⟩) ?_ ?_
          rotate_left
          · intro w'; go_simp; first | done | with_reducible rfl
          rotate_left
          · simp only [Act.put, List.setIfInBounds_toArray, List.set_cons_zero, List.set_cons_succ, i64_w, i32_w]; rfl
          refine pure_ (i := 5) (N := (some 27)) (v := (.bool true)) (a' := ?_) #[true, true, true, true, true, true, false, false, false, false, false, false, false, false, false, false, false, false, false, false, false, false, false, false, false, false, false, false] rfl rfl (by kernel_rfl) (fun _ _ _ h => h) (Or.inl ⟨by rfl, ?_⟩) ?_ ?_
          · intro w'; go_simp; first | done | with_reducible rfl
          rotate_left
          · simp only [Act.put, List.setIfInBounds_toArray, List.set_cons_zero, List.set_cons_succ, i64_w, i32_w]; rfl
          refine pure_ (i := 6) (N := (some 28)) (v := ?_) (a' := ?_) #[true, true, true, true, true, true, true, false, false, false, false, false, false, false, false, false, false, false, false, false, false, false, false, false, false, false, false, false] rfl rfl (by kernel_rfl) (fun _ _ _ h => h) (Or.inl ⟨by rfl, ?_⟩) ?_ ?_
          rotate_left
          · intro w'; go_simp; first | done | with_reducible rfl
          rotate_left
          · simp only [Act.put, List.setIfInBounds_toArray, List.set_cons_zero, List.set_cons_succ, i64_w, i32_w]; rfl
          refine off_ (i := 7) (N := (some 29)) #[true, true, true, true, true, true, true, true, false, false, false, false, false, false, false, false, false, false, false, false, false, false, false, false, false, false, false, false] rfl rfl (by kernel_rfl) (fun _ _ _ h => h) (by rfl) (by simp only [Act.put, List.setIfInBounds_toArray, List.set_cons_zero, List.set_cons_succ, i64_w, i32_w]; rfl) ?_
          refine off_ (i := 8) (N := (some 30)) #[true, true, true, true, true, true, true, true, true, false, false, false, false, false, false, false, false, false, false, false, false, false, false, false, false, false, false, false] rfl rfl (by kernel_rfl) (fun _ _ _ h => h) (by rfl) (by simp only [Act.put, List.setIfInBounds_toArray, List.set_cons_zero, List.set_cons_succ, i64_w, i32_w]; rfl) ?_
          refine off_ (i := 9) (N := (some 31)) #[true, true, true, true, true, true, true, true, true, true, false, false, false, false, false, false, false, false, false, false, false, false, false, false, false, false, false, false] rfl rfl (by kernel_rfl) (fun _ _ _ h => h) (by rfl) (by simp only [Act.put, List.setIfInBounds_toArray, List.set_cons_zero, List.set_cons_succ, i64_w, i32_w]; rfl) ?_
          refine off_ (i := 10) (N := (some 32)) #[true, true, true, true, true, true, true, true, true, true, true, false, false, false, false, false, false, false, false, false, false, false, false, false, false, false, false, false] rfl rfl (by kernel_rfl) (fun _ _ _ h => h) (by rfl) (by simp only [Act.put, List.setIfInBounds_toArray, List.set_cons_zero, List.set_cons_succ, i64_w, i32_w]; rfl) ?_
          refine off_ (i := 11) (N := (some 33)) #[true, true, true, true, true, true, true, true, true, true, true, true, false, false, false, false, false, false, false, false, false, false, false, false, false, false, false, false] rfl rfl (by kernel_rfl) (fun _ _ _ h => h) (by rfl) (by simp only [Act.put, List.setIfInBounds_toArray, List.set_cons_zero, List.set_cons_succ, i64_w, i32_w]; rfl) ?_
          refine off_ (i := 12) (N := (some 34)) #[true, true, true, true, true, true, true, true, true, true, true, true, true, false, false, false, false, false, false, false, false, false, false, false, false, false, false, false] rfl rfl (by kernel_rfl) (fun _ _ _ h => h) (by rfl) (by simp only [Act.put, List.setIfInBounds_toArray, List.set_cons_zero, List.set_cons_succ, i64_w, i32_w]; rfl) ?_
          refine pure_ (i := 13) (N := (some 35)) (v := ?_) (a' := ?_) #[true, true, true, true, true, true, true, true, true, true, true, true, true, true, false, false, false, false, false, false, false, false, false, false, false, false, false, false] rfl rfl (by kernel_rfl) (fun _ _ _ h => h) (Or.inl ⟨by rfl, ?_⟩) ?_ ?_
          rotate_left
          · intro w'; go_simp; first | done | with_reducible rfl
          rotate_left
          · simp only [Act.put, List.setIfInBounds_toArray, List.set_cons_zero, List.set_cons_succ, i64_w, i32_w]; rfl
          refine pure_ (i := 14) (N := (some 36)) (v := ?_) (a' := ?_) #[true, true, true, true, true, true, true, true, true, true, true, true, true, true, true, false, false, false, false, false, false, false, false, false, false, false, false, false] rfl rfl (by kernel_rfl) (fun _ _ _ h => h) (Or.inl ⟨by rfl, ?_⟩) ?_ ?_
          rotate_left
          · intro w'; go_simp; first | done | with_reducible rfl
          rotate_left
          · simp only [Act.put, List.setIfInBounds_toArray, List.set_cons_zero, List.set_cons_succ, i64_w, i32_w]; rfl
          refine off_ (i := 15) (N := (some 37)) #[true, true, true, true, true, true, true, true, true, true, true, true, true, true, true, true, false, false, false, false, false, false, false, false, false, false, false, false] rfl rfl (by kernel_rfl) (fun _ _ _ h => h) (by rfl) (by simp only [Act.put, List.setIfInBounds_toArray, List.set_cons_zero, List.set_cons_succ, i64_w, i32_w]; rfl) ?_
          refine off_ (i := 16) (N := (some 38)) #[true, true, true, true, true, true, true, true, true, true, true, true, true, true, true, true, true, false, false, false, false, false, false, false, false, false, false, false] rfl rfl (by kernel_rfl) (fun _ _ _ h => h) (by rfl) (by simp only [Act.put, List.setIfInBounds_toArray, List.set_cons_zero, List.set_cons_succ, i64_w, i32_w]; rfl) ?_
          refine off_ (i := 17) (N := (some 39)) #[true, true, true, true, true, true, true, true, true, true, true, true, true, true, true, true, true, true, false, false, false, false, false, false, false, false, false, false] rfl rfl (by kernel_rfl) (fun _ _ _ h => h) (by rfl) (by simp only [Act.put, List.setIfInBounds_toArray, List.set_cons_zero, List.set_cons_succ, i64_w, i32_w]; rfl) ?_
          refine off_ (i := 18) (N := (some 40)) #[true, true, true, true, true, true, true, true, true, true, true, true, true, true, true, true, true, true, true, false, false, false, false, false, false, false, false, false] rfl rfl (by kernel_rfl) (fun _ _ _ h => h) (by rfl) (by simp only [Act.put, List.setIfInBounds_toArray, List.set_cons_zero, List.set_cons_succ, i64_w, i32_w]; rfl) ?_
          refine off_ (i := 19) (N := (some 41)) #[true, true, true, true, true, true, true, true, true, true, true, true, true, true, true, true, true, true, true, true, false, false, false, false, false, false, false, false] rfl rfl (by kernel_rfl) (fun _ _ _ h => h) (by rfl) (by simp only [Act.put, List.setIfInBounds_toArray, List.set_cons_zero, List.set_cons_succ, i64_w, i32_w]; rfl) ?_
          refine off_ (i := 20) (N := (some 42)) #[true, true, true, true, true, true, true, true, true, true, true, true, true, true, true, true, true, true, true, true, true, false, false, false, false, false, false, false] rfl rfl (by kernel_rfl) (fun _ _ _ h => h) (by rfl) (by simp only [Act.put, List.setIfInBounds_toArray, List.set_cons_zero, List.set_cons_succ, i64_w, i32_w]; rfl) ?_
          refine off_ (i := 21) (N := (some 43)) #[true, true, true, true, true, true, true, true, true, true, true, true, true, true, true, true, true, true, true, true, true, true, false, false, false, false, false, false] rfl rfl (by kernel_rfl) (fun _ _ _ h => h) (by rfl) (by simp only [Act.put, List.setIfInBounds_toArray, List.set_cons_zero, List.set_cons_succ, i64_w, i32_w]; rfl) ?_
          refine off_ (i := 22) (N := (some 44)) #[true, true, true, true, true, true, true, true, true, true, true, true, true, true, true, true, true, true, true, true, true, true, true, false, false, false, false, false] rfl rfl (by kernel_rfl) (fun _ _ _ h => h) (by rfl) (by simp only [Act.put, List.setIfInBounds_toArray, List.set_cons_zero, List.set_cons_succ, i64_w, i32_w]; rfl) ?_
          refine off_ (i := 23) (N := (some 45)) #[true, true, true, true, true, true, true, true, true, true, true, true, true, true, true, true, true, true, true, true, true, true, true, true, false, false, false, false] rfl rfl (by kernel_rfl) (fun _ _ _ h => h) (by rfl) (by simp only [Act.put, List.setIfInBounds_toArray, List.set_cons_zero, List.set_cons_succ, i64_w, i32_w]; rfl) ?_
          refine off_ (i := 24) (N := (some 46)) #[true, true, true, true, true, true, true, true, true, true, true, true, true, true, true, true, true, true, true, true, true, true, true, true, true, false, false, false] rfl rfl (by kernel_rfl) (fun _ _ _ h => h) (by rfl) (by simp only [Act.put, List.setIfInBounds_toArray, List.set_cons_zero, List.set_cons_succ, i64_w, i32_w]; rfl) ?_
          refine off_ (i := 25) (N := (some 47)) #[true, true, true, true, true, true, true, true, true, true, true, true, true, true, true, true, true, true, true, true, true, true, true, true, true, true, false, false] rfl rfl (by kernel_rfl) (fun _ _ _ h => h) (by rfl) (by simp only [Act.put, List.setIfInBounds_toArray, List.set_cons_zero, List.set_cons_succ, i64_w, i32_w]; rfl) ?_
          refine off_ (i := 26) (N := (some 48)) #[true, true, true, true, true, true, true, true, true, true, true, true, true, true, true, true, true, true, true, true, true, true, true, true, true, true, true, false] rfl rfl (by kernel_rfl) (fun _ _ _ h => h) (by rfl) (by simp only [Act.put, List.setIfInBounds_toArray, List.set_cons_zero, List.set_cons_succ, i64_w, i32_w]; rfl) ?_
          refine pure_ (i := 27) (N := (some 49)) (v := ?_) (a' := ?_) #[true, true, true, true, true, true, true, true, true, true, true, true, true, true, true, true, true, true, true, true, true, true, true, true, true, true, true, true] rfl rfl (by kernel_rfl) (fun _ _ _ h => h) (Or.inl ⟨by rfl, ?_⟩) ?_ ?_
          rotate_left
          · intro w'; go_simp; first | done | with_reducible rfl
          rotate_left
          · simp only [Act.put, List.setIfInBounds_toArray, List.set_cons_zero, List.set_cons_succ, i64_w, i32_w]; rfl
          refine done_ (by kernel_rfl) ?_
          have HBD := Lib.hid HBA.out.drew
          clear q0 q1 HBA HOA h0 h1 hHeld
          generalize wa.drew = wd at HBD ⊢
          go_wp2
          go_ret2
          exact ⟨.inr ⟨HGN.out, rfl⟩, HBD.out⟩
    · obtain rfl : k = n := by omega
      go_wp2
      go_ret2
      exact ⟨.inl ⟨HG.out, _, rfl, HO.out⟩, HB.out⟩
end Go.Proofs.YtpfenoioeajkmaaDoor.X
end

section
set_option linter.unusedVariables false
set_option linter.unusedSimpArgs false
namespace Go.Proofs.YtpfenoioeajkmaaDoor.X
open Go.RowKit Go.Proofs.YtpfenoioeajkmaaDoorW.PrintWords Go.Proofs.YtpfenoioeajkmaaDoorW.PrintLast Go.Proofs.YtpfenoioeajkmaaDoorW.PrintMore
def Sl (w : World) (A : Option Addr) (n c : Nat) (x y : Nat → Int) : Prop := (A = none ∧ n = 0 ∧ c = 0) ∨ (∃ b off, A = some ⟨b, off, none⟩ ∧ n ≤ c ∧ Pts w b off n x y) ∨ ∃ ad, A = some ad ∧ n = 0
theorem Sl.later {w w' : World} {A : Option Addr} {n c : Nat} {x y : Nat → Int} (h : Sl w A n c x y) (hb : Below w.heap.size w w') : Sl w' A n c x y := by
  rcases h with h | ⟨b, off, h1, h2, h3⟩ | h
  · exact .inl h
  · exact .inr (.inl ⟨b, off, h1, h2, h3.later hb⟩)
  · exact .inr (.inr h)
theorem Sl.of_own {w : World} {base e n : Nat} {v : Value} {x y : Nat → Int} (h : w.ownsRow base e 2 v n (flat x y n)) : ∃ A c, v = .slice A n c ∧ Sl w A n c x y := by
  rcases own_pts h with ⟨rfl, rfl⟩ | ⟨g, cap, rfl, _, _, hn, hp⟩
  · exact ⟨none, 0, rfl, .inl ⟨rfl, rfl, rfl⟩⟩
  · exact ⟨_, cap, rfl, .inr (.inl ⟨g, 0, rfl, hn, hp⟩)⟩
theorem info29 : (Tryd.prog.info? 29).map (fun i => (i.zero, i.size, i.bytes)) = some (some (.agg #[.int .i64 0, .int .i64 0]), 2, 16) := by kernel_rfl
theorem flat_cells {w : World} {b off : Nat} {x y : Nat → Int} : ∀ n, Pts w b off n x y → ∀ j u, (flat x y n)[j]? = some u → w.cell? ⟨b, off + j, none⟩ = some u
  | 0, _, j, u, h => by simp [flat] at h
  | n + 1, hp, j, u, h => by
    have hl := flat_length x y n
    rw [flat] at h
    by_cases hj : j < n * 2
    · rw [List.getElem?_append_left (by omega)] at h
      exact flat_cells n (hp.less (by omega)) j u h
    · rw [List.getElem?_append_right (by omega), hl] at h
      have hj2 : j = n * 2 ∨ j = n * 2 + 1 := by
        have := (List.getElem?_eq_some_iff.1 h).1
        simp at this
        omega
      rcases hj2 with rfl | rfl
      · simp at h
        rw [← h]
        exact hp.c0 n (by omega)
      · rw [show n * 2 + 1 - n * 2 = 1 by omega] at h
        simp at h
        rw [← h, ← Nat.add_assoc]
        exact hp.c1 n (by omega)
theorem flat_one {x y : Nat → Int} : ∀ n u, u ∈ flat x y n → u.oneCell' = true
  | 0, u, h => by simp [flat] at h
  | n + 1, u, h => by
    rw [flat, List.mem_append] at h
    rcases h with h | h
    · exact flat_one n u h
    · simp at h
      rcases h with rfl | rfl <;> rfl
theorem own_lit (w : World) (t : TypeId) : (w.alloc (.cells #[] t)).ownsRow w.heap.size t 2 (.slice (some ⟨w.heap.size, 0, none⟩) 0 0) 0 [] :=
  ⟨rfl, .inr ⟨w.heap.size, 0, #[], rfl, Nat.le_refl _, blk_new w _, Nat.le_refl _, Nat.zero_le _, rfl, rfl⟩⟩
set_option maxHeartbeats 2000000 in
set_option maxRecDepth 100000 in
theorem Clone_zero (ad : Addr) (c : Nat) (w : World) : Calls Tryd.prog 64 #[.slice (some ad) 0 c] w fun e w' => ∃ v, e = .returned v ∧ w'.ownsRow w.heap.size 29 2 v 0 [] ∧ Below w.heap.size w w' := by
  have hx := fun w : World => Lib.run_eql_slice_nil (P := Tryd.prog) w 45 29 (some ad) 0 c 0 0 Tryd.underlying45
  obtain ⟨i0, hi0, hz0, hz1, hz2⟩ := info_parts info29
  have HI := Lib.hid hi0
  have HZ := Lib.hid (And.intro hz0 (And.intro hz1 hz2))
  clear hi0 hz0 hz1 hz2
  go_enter Tryd.func64, Tryd.ntmps64
  go_wp2_with (first | (at_builtin; refine wpList_append_own_at _ rfl (.tmp 5) (.tmp 6) 45 rfl w.heap.size 29 i0 _ 2 16 Tryd.underlying45 HI.out HZ.out.1 HZ.out.2.1 HZ.out.2.2 rfl (by decide) (.slice (some ⟨w.heap.size, 0, none⟩) 0 0) 0 [] rfl (own_lit w 29) ad 0 c [] rfl rfl (by simp) (by simp) (by decide) (by decide) (by simp) ?_; intro v1 w1 hown1 hgrow1 _ _; have HO := Lib.hid hown1; have HB := Lib.hid (own_grow (below_one (w := w) (.cells #[] 29)) (own_lit w 29) hgrow1); clear hown1 hgrow1) | go_in)
  go_ret
  exact ⟨_, rfl, HO.out, HB.out⟩
def mnN (a b : Nat) : Nat := if a ≤ b then a else b
set_option maxHeartbeats 2000000 in
set_option maxRecDepth 100000 in
theorem list_calls (A : Option Addr) (n c : Nat) (x y : Nat → Int) (w : World) (hA : Sl w A n c x y) (hc : c ≤ 9223372036854775807) :
    Calls Tryd.prog 41 #[.slice A n c] w fun e w' => (∃ A' c', e = .returned (.slice A' (mnN n 33) c') ∧ Sl w' A' (mnN n 33) c' x y) ∧ Below w.heap.size w w' := by
  rcases hA with ⟨rfl, rfl, rfl⟩ | ⟨b, off, rfl, hnc, hP⟩ | ⟨ad, rfl, rfl⟩
  · go_enter Tryd.func41, Tryd.ntmps41
    go_wp2_with fail
    refine (Tryd.slices_Clone_nil _ _ _).mono ?_
    rintro e w1 ⟨rfl, rfl⟩
    go_wp2
    go_ret
    exact ⟨⟨none, 0, rfl, .inl ⟨rfl, rfl, rfl⟩⟩, Below.refl _ _⟩
  · have hm : min (n : Int) 33 = (mnN n 33 : Nat) := by unfold mnN; split <;> omega
    have hmn : mnN n 33 ≤ n ∧ mnN n 33 ≤ 33 := by unfold mnN; split <;> omega
    have HP := Lib.hid (hP.less hmn.1)
    clear hP
    generalize mnN n 33 = m at hm hmn HP ⊢
    have hmc : m ≤ c := by omega
    obtain ⟨i0, hi0, hz0, hz1, hz2⟩ := info_parts info29
    have HC := Lib.hid (Tryd.slices_Clone i0 _ 2 16 hi0 hz0 hz1 hz2 rfl (by decide) (fun w => Tryd.sizeOf29 w) b off m c (flat x y m) w (flat_length x y m) (by unfold maxLen; omega) (by omega) (flat_cells m HP.out) (flat_one m))
    clear hi0 hz0 hz1 hz2
    go_enter Tryd.func41, Tryd.ntmps41
    go_wp2_with fail
    refine HC.out.mono ?_
    rintro e w1 ⟨v, rfl, hown, _, hb⟩
    have HO := Lib.hid (Sl.of_own hown)
    have HB := Lib.hid hb
    clear hown hb
    go_wp2
    go_ret
    obtain ⟨A', c', hv, hS⟩ := HO.out
    exact ⟨⟨A', c', by rw [hv]; rfl, hS⟩, HB.out⟩
  · have hm : min (0 : Int) 33 = 0 := by omega
    have HC := Lib.hid (fun c w => Clone_zero ad c w)
    go_enter Tryd.func41, Tryd.ntmps41
    go_wp2_with fail
    refine (HC.out _ _).mono ?_
    rintro e w1 ⟨v, rfl, hown, hb⟩
    have HO := Lib.hid (Sl.of_own (x := x) (y := y) (n := 0) hown)
    have HB := Lib.hid hb
    clear hown hb
    go_wp2
    go_ret
    obtain ⟨A', c', hv, hS⟩ := HO.out
    exact ⟨⟨A', c', by rw [hv]; rfl, hS⟩, HB.out⟩
set_option maxHeartbeats 2000000 in
set_option maxRecDepth 100000 in
theorem read_out (A : Option Addr) (n c : Nat) (w : World) (hn : n < 1 ∨ 30 < n) (hn63 : n ≤ 9223372036854775807) :
    Calls Tryd.prog 62 #[.slice A n c] w fun e w' => e = .returned (.tuple #[.slice none 0 0, .bool false]) ∧ Below w.heap.size w w' := by
  rcases hn with h | h
  · have h1 : (n : Int) < 1 := by omega
    go_enter Tryd.func62, Tryd.ntmps62
    go_wp2
    go_ret2
    exact ⟨rfl, Below.refl _ _⟩
  · have h1 : ¬ (n : Int) < 1 := by omega
    have h2 : (n : Int) > 30 := by omega
    go_enter Tryd.func62, Tryd.ntmps62
    go_wp2
    go_ret2
    exact ⟨rfl, Below.refl _ _⟩
def goodL (x y : Nat → Int) (n : Nat) : Bool := (decide (1 ≤ n) && decide (n ≤ 30)) && goodTo x y n
theorem read_all (A : Option Addr) (n c : Nat) (x y : Nat → Int) (w : World) (hA : Sl w A n c x y) (hn : n ≤ 9223372036854775807) :
    Calls Tryd.prog 62 #[.slice A n c] w fun e w' => ((goodL x y n = true ∧ ∃ A' c', e = .returned (.tuple #[.slice A' n c', .bool true]) ∧ Sl w' A' n c' x y) ∨ (goodL x y n = false ∧ e = .returned (.tuple #[.slice none 0 0, .bool false]))) ∧ Below w.heap.size w w' := by
  by_cases h : 1 ≤ n ∧ n ≤ 30
  · refine (read_any A n c x y w (fun h0 => ?_) h).mono ?_
    · rcases hA with ⟨_, h2, _⟩ | ⟨b, off, h1, _, h3⟩ | ⟨_, _, h2⟩
      · omega
      · exact ⟨b, off, h1, h3⟩
      · omega
    · rintro e w1 ⟨⟨h1, v, rfl, ho⟩ | ⟨h1, rfl⟩, hb⟩
      · obtain ⟨A', c', rfl, hS⟩ := Sl.of_own ho
        exact ⟨.inl ⟨by unfold goodL; rw [h1, decide_eq_true h.1, decide_eq_true h.2]; rfl, A', c', rfl, hS⟩, hb⟩
      · exact ⟨.inr ⟨by unfold goodL; rw [h1, Bool.and_false], rfl⟩, hb⟩
  · refine (read_out A n c w (by omega) hn).mono ?_
    rintro e w1 ⟨rfl, hb⟩
    refine ⟨.inr ⟨?_, rfl⟩, hb⟩
    unfold goodL
    by_cases h1 : 1 ≤ n
    · rw [decide_eq_false (show ¬ n ≤ 30 by omega), Bool.and_false, Bool.false_and]
    · rw [decide_eq_false h1]; rfl
end Go.Proofs.YtpfenoioeajkmaaDoor.X
end

section
set_option linter.unusedVariables false
set_option linter.unusedSimpArgs false
namespace Go.Proofs.YtpfenoioeajkmaaDoor.X
open Go.RowKit Go.Proofs.YtpfenoioeajkmaaDoorW.PrintWords Go.Proofs.YtpfenoioeajkmaaDoorW.PrintLast Go.Proofs.YtpfenoioeajkmaaDoorW.PrintMore
theorem goodL_at {x y : Nat → Int} {n : Nat} (h : goodL x y n = true) : (1 ≤ n ∧ n ≤ 30) ∧ ∀ i, i < n → -100 ≤ x i ∧ x i ≤ 100 ∧ -100 ≤ y i ∧ y i ≤ 100 := by
  unfold goodL at h
  rw [Bool.and_eq_true, Bool.and_eq_true, decide_eq_true_eq, decide_eq_true_eq] at h
  exact ⟨h.1, fun i hi => (goodTo_at h.2 hi).1⟩
theorem two_cells (w : World) (t : TypeId) (u v : Value) : (w.alloc (.cells #[u, v] t)).cell? ⟨w.heap.size, 0, none⟩ = some u ∧ (w.alloc (.cells #[u, v] t)).cell? ⟨w.heap.size, 1, none⟩ = some v := by constructor <;> simp
end Go.Proofs.YtpfenoioeajkmaaDoor.X
end

section
set_option linter.unusedVariables false
set_option linter.unusedSimpArgs false
namespace Go.Proofs.YtpfenoioeajkmaaDoor.X
open Go.RowKit Go.Proofs.YtpfenoioeajkmaaDoorW.PrintWords Go.Proofs.YtpfenoioeajkmaaDoorW.PrintLast Go.Proofs.YtpfenoioeajkmaaDoorW.PrintMore
theorem cmpP_iff (a b c d : Int) : cmpP a b c d < 0 ↔ a < c ∨ (a = c ∧ b < d) := by
  unfold cmpP cmpI
  by_cases h1 : a < c
  · simp [h1]
  · by_cases h2 : a > c
    · simp [h1, h2]
      omega
    · have : a = c := by omega
      subst this
      simp
      by_cases h3 : b < d
      · simp [h3]
      · by_cases h4 : d < b
        · simp [h3, h4]
        · simp [h3, h4]
end Go.Proofs.YtpfenoioeajkmaaDoor.X
end

section
set_option linter.unusedVariables false
set_option linter.unusedSimpArgs false
namespace Go.Proofs.YtpfenoioeajkmaaDoor.X
open Go.RowKit Go.Proofs.YtpfenoioeajkmaaDoorW.PrintWords Go.Proofs.YtpfenoioeajkmaaDoorW.PrintLast Go.Proofs.YtpfenoioeajkmaaDoorW.PrintMore Go.Proofs.YtpfenoioeajkmaaDoor.L
def rcb (X Y x y c : Int) : Int := if x < X ∧ c = 117 ∧ Y = y then 1 else if x < X ∧ c = 100 ∧ Y = y + 1 then -1 else 0
def cntTo (s : ByteArray) (x y : Int) : Nat → Int
  | 0 => 0
  | k + 1 => cntTo s x y k + rcb (sumx s k) (rsumy s k) x y (bt s k)
def flatP : List (Int × Int) → List Value
  | [] => []
  | p :: l => [.int .i64 p.1, .int .i64 p.2] ++ flatP l
theorem flatP_app : ∀ (l m : List (Int × Int)), flatP (l ++ m) = flatP l ++ flatP m
  | [], m => rfl
  | p :: l, m => by rw [List.cons_append, flatP, flatP, flatP_app l m, List.append_assoc]
theorem flatP_one (x y : Int) : flatP [(x, y)] = [.int .i64 x, .int .i64 y] := List.append_nil _
def colTo (s : ByteArray) (x : Int) : Nat → List (Int × Int)
  | 0 => []
  | m + 1 => colTo s x m ++ if cntTo s x ((m : Int) - 24) s.size = 1 then [(x, (m : Int) - 24)] else []
def cellsTo (s : ByteArray) : Nat → List (Int × Int)
  | 0 => []
  | m + 1 => cellsTo s m ++ colTo s ((m : Int) - 24) 49
def OwnP (B : Nat) (e : TypeId) (w : World) (v : Value) (l : List (Int × Int)) : Prop := w.ownsRow B e 2 v l.length (flatP l)
end Go.Proofs.YtpfenoioeajkmaaDoor.X
end

section
set_option linter.unusedVariables false
set_option linter.unusedSimpArgs false
namespace Go.Proofs.YtpfenoioeajkmaaDoor.X
open Go.RowKit Go.Proofs.YtpfenoioeajkmaaDoorW.PrintWords Go.Proofs.YtpfenoioeajkmaaDoorW.PrintLast Go.Proofs.YtpfenoioeajkmaaDoorW.PrintMore Go.Proofs.YtpfenoioeajkmaaDoor.L
def pX (l : List (Int × Int)) (i : Nat) : Int := (l.getD i (0, 0)).1
def pY (l : List (Int × Int)) (i : Nat) : Int := (l.getD i (0, 0)).2
theorem flat_take (l : List (Int × Int)) : ∀ k, k ≤ l.length → flat (pX l) (pY l) k = flatP (l.take k)
  | 0, _ => rfl
  | k + 1, h => by
    have hk : k < l.length := by omega
    rw [flat, flat_take l k (by omega), List.take_succ_eq_append_getElem hk, flatP_app]
    congr 1
    show [Value.int .i64 (pX l k), Value.int .i64 (pY l k)] = [.int .i64 l[k].1, .int .i64 l[k].2] ++ []
    unfold pX pY
    rw [List.getD_eq_getElem?_getD, List.getElem?_eq_getElem hk]
    rfl
theorem flat_list (l : List (Int × Int)) : flat (pX l) (pY l) l.length = flatP l := by
  rw [flat_take l _ (Nat.le_refl _), List.take_length]
theorem sl_list {B e : Nat} {w : World} {v : Value} {l : List (Int × Int)} (h : OwnP B e w v l) : ∃ A c, v = .slice A l.length c ∧ Sl w A l.length c (pX l) (pY l) := by
  unfold OwnP at h
  rw [← flat_list] at h
  exact Sl.of_own h
end Go.Proofs.YtpfenoioeajkmaaDoor.X
end

section
set_option linter.unusedVariables false
set_option linter.unusedSimpArgs false
namespace Go.Proofs.YtpfenoioeajkmaaDoor.G
def S (n : Nat) (f : Nat → Int) : Int := match n with
  | 0 => 0
  | n + 1 => S n f + f n
theorem S_succ (n : Nat) (f : Nat → Int) : S (n + 1) f = S n f + f n := rfl
theorem S_congr {n : Nat} {f g : Nat → Int} (h : ∀ i, i < n → f i = g i) : S n f = S n g := by
  induction n with
  | zero => rfl
  | succ n ih => rw [S_succ, S_succ, ih fun i hi => h i (by omega), h n (by omega)]
theorem S_add (n : Nat) (f g : Nat → Int) : S n (fun i => f i + g i) = S n f + S n g := by
  induction n with
  | zero => rfl
  | succ n ih => rw [S_succ, S_succ, S_succ, ih]; omega
theorem S_sub (n : Nat) (f g : Nat → Int) : S n (fun i => f i - g i) = S n f - S n g := by
  induction n with
  | zero => rfl
  | succ n ih => rw [S_succ, S_succ, S_succ, ih]; omega
theorem S_neg (n : Nat) (f : Nat → Int) : S n (fun i => -f i) = -S n f := by
  induction n with
  | zero => rfl
  | succ n ih => rw [S_succ, S_succ, ih]; omega
theorem S_mul (n : Nat) (c : Int) (f : Nat → Int) : S n (fun i => c * f i) = c * S n f := by
  induction n with
  | zero => exact (Int.mul_zero c).symm
  | succ n ih => rw [S_succ, S_succ, ih, Int.mul_add]
theorem S_zero {n : Nat} {f : Nat → Int} (h : ∀ i, i < n → f i = 0) : S n f = 0 := by
  induction n with
  | zero => rfl
  | succ n ih => rw [S_succ, ih fun i hi => h i (by omega), h n (by omega)]; rfl
theorem S_const (n : Nat) (c : Int) : S n (fun _ => c) = n * c := by
  induction n with
  | zero => exact (Int.zero_mul c).symm
  | succ n ih => rw [S_succ, ih, Int.natCast_succ, Int.add_mul, Int.one_mul]
theorem S_swap (n m : Nat) (f : Nat → Nat → Int) : S n (fun i => S m (fun j => f i j)) = S m (fun j => S n (fun i => f i j)) := by
  induction n with
  | zero => exact (S_zero fun _ _ => rfl).symm
  | succ n ih => rw [S_succ, ih, ← S_add]; rfl
theorem S_tel (n : Nat) (f : Nat → Int) : S n (fun i => f (i + 1) - f i) = f n - f 0 := by
  induction n with
  | zero => exact (Int.sub_self _).symm
  | succ n ih => rw [S_succ, ih]; omega
theorem S_one {n k : Nat} {f : Nat → Int} (hk : k < n) (h : ∀ i, i < n → i ≠ k → f i = 0) : S n f = f k := by
  induction n with
  | zero => omega
  | succ n ih =>
    rw [S_succ]
    by_cases e : k = n
    · subst e
      rw [S_zero fun i hi => h i (by omega) (by omega)]
      omega
    · rw [ih (by omega) fun i hi hne => h i (by omega) hne, h n (by omega) (by omega)]
      omega
theorem S_le {n : Nat} {f g : Nat → Int} (h : ∀ i, i < n → f i ≤ g i) : S n f ≤ S n g := by
  induction n with
  | zero => exact Int.le_refl _
  | succ n ih => rw [S_succ, S_succ]; have := ih fun i hi => h i (by omega); have := h n (by omega); omega
theorem S_head (n : Nat) (f : Nat → Int) : S (n + 1) f = f 0 + S n (fun i => f (i + 1)) := by
  induction n with
  | zero => rw [S_succ]; show 0 + f 0 = f 0 + 0; omega
  | succ n ih => rw [S_succ, ih, S_succ]; omega
theorem S_split (n m : Nat) (f : Nat → Int) : S (n + m) f = S n f + S m (fun i => f (n + i)) := by
  induction m with
  | zero => show S n f = S n f + 0; omega
  | succ m ih => rw [← Nat.add_assoc, S_succ, S_succ, ih]; omega
theorem S_pos {n : Nat} {f : Nat → Int} (h : 0 < S n f) : ∃ i, i < n ∧ 0 < f i := by
  refine Classical.byContradiction fun q => ?_
  have h2 : S n f ≤ S n (fun _ => 0) := S_le fun i hi => by
    have : ¬ 0 < f i := fun p => q ⟨i, hi, p⟩
    omega
  rw [S_zero (f := fun _ => 0) fun _ _ => rfl] at h2
  omega
def Z (K : Nat) (f : Int → Int) : Int := S (2 * K) fun i => f ((i : Int) - K)
theorem Z_congr {K : Nat} {f g : Int → Int} (h : ∀ x, -(K : Int) ≤ x → x < K → f x = g x) : Z K f = Z K g := S_congr fun i hi => h _ (by omega) (by omega)
theorem Z_sub (K : Nat) (f g : Int → Int) : Z K (fun x => f x - g x) = Z K f - Z K g := S_sub _ _ _
theorem Z_mul (K : Nat) (c : Int) (f : Int → Int) : Z K (fun x => c * f x) = c * Z K f := S_mul _ _ _
theorem Z_zero {K : Nat} {f : Int → Int} (h : ∀ x, -(K : Int) ≤ x → x < K → f x = 0) : Z K f = 0 := S_zero fun i hi => h _ (by omega) (by omega)
theorem Z_S (K n : Nat) (f : Int → Nat → Int) : Z K (fun x => S n (fun i => f x i)) = S n (fun i => Z K (fun x => f x i)) := S_swap _ _ _
theorem Z_one {K : Nat} {a : Int} {f : Int → Int} (h1 : -(K : Int) ≤ a) (h2 : a < K) (h : ∀ x, x ≠ a → f x = 0) : Z K f = f a := by
  unfold Z
  rw [S_one (k := (a + K).toNat) (by omega) fun i hi hne => h _ (by omega)]
  congr 1
  omega
theorem Z_le {K : Nat} {f g : Int → Int} (h : ∀ x, -(K : Int) ≤ x → x < K → f x ≤ g x) : Z K f ≤ Z K g := S_le fun i hi => h _ (by omega) (by omega)
theorem Z_pos {K : Nat} {f : Int → Int} (h : 0 < Z K f) : ∃ x, -(K : Int) ≤ x ∧ x < K ∧ 0 < f x := by
  obtain ⟨i, hi, hp⟩ := S_pos h
  exact ⟨_, by omega, by omega, hp⟩
theorem Z_count {K : Nat} {a : Int} (h1 : -(K : Int) ≤ a) (h2 : a ≤ K) : Z K (fun x => if x < a then 1 else 0) = a + K := by
  unfold Z
  have : ∀ m : Nat, S m (fun i => if (i : Int) - K < a then 1 else 0) = if (m : Int) ≤ a + K then (m : Int) else a + K := by
    intro m
    induction m with
    | zero => rw [if_pos (by omega)]; rfl
    | succ m ih =>
      rw [S_succ, ih]
      by_cases e : (m : Int) - K < a
      · rw [if_pos e, if_pos (by omega), if_pos (by omega)]; omega
      · rw [if_neg e]
        split <;> split <;> omega
  rw [this]
  split <;> omega
end Go.Proofs.YtpfenoioeajkmaaDoor.G
end

section
set_option linter.unusedVariables false
set_option linter.unusedSimpArgs false
namespace Go.Proofs.YtpfenoioeajkmaaDoor.G
def ux (d : Nat) : Int := if d = 0 then 1 else if d = 2 then -1 else 0
def uy (d : Nat) : Int := if d = 1 then 1 else if d = 3 then -1 else 0
structure Loop (n : Nat) (X Y : Nat → Int) (D : Nat → Nat) : Prop where
  n4 : 4 ≤ n
  d4 : ∀ i, D i < 4
  sx : ∀ i, X (i + 1) = X i + ux (D i)
  sy : ∀ i, Y (i + 1) = Y i + uy (D i)
  px : ∀ i, X (i + n) = X i
  py : ∀ i, Y (i + n) = Y i
  pd : ∀ i, D (i + n) = D i
  inj : ∀ i j, X i = X j → Y i = Y j → i % n = j % n
theorem d_cases {d : Nat} (h : d < 4) : d = 0 ∨ d = 1 ∨ d = 2 ∨ d = 3 := by omega
def wi (X Y : Nat → Int) (D : Nat → Nat) (x y : Int) (i : Nat) : Int := if D i = 1 ∧ x < X i ∧ Y i = y then 1 else if D i = 3 ∧ x < X i ∧ Y i = y + 1 then -1 else 0
def W (n : Nat) (X Y : Nat → Int) (D : Nat → Nat) (x y : Int) : Int := S n (wi X Y D x y)
def cx (a : Int) (k : Nat) : Int := if k = 0 then a else if k = 1 then a - 1 else if k = 2 then a - 1 else a
def cy (b : Int) (k : Nat) : Int := if k = 0 then b else if k = 1 then b else if k = 2 then b - 1 else b - 1
def ti (X Y : Nat → Int) (D : Nat → Nat) (a b : Int) (k i : Nat) : Int :=
  (if D i = k ∧ X i = a ∧ Y i = b then 1 else 0) - (if D i = (k + 2) % 4 ∧ X (i + 1) = a ∧ Y (i + 1) = b then 1 else 0)
section
variable {n : Nat} {X Y : Nat → Int} {D : Nat → Nat}
theorem Loop.mod_x (L : Loop n X Y D) (i : Nat) : X (i % n) = X i := by
  have : ∀ q r, X (r + q * n) = X r := fun q r => by
    induction q with
    | zero => rw [Nat.zero_mul, Nat.add_zero]
    | succ q ih => rw [Nat.succ_mul, ← Nat.add_assoc, L.px, ih]
  rw [← this (i / n) (i % n), Nat.mul_comm, Nat.mod_add_div]
theorem Loop.mod_y (L : Loop n X Y D) (i : Nat) : Y (i % n) = Y i := by
  have : ∀ q r, Y (r + q * n) = Y r := fun q r => by
    induction q with
    | zero => rw [Nat.zero_mul, Nat.add_zero]
    | succ q ih => rw [Nat.succ_mul, ← Nat.add_assoc, L.py, ih]
  rw [← this (i / n) (i % n), Nat.mul_comm, Nat.mod_add_div]
theorem Loop.mod_d (L : Loop n X Y D) (i : Nat) : D (i % n) = D i := by
  have : ∀ q r, D (r + q * n) = D r := fun q r => by
    induction q with
    | zero => rw [Nat.zero_mul, Nat.add_zero]
    | succ q ih => rw [Nat.succ_mul, ← Nat.add_assoc, L.pd, ih]
  rw [← this (i / n) (i % n), Nat.mul_comm, Nat.mod_add_div]
theorem mod_add_cancel {n b i j : Nat} (h : (b + i) % n = (b + j) % n) : i % n = j % n := by
  have e : ((i : Int) % n) = ((j : Int) % n) := by
    have h1 : (((b + i : Nat) : Int) % n) = (((b + j : Nat) : Int) % n) := by rw [← Int.natCast_emod, ← Int.natCast_emod, h]
    rw [Int.emod_eq_emod_iff_emod_sub_eq_zero] at h1 ⊢
    rw [← h1]
    congr 1
    omega
  rw [← Int.natCast_emod, ← Int.natCast_emod] at e
  exact Int.ofNat_inj.1 e
theorem mod_ne_add {n d i : Nat} (h0 : 0 < d) (h1 : d < n) : (i + d) % n ≠ i % n := by
  intro h
  have : d % n = 0 % n := mod_add_cancel (b := i) (by rw [Nat.add_zero]; exact h)
  rw [Nat.mod_eq_of_lt h1, Nat.zero_mod] at this
  omega
theorem Loop.no_u (L : Loop n X Y D) (i : Nat) : D (i + 1) ≠ (D i + 2) % 4 := by
  intro h
  have h4 := L.n4
  have h1 := L.d4 i
  refine mod_ne_add (n := n) (d := 2) (i := i) (by omega) (by omega) (L.inj _ _ ?_ ?_)
  · rw [L.sx (i + 1), L.sx i, h]
    rcases d_cases h1 with e | e | e | e <;> rw [e] <;> simp [ux] <;> omega
  · rw [L.sy (i + 1), L.sy i, h]
    rcases d_cases h1 with e | e | e | e <;> rw [e] <;> simp [uy] <;> omega
theorem cross_v (L : Loop n X Y D) (x y : Int) : W n X Y D (x - 1) y - W n X Y D x y = S n fun i => (if D i = 1 ∧ X i = x ∧ Y i = y then 1 else 0) - (if D i = 3 ∧ X i = x ∧ Y i = y + 1 then 1 else 0) := by
  unfold W
  rw [← S_sub]
  refine S_congr fun i _ => ?_
  unfold wi
  rcases d_cases (L.d4 i) with e | e | e | e <;> rw [e] <;> simp <;> (try split) <;> (try split) <;> (try split) <;> omega
theorem cross_h (L : Loop n X Y D) (x y : Int) : W n X Y D x y - W n X Y D x (y - 1) = S n fun i => (if D i = 0 ∧ X i = x ∧ Y i = y then 1 else 0) - (if D i = 2 ∧ X i = x + 1 ∧ Y i = y then 1 else 0) := by
  have ht := S_tel n fun i => if x < X i ∧ Y i = y then (1 : Int) else 0
  have hx := L.px 0
  have hy := L.py 0
  rw [Nat.zero_add] at hx hy
  rw [hx, hy, Int.sub_self] at ht
  have : W n X Y D x y - W n X Y D x (y - 1) = W n X Y D x y - W n X Y D x (y - 1) + 0 := by omega
  rw [this, ← ht]
  unfold W
  rw [← S_sub, ← S_add]
  refine S_congr fun i _ => ?_
  unfold wi
  rw [L.sx i, L.sy i]
  rcases d_cases (L.d4 i) with e | e | e | e <;> rw [e] <;> simp [ux, uy] <;> (repeat' split) <;> omega
theorem cross (L : Loop n X Y D) (a b : Int) {k : Nat} (hk : k < 4) : W n X Y D (cx a k) (cy b k) - W n X Y D (cx a ((k + 3) % 4)) (cy b ((k + 3) % 4)) = S n (ti X Y D a b k) := by
  rcases d_cases hk with e | e | e | e <;> subst e
  · show W n X Y D a b - W n X Y D a (b - 1) = _
    rw [cross_h L]
    refine S_congr fun i _ => ?_
    unfold ti
    rw [L.sx i, L.sy i]
    rcases d_cases (L.d4 i) with e | e | e | e <;> rw [e] <;> simp [ux, uy] <;> (repeat' split) <;> omega
  · show W n X Y D (a - 1) b - W n X Y D a b = _
    rw [cross_v L]
    refine S_congr fun i _ => ?_
    unfold ti
    rw [L.sx i, L.sy i]
    rcases d_cases (L.d4 i) with e | e | e | e <;> rw [e] <;> simp [ux, uy] <;> (repeat' split) <;> omega
  · show W n X Y D (a - 1) (b - 1) - W n X Y D (a - 1) b = _
    have h := cross_h L (a - 1) b
    have : W n X Y D (a - 1) (b - 1) - W n X Y D (a - 1) b = -(W n X Y D (a - 1) b - W n X Y D (a - 1) (b - 1)) := by omega
    rw [this, h, ← S_neg]
    refine S_congr fun i _ => ?_
    unfold ti
    rw [L.sx i, L.sy i]
    rcases d_cases (L.d4 i) with e | e | e | e <;> rw [e] <;> simp [ux, uy] <;> (repeat' split) <;> omega
  · show W n X Y D a (b - 1) - W n X Y D (a - 1) (b - 1) = _
    have h := cross_v L a (b - 1)
    have : W n X Y D a (b - 1) - W n X Y D (a - 1) (b - 1) = -(W n X Y D (a - 1) (b - 1) - W n X Y D a (b - 1)) := by omega
    rw [this, h, ← S_neg]
    refine S_congr fun i _ => ?_
    unfold ti
    rw [L.sx i, L.sy i]
    rcases d_cases (L.d4 i) with e | e | e | e <;> rw [e] <;> simp [ux, uy] <;> (repeat' split) <;> omega
theorem Loop.sum_from (L : Loop n X Y D) (m k : Nat) : S n (fun i => if D i = k ∧ X i = X m ∧ Y i = Y m then 1 else 0) = if D m = k then 1 else 0 := by
  have h4 := L.n4
  have hm : m % n < n := Nat.mod_lt _ (by omega)
  rw [S_one (k := m % n) hm, L.mod_d, L.mod_x, L.mod_y]
  · simp
  · intro i hi hne
    rw [if_neg]
    rintro ⟨-, h1, h2⟩
    have := L.inj _ _ h1 h2
    rw [Nat.mod_eq_of_lt hi] at this
    exact hne this
theorem Loop.sum_to (L : Loop n X Y D) (m k : Nat) : S n (fun i => if D i = k ∧ X (i + 1) = X (m + 1) ∧ Y (i + 1) = Y (m + 1) then 1 else 0) = if D m = k then 1 else 0 := by
  have h4 := L.n4
  have hm : m % n < n := Nat.mod_lt _ (by omega)
  have e1 : X (m % n + 1) = X (m + 1) := by rw [L.sx, L.sx, L.mod_x, L.mod_d]
  have e2 : Y (m % n + 1) = Y (m + 1) := by rw [L.sy, L.sy, L.mod_y, L.mod_d]
  rw [S_one (k := m % n) hm, L.mod_d, e1, e2]
  · simp
  · intro i hi hne
    rw [if_neg]
    rintro ⟨-, h1, h2⟩
    have := L.inj _ _ h1 h2
    have := mod_add_cancel (b := 1) (i := i) (j := m) (by rw [Nat.add_comm 1, Nat.add_comm 1]; exact this)
    rw [Nat.mod_eq_of_lt hi] at this
    exact hne this
theorem Loop.at_point (L : Loop n X Y D) (j : Nat) {k : Nat} (hk : k < 4) :
    W n X Y D (cx (X (j + 1)) k) (cy (Y (j + 1)) k) - W n X Y D (cx (X (j + 1)) ((k + 3) % 4)) (cy (Y (j + 1)) ((k + 3) % 4)) = (if D (j + 1) = k then 1 else 0) - (if D j = (k + 2) % 4 then 1 else 0) := by
  rw [cross L _ _ hk]
  unfold ti
  rw [S_sub, L.sum_from, L.sum_to]
def turn (e f : Nat) : Int := if f = e then 0 else if f = (e + 1) % 4 then 1 else -1
def LW (n : Nat) (X Y : Nat → Int) (D : Nat → Nat) (j : Nat) : Int := W n X Y D (cx (X j) (D j)) (cy (Y j) (D j))
theorem around_pure (G : Nat → Int) {e f : Nat} {l : Int} (he : e < 4) (hf : f < 4) (hu : f ≠ (e + 2) % 4) (h : ∀ k, k < 4 → G k - G ((k + 3) % 4) = (if f = k then 1 else 0) - (if e = (k + 2) % 4 then 1 else 0)) (hl : l = G ((e + 1) % 4)) :
    G f = l ∧ (∀ k, k < 4 → G k = l ∨ G k = l - 1) ∧ G 0 + G 1 + G 2 + G 3 = 4 * (l - 1) + (2 - turn e f) ∧ G ((f + 3) % 4) = l - 1 := by
  have h0 := h 0 (by omega)
  have h1 := h 1 (by omega)
  have h2 := h 2 (by omega)
  have h3 := h 3 (by omega)
  have hk : (∀ k, k < 4 → G k = l ∨ G k = l - 1) ↔ (G 0 = l ∨ G 0 = l - 1) ∧ (G 1 = l ∨ G 1 = l - 1) ∧ (G 2 = l ∨ G 2 = l - 1) ∧ (G 3 = l ∨ G 3 = l - 1) :=
    ⟨fun q => ⟨q 0 (by omega), q 1 (by omega), q 2 (by omega), q 3 (by omega)⟩, fun ⟨a, b, c, d⟩ k hk => by rcases d_cases hk with e | e | e | e <;> subst e <;> assumption⟩
  rw [hk]
  clear h hk
  rcases d_cases he with e | e | e | e <;> rcases d_cases hf with g | g | g | g <;> subst e <;> subst g <;> simp [turn] at h0 h1 h2 h3 hl hu ⊢ <;> omega
theorem Loop.around (L : Loop n X Y D) (j : Nat) : LW n X Y D (j + 1) = LW n X Y D j ∧
    (∀ k, k < 4 → W n X Y D (cx (X (j + 1)) k) (cy (Y (j + 1)) k) = LW n X Y D j ∨ W n X Y D (cx (X (j + 1)) k) (cy (Y (j + 1)) k) = LW n X Y D j - 1) ∧
    W n X Y D (cx (X (j + 1)) 0) (cy (Y (j + 1)) 0) + W n X Y D (cx (X (j + 1)) 1) (cy (Y (j + 1)) 1) + W n X Y D (cx (X (j + 1)) 2) (cy (Y (j + 1)) 2) + W n X Y D (cx (X (j + 1)) 3) (cy (Y (j + 1)) 3) = 4 * (LW n X Y D j - 1) + (2 - turn (D j) (D (j + 1))) ∧
    W n X Y D (cx (X (j + 1)) (D (j + 1))) (cy (Y (j + 1)) (D (j + 1))) = LW n X Y D j ∧ W n X Y D (cx (X (j + 1)) ((D (j + 1) + 3) % 4)) (cy (Y (j + 1)) ((D (j + 1) + 3) % 4)) = LW n X Y D j - 1 := by
  have hl : LW n X Y D j = W n X Y D (cx (X (j + 1)) ((D j + 1) % 4)) (cy (Y (j + 1)) ((D j + 1) % 4)) := by
    unfold LW
    rw [L.sx j, L.sy j]
    rcases d_cases (L.d4 j) with e | e | e | e <;> rw [e] <;> simp [cx, cy, ux, uy] <;> (try congr 1) <;> omega
  obtain ⟨q1, q2, q3, q4⟩ := around_pure (fun k => W n X Y D (cx (X (j + 1)) k) (cy (Y (j + 1)) k)) (L.d4 j) (L.d4 (j + 1)) (L.no_u j) (fun k hk => L.at_point j hk) hl
  exact ⟨q1, q2, q3, q1, q4⟩
end
end Go.Proofs.YtpfenoioeajkmaaDoor.G
end

section
set_option linter.unusedVariables false
set_option linter.unusedSimpArgs false
namespace Go.Proofs.YtpfenoioeajkmaaDoor.G
section
variable {n : Nat} {X Y : Nat → Int} {D : Nat → Nat}
theorem W_right {x : Int} (y : Int) (h : ∀ i, X i ≤ x) : W n X Y D x y = 0 := S_zero fun i _ => by
  have := h i
  unfold wi
  rw [if_neg (by omega), if_neg (by omega)]
theorem Loop.W_up (L : Loop n X Y D) (x : Int) {y : Int} (h : ∀ i, Y i ≤ y) : W n X Y D x y = 0 := S_zero fun i _ => by
  have h1 := h i
  have h2 := h (i + 1)
  rw [L.sy] at h2
  unfold wi
  by_cases e : D i = 1
  · rw [e] at h2
    simp [uy] at h2
    rw [if_neg (by omega), if_neg (by omega)]
  · rw [if_neg (by omega), if_neg (by omega)]
theorem Loop.W_down (L : Loop n X Y D) (x : Int) {y : Int} (h : ∀ i, y < Y i) : W n X Y D x y = 0 := S_zero fun i _ => by
  have h1 := h i
  have h2 := h (i + 1)
  rw [L.sy] at h2
  unfold wi
  by_cases e : D i = 3
  · rw [e] at h2
    simp [uy] at h2
    rw [if_neg (by omega), if_neg (by omega)]
  · rw [if_neg (by omega), if_neg (by omega)]
theorem Loop.W_left (L : Loop n X Y D) {x : Int} (y : Int) (h : ∀ i, x < X i) : W n X Y D x y = 0 := by
  have ht := S_tel n fun i => if y < Y i then (1 : Int) else 0
  have hy := L.py 0
  rw [Nat.zero_add] at hy
  rw [hy, Int.sub_self] at ht
  rw [← ht]
  refine S_congr fun i _ => ?_
  have h1 := h i
  unfold wi
  rw [L.sy i]
  rcases d_cases (L.d4 i) with e | e | e | e <;> rw [e] <;> simp [uy, h1] <;> (repeat' split) <;> omega
theorem Loop.LW_eq (L : Loop n X Y D) (j : Nat) : LW n X Y D j = LW n X Y D 0 := by
  induction j with
  | zero => rfl
  | succ j ih => rw [(L.around j).1, ih]
theorem Loop.right (L : Loop n X Y D) (i : Nat) : W n X Y D (cx (X i) ((D i + 3) % 4)) (cy (Y i) ((D i + 3) % 4)) = LW n X Y D 0 - 1 := by
  have h4 := L.n4
  obtain ⟨j, hj⟩ : ∃ j, i + n = j + 1 := ⟨i + n - 1, by omega⟩
  have h := (L.around j).2.2.2.2
  rw [← hj, L.px, L.py, L.pd, L.LW_eq] at h
  exact h
theorem Loop.left (L : Loop n X Y D) (i : Nat) : W n X Y D (cx (X i) (D i)) (cy (Y i) (D i)) = LW n X Y D 0 := L.LW_eq i
theorem max_of (X : Nat → Int) : ∀ n, 0 < n → ∃ i, i < n ∧ ∀ j, j < n → X j ≤ X i
  | 1, _ => ⟨0, by omega, fun j hj => by obtain rfl : j = 0 := by omega
                                         exact Int.le_refl _⟩
  | n + 2, _ => by
    obtain ⟨i, hi, h⟩ := max_of X (n + 1) (by omega)
    by_cases e : X (n + 1) ≤ X i
    · exact ⟨i, by omega, fun j hj => by
        by_cases q : j = n + 1
        · rw [q]; exact e
        · exact h j (by omega)⟩
    · exact ⟨n + 1, by omega, fun j hj => by
        by_cases q : j = n + 1
        · rw [q]; exact Int.le_refl _
        · have := h j (by omega); omega⟩
theorem Loop.maxX (L : Loop n X Y D) : ∃ i, ∀ j, X j ≤ X i := by
  have h4 := L.n4
  obtain ⟨i, hi, h⟩ := max_of X n (by omega)
  exact ⟨i, fun j => by rw [← L.mod_x j]; exact h _ (Nat.mod_lt _ (by omega))⟩
theorem Loop.extreme (L : Loop n X Y D) : ∃ i, (∀ j, X j ≤ X i) ∧ (D i = 1 ∨ D i = 3) := by
  obtain ⟨i0, h⟩ := L.maxX
  have h4 := L.n4
  obtain ⟨j, hj⟩ : ∃ j, i0 + n = j + 1 := ⟨i0 + n - 1, by omega⟩
  have hX : X (j + 1) = X i0 := by rw [← hj, L.px]
  have hu := L.no_u j
  have s1 := L.sx j
  have s2 := L.sx (j + 1)
  have m1 := h j
  have m2 := h (j + 1 + 1)
  rcases d_cases (L.d4 (j + 1)) with e | e | e | e
  · rw [e] at s2
    simp [ux] at s2
    omega
  · exact ⟨j + 1, fun k => by rw [hX]; exact h k, .inl e⟩
  · rcases d_cases (L.d4 j) with f | f | f | f
    · rw [e, f] at hu
      simp at hu
    · rw [f] at s1
      simp [ux] at s1
      exact ⟨j, fun k => by rw [← s1, hX]; exact h k, .inl f⟩
    · rw [f] at s1
      simp [ux] at s1
      omega
    · rw [f] at s1
      simp [ux] at s1
      exact ⟨j, fun k => by rw [← s1, hX]; exact h k, .inr f⟩
  · exact ⟨j + 1, fun k => by rw [hX]; exact h k, .inr e⟩
theorem Loop.left01 (L : Loop n X Y D) : LW n X Y D 0 = 0 ∨ LW n X Y D 0 = 1 := by
  obtain ⟨i, h, e | e⟩ := L.extreme
  · have := L.right i
    rw [e] at this
    rw [show cx (X i) ((1 + 3) % 4) = X i from rfl, W_right _ h] at this
    omega
  · have := L.left i
    rw [e] at this
    rw [show cx (X i) 3 = X i from rfl, W_right _ h] at this
    omega
theorem sum_ne {n : Nat} {f : Nat → Int} (h : S n f ≠ 0) : ∃ i, i < n ∧ f i ≠ 0 := by
  refine Classical.byContradiction fun q => h (S_zero fun i hi => ?_)
  exact Classical.byContradiction fun p => q ⟨i, hi, p⟩
theorem Loop.cases3 (L : Loop n X Y D) (y : Int) {M : Int} (hM : ∀ i, X i ≤ M) : ∀ (m : Nat) (x : Int), M - m ≤ x → W n X Y D x y = 0 ∨ W n X Y D x y = LW n X Y D 0 ∨ W n X Y D x y = LW n X Y D 0 - 1
  | 0, x, hx => .inl (W_right y fun i => by have := hM i; omega)
  | m + 1, x, hx => by
    have ih := L.cases3 y hM m (x + 1) (by omega)
    have hc := cross_v L (x + 1) y
    rw [show x + 1 - 1 = x by omega] at hc
    by_cases h0 : W n X Y D x y - W n X Y D (x + 1) y = 0
    · rw [show W n X Y D x y = W n X Y D (x + 1) y by omega]
      exact ih
    · rw [hc] at h0
      obtain ⟨i, hi, hne⟩ := sum_ne h0
      by_cases e1 : D i = 1 ∧ X i = x + 1 ∧ Y i = y
      · have := L.left i
        rw [e1.1] at this
        rw [show cx (X i) 1 = x by show X i - 1 = x; omega, show cy (Y i) 1 = y from e1.2.2] at this
        exact .inr (.inl this)
      · rw [if_neg e1] at hne
        by_cases e3 : D i = 3 ∧ X i = x + 1 ∧ Y i = y + 1
        · have := L.right i
          rw [e3.1] at this
          rw [show cx (X i) ((3 + 3) % 4) = x by show X i - 1 = x; omega, show cy (Y i) ((3 + 3) % 4) = y by show Y i - 1 = y; omega] at this
          exact .inr (.inr this)
        · rw [if_neg e3] at hne
          exact absurd rfl hne
def Box (K : Nat) (X Y : Nat → Int) : Prop := ∀ i, -(K : Int) < X i ∧ X i < K ∧ -(K : Int) < Y i ∧ Y i < K
theorem Loop.three (L : Loop n X Y D) (x y : Int) : W n X Y D x y = 0 ∨ W n X Y D x y = LW n X Y D 0 ∨ W n X Y D x y = LW n X Y D 0 - 1 := by
  obtain ⟨i, h⟩ := L.maxX
  exact L.cases3 y h (X i - x).toNat x (by omega)
theorem Loop.area (L : Loop n X Y D) {K : Nat} (hB : Box K X Y) : Z K (fun x => Z K fun y => W n X Y D x y) = S n fun i => X i * uy (D i) := by
  unfold W
  have e1 : (fun x => Z K fun y => S n (wi X Y D x y)) = fun x => S n fun i => Z K fun y => wi X Y D x y i := by
    funext x
    exact Z_S K n fun y i => wi X Y D x y i
  rw [e1, Z_S K n fun x i => Z K fun y => wi X Y D x y i]
  have hs : S n (fun i => uy (D i)) = 0 := by
    have ht := S_tel n Y
    have hy := L.py 0
    rw [Nat.zero_add] at hy
    rw [hy, Int.sub_self] at ht
    rw [← ht]
    exact S_congr fun i _ => by rw [L.sy i]; omega
  have h2 : S n (fun i => X i * uy (D i)) = S n (fun i => (X i + K) * uy (D i)) := by
    have : (fun i => (X i + K) * uy (D i)) = fun i => X i * uy (D i) + (K : Int) * uy (D i) := by funext i; rw [Int.add_mul]
    rw [this, S_add, S_mul, hs, Int.mul_zero, Int.add_zero]
  rw [h2]
  refine S_congr fun i _ => ?_
  obtain ⟨b1, b2, b3, b4⟩ := hB i
  have e2 : ∀ x : Int, (Z K fun y => wi X Y D x y i) = uy (D i) * (if x < X i then 1 else 0) := by
    intro x
    rcases d_cases (L.d4 i) with e | e | e | e
    · rw [Z_zero fun y _ _ => by unfold wi; rw [e]; simp, e]; simp [uy]
    · have : ∀ y, wi X Y D x y i = if y = Y i then (if x < X i then 1 else 0) else 0 := by
        intro y
        unfold wi
        rw [e]
        simp
        (repeat' split) <;> omega
      rw [Z_congr fun y _ _ => this y, Z_one (a := Y i) (by omega) (by omega) fun y hy => if_neg hy, if_pos rfl, e]
      simp [uy]
    · rw [Z_zero fun y _ _ => by unfold wi; rw [e]; simp, e]; simp [uy]
    · have hn := hB (i + 1)
      rw [L.sy i, e] at hn
      simp [uy] at hn
      have : ∀ y, wi X Y D x y i = if y = Y i - 1 then (if x < X i then -1 else 0) else 0 := by
        intro y
        unfold wi
        rw [e]
        simp
        (repeat' split) <;> omega
      rw [Z_congr fun y _ _ => this y, Z_one (a := Y i - 1) (by omega) (by omega) fun y hy => if_neg hy, if_pos rfl, e]
      simp [uy]
      split <;> rfl
  rw [Z_congr fun x _ _ => e2 x, Z_mul, Z_count (by omega) (by omega), Int.mul_comm]
theorem Loop.pos (L : Loop n X Y D) {K : Nat} (hB : Box K X Y) (hA : 0 < S n fun i => X i * uy (D i)) : LW n X Y D 0 = 1 := by
  rcases L.left01 with h | h
  · exfalso
    rw [← L.area hB] at hA
    have : (Z K fun x => Z K fun y => W n X Y D x y) ≤ Z K fun x => Z K fun y => 0 := Z_le fun x _ _ => Z_le fun y _ _ => by
      have := L.three x y
      rw [h] at this
      omega
    rw [Z_zero (f := fun x => Z K fun y => 0) fun _ _ _ => Z_zero fun _ _ _ => rfl] at this
    omega
  · exact h
theorem Loop.zo (L : Loop n X Y D) (h1 : LW n X Y D 0 = 1) (x y : Int) : W n X Y D x y = 0 ∨ W n X Y D x y = 1 := by
  have := L.three x y
  rw [h1] at this
  omega
end
end Go.Proofs.YtpfenoioeajkmaaDoor.G
end

section
set_option linter.unusedVariables false
set_option linter.unusedSimpArgs false
namespace Go.Proofs.YtpfenoioeajkmaaDoor.G
theorem S_rot {n : Nat} {f : Nat → Int} (h : ∀ i, f (i + n) = f i) (b : Nat) : S n (fun i => f (b + i)) = S n f := by
  induction b with
  | zero => exact S_congr fun i _ => by rw [Nat.zero_add]
  | succ b ih =>
    have h1 := S_head n fun i => f (b + i)
    have h2 := S_succ n fun i => f (b + i)
    rw [h2, ih] at h1
    have h3 : S n (fun i => f (b + 1 + i)) = S n fun i => f (b + (i + 1)) := S_congr fun i _ => by congr 1; omega
    rw [h3]
    have h4 := h b
    rw [Nat.add_zero] at h1
    omega
section
variable {n : Nat} {X Y : Nat → Int} {D : Nat → Nat}
theorem unit_of (d : Nat) (h : d < 4) : (ux d = 1 ∧ uy d = 0) ∨ (ux d = 0 ∧ uy d = 1) ∨ (ux d = -1 ∧ uy d = 0) ∨ (ux d = 0 ∧ uy d = -1) := by
  rcases d_cases h with e | e | e | e <;> subst e <;> simp [ux, uy]
end
end Go.Proofs.YtpfenoioeajkmaaDoor.G
end

section
set_option linter.unusedVariables false
set_option linter.unusedSimpArgs false
namespace Go.Proofs.YtpfenoioeajkmaaDoor.G
section
variable {n : Nat} {X Y : Nat → Int} {D : Nat → Nat}
def ab (x : Int) : Int := if 0 ≤ x then x else -x
theorem span (f : Nat → Int) (m : Nat) : f m - f 0 ≤ S m (fun i => ab (f (i + 1) - f i)) ∧ f 0 - f m ≤ S m (fun i => ab (f (i + 1) - f i)) := by
  have h := S_tel m f
  have h1 : S m (fun i => f (i + 1) - f i) ≤ S m (fun i => ab (f (i + 1) - f i)) := S_le fun i _ => by unfold ab; split <;> omega
  have h2 : S m (fun i => -(f (i + 1) - f i)) ≤ S m (fun i => ab (f (i + 1) - f i)) := S_le fun i _ => by unfold ab; split <;> omega
  rw [S_neg] at h2
  omega
theorem span2 (f : Nat → Int) {n : Nat} (hp : ∀ i, f (i + n) = f i) (hn : 0 < n) (i j : Nat) : 2 * (f i - f j) ≤ S n (fun i => ab (f (i + 1) - f i)) := by
  have hmod : ∀ i, f (i % n) = f i := by
    have : ∀ q r, f (r + q * n) = f r := fun q r => by
      induction q with
      | zero => rw [Nat.zero_mul, Nat.add_zero]
      | succ q ih => rw [Nat.succ_mul, ← Nat.add_assoc, hp, ih]
    intro i
    rw [← this (i / n) (i % n), Nat.mul_comm, Nat.mod_add_div]
  have hg : ∃ m, m < n ∧ f (i + m) = f j := by
    refine ⟨(j + n - i % n) % n, Nat.mod_lt _ hn, ?_⟩
    have hi := Nat.mod_lt i hn
    have e : (i + (j + n - i % n) % n) % n = j % n := by
      rw [Nat.add_mod, Nat.mod_mod, ← Nat.add_mod]
      have h3 := Nat.mod_add_div i n
      have : i + (j + n - i % n) = j + n + n * (i / n) := by omega
      rw [this, Nat.add_mul_mod_self_left, Nat.add_mod_right]
    rw [← hmod (i + _), e, hmod]
  obtain ⟨m, hm, e⟩ := hg
  have hr := S_rot (n := n) (f := fun i => ab (f (i + 1) - f i)) (fun k => by rw [hp, show k + n + 1 = k + 1 + n by omega, hp]) i
  rw [← hr]
  have hs := S_split m (n - m) (fun k => ab (f (i + k + 1) - f (i + k)))
  rw [show m + (n - m) = n by omega] at hs
  rw [hs]
  have s1 := (span (fun k => f (i + k)) m).2
  have s2 := (span (fun k => f (i + m + k)) (n - m)).1
  simp only [Nat.add_zero, Nat.add_assoc] at s1 s2 ⊢
  rw [show i + (m + (n - m)) = i + n by omega, hp] at s2
  rw [e] at s1 s2
  omega
theorem Loop.iso (L : Loop n X Y D) {K : Nat} (hB : Box K X Y) (h1 : LW n X Y D 0 = 1) : 16 * (Z K fun x => Z K fun y => W n X Y D x y) ≤ (n : Int) * n := by
  have h4 := L.n4
  obtain ⟨i1, a1⟩ := L.maxX
  obtain ⟨i2, hi2, a2⟩ := max_of (fun i => -X i) n (by omega)
  obtain ⟨i3, hi3, a3⟩ := max_of Y n (by omega)
  obtain ⟨i4, hi4, a4⟩ := max_of (fun i => -Y i) n (by omega)
  have b2 : ∀ j, X i2 ≤ X j := fun j => by have := a2 _ (Nat.mod_lt j (show 0 < n by omega)); rw [L.mod_x] at this; omega
  have b3 : ∀ j, Y j ≤ Y i3 := fun j => by have := a3 _ (Nat.mod_lt j (show 0 < n by omega)); rw [L.mod_y] at this; omega
  have b4 : ∀ j, Y i4 ≤ Y j := fun j => by have := a4 _ (Nat.mod_lt j (show 0 < n by omega)); rw [L.mod_y] at this; omega
  have sx := span2 X L.px (by omega) i1 i2
  have sy := span2 Y L.py (by omega) i3 i4
  have hs : S n (fun i => ab (X (i + 1) - X i)) + S n (fun i => ab (Y (i + 1) - Y i)) = n := by
    rw [← S_add, S_congr (g := fun _ => 1), S_const]
    · omega
    · intro i _
      rw [L.sx, L.sy, show X i + ux (D i) - X i = ux (D i) by omega, show Y i + uy (D i) - Y i = uy (D i) by omega]
      rcases unit_of _ (L.d4 i) with ⟨e, f⟩ | ⟨e, f⟩ | ⟨e, f⟩ | ⟨e, f⟩ <;> rw [e, f] <;> rfl
  have hx := a1 i2
  have hy := b3 i4
  have q1 := hB i1
  have q2 := hB i2
  have q3 := hB i3
  have q4 := hB i4
  have cnt : ∀ {lo hi : Int}, -(K : Int) ≤ lo → lo ≤ hi → hi ≤ K → Z K (fun x => if lo ≤ x ∧ x < hi then 1 else 0) = hi - lo := fun {lo hi} h1 h2 h3 => by
    have : ∀ x, (if lo ≤ x ∧ x < hi then (1 : Int) else 0) = (if x < hi then 1 else 0) - (if x < lo then 1 else 0) := fun x => by (repeat' split) <;> omega
    rw [Z_congr fun x _ _ => this x, Z_sub, Z_count (by omega) h3, Z_count h1 (by omega)]
    omega
  have hle : (Z K fun x => Z K fun y => W n X Y D x y) ≤ Z K fun x => Z K fun y => (if X i2 ≤ x ∧ x < X i1 then 1 else 0) * (if Y i4 ≤ y ∧ y < Y i3 then 1 else 0) := Z_le fun x _ _ => Z_le fun y _ _ => by
    by_cases c1 : X i2 ≤ x ∧ x < X i1
    · by_cases c2 : Y i4 ≤ y ∧ y < Y i3
      · rw [if_pos c1, if_pos c2]
        have := L.zo h1 x y
        omega
      · rw [if_neg c2, Int.mul_zero]
        by_cases c3 : Y i4 ≤ y
        · rw [L.W_up x fun i => by have := b3 i; omega]; exact Int.le_refl _
        · rw [L.W_down x fun i => by have := b4 i; omega]; exact Int.le_refl _
    · rw [if_neg c1, Int.zero_mul]
      by_cases c3 : X i2 ≤ x
      · rw [W_right y fun i => by have := a1 i; omega]; exact Int.le_refl _
      · rw [L.W_left y fun i => by have := b2 i; omega]; exact Int.le_refl _
  have e1 : (Z K fun x => Z K fun y => (if X i2 ≤ x ∧ x < X i1 then (1 : Int) else 0) * (if Y i4 ≤ y ∧ y < Y i3 then 1 else 0)) = (X i1 - X i2) * (Y i3 - Y i4) := by
    have : ∀ x, (Z K fun y => (if X i2 ≤ x ∧ x < X i1 then (1 : Int) else 0) * (if Y i4 ≤ y ∧ y < Y i3 then 1 else 0)) = (Y i3 - Y i4) * (if X i2 ≤ x ∧ x < X i1 then 1 else 0) := fun x => by
      rw [Z_mul, cnt (by omega) (by omega) (by omega), Int.mul_comm]
    rw [Z_congr fun x _ _ => this x, Z_mul, cnt (by omega) (by omega) (by omega), Int.mul_comm]
  rw [e1] at hle
  have hp : 0 ≤ X i1 - X i2 := by omega
  have hq : 0 ≤ Y i3 - Y i4 := by omega
  generalize X i1 - X i2 = p at *
  generalize Y i3 - Y i4 = q at *
  have hpq : 2 * p + 2 * q ≤ n := by omega
  have hmul : (2 * p + 2 * q) * (2 * p + 2 * q) ≤ (n : Int) * n := Int.mul_le_mul hpq hpq (by omega) (by omega)
  have hsq : 0 ≤ (p - q) * (p - q) := by
    rcases Int.le_total 0 (p - q) with h | h
    · exact Int.mul_nonneg h h
    · exact Int.mul_nonneg_of_nonpos_of_nonpos h h
  have e2 : (2 * p + 2 * q) * (2 * p + 2 * q) = 4 * ((p - q) * (p - q)) + 16 * (p * q) := by
    have m1 : 2 * p * (2 * p) = 4 * (p * p) := by rw [Int.mul_assoc, Int.mul_left_comm p 2 p]; omega
    have m2 : 2 * p * (2 * q) = 4 * (p * q) := by rw [Int.mul_assoc, Int.mul_left_comm p 2 q]; omega
    have m3 : 2 * q * (2 * p) = 4 * (p * q) := by rw [Int.mul_assoc, Int.mul_left_comm q 2 p, Int.mul_comm q p]; omega
    have m4 : 2 * q * (2 * q) = 4 * (q * q) := by rw [Int.mul_assoc, Int.mul_left_comm q 2 q]; omega
    have m5 := Int.mul_comm q p
    simp only [Int.sub_mul, Int.mul_sub, Int.add_mul, Int.mul_add, m1, m2, m3, m4]
    omega
  omega
end
end Go.Proofs.YtpfenoioeajkmaaDoor.G
end

section
set_option linter.unusedVariables false
set_option linter.unusedSimpArgs false
namespace Go.Proofs.YtpfenoioeajkmaaDoor.G
def bi (b : Bool) : Int := if b then 1 else 0
end Go.Proofs.YtpfenoioeajkmaaDoor.G
end

section
set_option linter.unusedVariables false
set_option linter.unusedSimpArgs false
namespace Go.Proofs.YtpfenoioeajkmaaDoor.G
section
variable {n : Nat} {X Y : Nat → Int} {D : Nat → Nat}
def E (n : Nat) (X Y : Nat → Int) (D : Nat → Nat) (l : Int → Int → Bool) (k : Nat) (a b : Int) : Int := S n fun i => if D i = k then bi (l (X i - a) (Y i - b)) else 0
structure Rim (n : Nat) (X Y : Nat → Int) (D : Nat → Nat) (K : Nat) : Prop where
  l : ∀ x y, x ≤ -(K : Int) → W n X Y D x y = 0
  r : ∀ x y, (K : Int) - 1 ≤ x → W n X Y D x y = 0
  d : ∀ x y, y ≤ -(K : Int) → W n X Y D x y = 0
  u : ∀ x y, (K : Int) - 1 ≤ y → W n X Y D x y = 0
theorem Loop.rim (L : Loop n X Y D) {K : Nat} (hB : Box K X Y) : Rim n X Y D K where
  l x y h := L.W_left y fun i => by have := hB i; omega
  r x y h := W_right y fun i => by have := hB i; omega
  d x y h := L.W_down x fun i => by have := hB i; omega
  u x y h := L.W_up x fun i => by have := hB i; omega
end
end Go.Proofs.YtpfenoioeajkmaaDoor.G
end

section
set_option linter.unusedVariables false
set_option linter.unusedSimpArgs false
namespace Go.Proofs.YtpfenoioeajkmaaDoor.G
def Opp (D : Nat → Nat) (i m j : Nat) : Prop := ∀ t, t < m → D (j + t) = (D (i + m - 1 - t) + 2) % 4
theorem Opp.symm {D : Nat → Nat} (h4 : ∀ i, D i < 4) {i m j : Nat} (h : Opp D i m j) : Opp D j m i := fun t ht => by
  have := h (m - 1 - t) (by omega)
  rw [show i + m - 1 - (m - 1 - t) = i + t by omega, show j + (m - 1 - t) = j + m - 1 - t by omega] at this
  rw [this]
  have := h4 (i + t)
  omega
theorem uxy (d : Nat) : ux d * uy d = 0 := by
  unfold ux uy
  (repeat' split) <;> omega
section
variable {n : Nat} {X Y : Nat → Int} {D : Nat → Nat}
def Q (X Y : Nat → Int) (D : Nat → Nat) (i m : Nat) : Int := S m fun t => X (i + t) * uy (D (i + t)) - Y (i + t) * ux (D (i + t))
theorem Loop.Q_area (L : Loop n X Y D) : Q X Y D 0 n = 2 * S n fun i => X i * uy (D i) := by
  have ht := S_tel n fun i => X i * Y i
  have hx := L.px 0
  have hy := L.py 0
  rw [Nat.zero_add] at hx hy
  rw [hx, hy, Int.sub_self] at ht
  have e : (S n fun i => X (i + 1) * Y (i + 1) - X i * Y i) = S n fun i => X i * uy (D i) + Y i * ux (D i) := S_congr fun i _ => by
    have := uxy (D i)
    rw [L.sx, L.sy]
    grind
  rw [e, S_add] at ht
  unfold Q
  simp only [Nat.zero_add]
  rw [S_sub]
  omega
end
end Go.Proofs.YtpfenoioeajkmaaDoor.G
end

section
set_option linter.unusedVariables false
set_option linter.unusedSimpArgs false
namespace Go.Proofs.YtpfenoioeajkmaaDoor.G
section
variable {n : Nat} {X Y : Nat → Int} {D : Nat → Nat}
def R (X Y : Nat → Int) (l : Int → Int → Bool) (i j : Nat) : Bool := l (X i - X j) (Y i - Y j)
def kk (n : Nat) (X Y : Nat → Int) (l : Int → Int → Bool) (j : Nat) : Int := S n fun i => bi (R X Y l i j)
def T (n : Nat) (D : Nat → Nat) (i : Nat) : Int := turn (D (i + n - 1)) (D i)
end
end Go.Proofs.YtpfenoioeajkmaaDoor.G
end

section
set_option linter.unusedVariables false
set_option linter.unusedSimpArgs false
namespace Go.Proofs.YtpfenoioeajkmaaDoor.L
open Go.RowKit Go.Proofs.YtpfenoioeajkmaaDoorW.PrintWords Go.Proofs.YtpfenoioeajkmaaDoorW.PrintLast Go.Proofs.YtpfenoioeajkmaaDoorW.PrintMore Go.Proofs.YtpfenoioeajkmaaDoor.X Go.Proofs.YtpfenoioeajkmaaDoor.G
def cd (c : Int) : Nat := if c = 114 then 0 else if c = 117 then 1 else if c = 108 then 2 else 3
theorem cd_lt (c : Int) : cd c < 4 := by
  unfold cd
  (repeat' split) <;> omega
theorem cd_step {c : Int} (h : isL c) : stepx c = ux (cd c) ∧ stepy c = uy (cd c) := by
  rcases h with rfl | rfl | rfl | rfl <;> decide
def gX (s : ByteArray) (i : Nat) : Int := sumx s (i % s.size)
def gY (s : ByteArray) (i : Nat) : Int := sumy s (i % s.size)
def gD (s : ByteArray) (i : Nat) : Nat := cd (bt s ((i % s.size : Nat) : Int))
theorem isO_parts {s : ByteArray} (h : isO s = true) : isW s = true ∧ 4 ≤ s.size ∧ (sumx s s.size = 0 ∧ sumy s s.size = 0) ∧ 0 < dbl s s.size ∧ apart s s.size := by
  have hw := isO_W h
  unfold isO at h
  simp only [Bool.and_eq_true, decide_eq_true_eq] at h
  exact ⟨hw, h.2.1, h.2.2.1, h.2.2.2.1, (apart_iff hw).2 h.2.2.2.2⟩
theorem loop_of {s : ByteArray} (h : isO s = true) : G.Loop s.size (gX s) (gY s) (gD s) := by
  obtain ⟨hw, h4, ⟨zx, zy⟩, -, hap⟩ := isO_parts h
  have hl := ((isW_iff s).1 hw).2
  have hn : 0 < s.size := by omega
  have nx : ∀ i, ((i + 1) % s.size = i % s.size + 1 ∧ i % s.size + 1 < s.size) ∨ ((i + 1) % s.size = 0 ∧ i % s.size + 1 = s.size) := fun i => by
    have hi := Nat.mod_lt i hn
    by_cases e : i % s.size + 1 < s.size
    · left
      refine ⟨?_, e⟩
      rw [Nat.add_mod, Nat.mod_eq_of_lt (a := 1) (by omega), Nat.mod_eq_of_lt e]
    · right
      have e2 : i % s.size + 1 = s.size := by omega
      refine ⟨?_, e2⟩
      rw [Nat.add_mod, Nat.mod_eq_of_lt (a := 1) (by omega), e2, Nat.mod_self]
  refine ⟨h4, fun i => cd_lt _, fun i => ?_, fun i => ?_, fun i => ?_, fun i => ?_, fun i => ?_, fun i j hx hy => ?_⟩
  · unfold gX gD
    have hi := Nat.mod_lt i hn
    rw [← (cd_step (hl _ hi)).1]
    rcases nx i with ⟨e, _⟩ | ⟨e, e2⟩
    · rw [e, sumx]
    · rw [e]
      have : sumx s (i % s.size + 1) = 0 := by rw [e2]; exact zx
      rw [sumx] at this
      show (0 : Int) = _
      omega
  · unfold gY gD
    have hi := Nat.mod_lt i hn
    rw [← (cd_step (hl _ hi)).2]
    rcases nx i with ⟨e, _⟩ | ⟨e, e2⟩
    · rw [e, sumy]
    · rw [e]
      have : sumy s (i % s.size + 1) = 0 := by rw [e2]; exact zy
      rw [sumy] at this
      show (0 : Int) = _
      omega
  · unfold gX; rw [Nat.add_mod_right]
  · unfold gY; rw [Nat.add_mod_right]
  · unfold gD; rw [Nat.add_mod_right]
  · unfold gX at hx
    unfold gY at hy
    have hi := Nat.mod_lt i hn
    have hj := Nat.mod_lt j hn
    generalize i % s.size = p at *
    generalize j % s.size = q at *
    rcases Nat.lt_trichotomy p q with e | e | e
    · have := hap p q (by omega) e hj
      rw [(same_iff hw (by omega) (by omega)).2 (by rw [hx, hy])] at this
      cases this
    · exact e
    · have := hap q p (by omega) e hi
      rw [(same_iff hw (by omega) (by omega)).2 (by rw [hx, hy])] at this
      cases this
theorem box_of {s : ByteArray} (h : isO s = true) : Box 25 (gX s) (gY s) := fun i => by
  have h24 := isW_le (isO_W h)
  have h4 := isO_4 h
  have hi := Nat.mod_lt i (show 0 < s.size by omega)
  have a := sumx_le s (i % s.size)
  have b := sumy_le s (i % s.size)
  unfold gX gY
  omega
theorem dbl_Q {s : ByteArray} (h : isO s = true) : dbl s s.size = 2 * S s.size fun i => gX s i * uy (gD s i) := by
  obtain ⟨hw, h4, ⟨zx, zy⟩, -, hap⟩ := isO_parts h
  have hl := ((isW_iff s).1 hw).2
  rw [← (loop_of h).Q_area]
  have key : ∀ k, k ≤ s.size → dbl s k = Q (gX s) (gY s) (gD s) 0 k := fun k => by
    induction k with
    | zero => intro _; rfl
    | succ k ih =>
      intro hk
      have e : Q (gX s) (gY s) (gD s) 0 (k + 1) = Q (gX s) (gY s) (gD s) 0 k + (gX s (0 + k) * uy (gD s (0 + k)) - gY s (0 + k) * ux (gD s (0 + k))) := rfl
      rw [dbl, ih (by omega), e, Nat.zero_add]
      have hk' : k % s.size = k := Nat.mod_eq_of_lt (by omega)
      have hs := cd_step (hl k (by omega))
      have e1 : gX s k = sumx s k := by unfold gX; rw [hk']
      have e2 : gY s k = sumy s k := by unfold gY; rw [hk']
      have e3 : gD s k = cd (bt s (k : Int)) := by unfold gD; rw [hk']
      rw [e1, e2, e3, ← hs.1, ← hs.2, sumx, sumy]
      generalize sumx s k = a
      generalize sumy s k = b
      generalize stepx (bt s k) = u
      generalize stepy (bt s k) = v
      grind
  exact key _ (Nat.le_refl _)
theorem area_pos {s : ByteArray} (h : isO s = true) : 0 < S s.size fun i => gX s i * uy (gD s i) := by
  have := (isO_parts h).2.2.2.1
  rw [dbl_Q h] at this
  omega
theorem left_one {s : ByteArray} (h : isO s = true) : LW s.size (gX s) (gY s) (gD s) 0 = 1 := (loop_of h).pos (box_of h) (area_pos h)
def gW (s : ByteArray) (x y : Int) : Int := W s.size (gX s) (gY s) (gD s) x y
theorem gW_zo {s : ByteArray} (h : isO s = true) (x y : Int) : gW s x y = 0 ∨ gW s x y = 1 := (loop_of h).zo (left_one h) x y
theorem cnt_W {s : ByteArray} (h : isO s = true) (x y : Int) : cntTo s x y s.size = gW s x y := by
  obtain ⟨hw, h4, -, -, -⟩ := isO_parts h
  have hl := ((isW_iff s).1 hw).2
  have key : ∀ k, k ≤ s.size → cntTo s x y k = S k (wi (gX s) (gY s) (gD s) x y) := fun k => by
    induction k with
    | zero => intro _; rfl
    | succ k ih =>
      intro hk
      rw [cntTo, ih (by omega), S_succ]
      congr 1
      have hk' : k % s.size = k := Nat.mod_eq_of_lt (by omega)
      unfold rcb wi gX gY gD
      rw [hk', rsumy_eq hw k (by omega)]
      rcases hl k (by omega) with e | e | e | e <;> rw [e] <;> simp [cd]
  exact key _ (Nat.le_refl _)
theorem rim_of {s : ByteArray} (h : isO s = true) : Rim s.size (gX s) (gY s) (gD s) 25 := (loop_of h).rim (box_of h)
theorem gW_in {s : ByteArray} (h : isO s = true) {x y : Int} (hw : gW s x y = 1) : -24 ≤ x ∧ x ≤ 23 ∧ -24 ≤ y ∧ y ≤ 23 := by
  have R := rim_of h
  have a1 := R.l x y
  have a2 := R.r x y
  have a3 := R.d x y
  have a4 := R.u x y
  unfold gW at hw
  refine ⟨?_, ?_, ?_, ?_⟩
  · exact Classical.byContradiction fun q => by rw [a1 (by omega)] at hw; omega
  · exact Classical.byContradiction fun q => by rw [a2 (by omega)] at hw; omega
  · exact Classical.byContradiction fun q => by rw [a3 (by omega)] at hw; omega
  · exact Classical.byContradiction fun q => by rw [a4 (by omega)] at hw; omega
theorem mem_col (s : ByteArray) (x : Int) (p : Int × Int) : ∀ m, p ∈ colTo s x m ↔ ∃ j : Nat, j < m ∧ cntTo s x ((j : Int) - 24) s.size = 1 ∧ p = (x, (j : Int) - 24)
  | 0 => ⟨fun h => (by cases h), fun ⟨j, h, _⟩ => (by omega)⟩
  | m + 1 => by
    rw [colTo, List.mem_append, mem_col s x p m]
    constructor
    · rintro (⟨j, h1, h2⟩ | h)
      · exact ⟨j, by omega, h2⟩
      · by_cases e : cntTo s x ((m : Int) - 24) s.size = 1
        · rw [if_pos e, List.mem_singleton] at h
          exact ⟨m, by omega, e, h⟩
        · rw [if_neg e] at h
          cases h
    · rintro ⟨j, h1, h2, h3⟩
      by_cases e : j = m
      · subst e
        right
        rw [if_pos h2, h3]
        exact List.mem_singleton.2 rfl
      · exact .inl ⟨j, by omega, h2, h3⟩
theorem mem_cells' (s : ByteArray) (p : Int × Int) : ∀ m, p ∈ cellsTo s m ↔ ∃ i : Nat, i < m ∧ p ∈ colTo s ((i : Int) - 24) 49
  | 0 => ⟨fun h => (by cases h), fun ⟨j, h, _⟩ => (by omega)⟩
  | m + 1 => by
    rw [cellsTo, List.mem_append, mem_cells' s p m]
    constructor
    · rintro (⟨j, h1, h2⟩ | h)
      · exact ⟨j, by omega, h2⟩
      · exact ⟨m, by omega, h⟩
    · rintro ⟨j, h1, h2⟩
      by_cases e : j = m
      · subst e
        exact .inr h2
      · exact .inl ⟨j, by omega, h2⟩
def rcl (s : ByteArray) : List (Int × Int) := cellsTo s 49
theorem mem_cells {s : ByteArray} (h : isO s = true) (x y : Int) : (x, y) ∈ rcl s ↔ gW s x y = 1 := by
  unfold rcl
  rw [mem_cells']
  constructor
  · rintro ⟨i, hi, hm⟩
    rw [mem_col] at hm
    obtain ⟨j, hj, h1, h2⟩ := hm
    injection h2 with e1 e2
    rw [cnt_W h] at h1
    rw [e1, e2]
    exact h1
  · intro hw
    have hb := gW_in h hw
    refine ⟨(x + 24).toNat, by omega, (mem_col _ _ _ _).2 ⟨(y + 24).toNat, by omega, ?_, ?_⟩⟩
    · rw [cnt_W h, show (((x + 24).toNat : Nat) : Int) - 24 = x by omega, show (((y + 24).toNat : Nat) : Int) - 24 = y by omega]
      exact hw
    · rw [show (((x + 24).toNat : Nat) : Int) - 24 = x by omega, show (((y + 24).toNat : Nat) : Int) - 24 = y by omega]
theorem col_count {s : ByteArray} (h : isO s = true) (x : Int) : ∀ m, ((colTo s x m).length : Int) = S m fun j => gW s x ((j : Int) - 24)
  | 0 => rfl
  | m + 1 => by
    rw [colTo, List.length_append, S_succ, ← col_count h x m, cnt_W h]
    rcases gW_zo h x ((m : Int) - 24) with e | e <;> rw [e] <;> simp
theorem cells_count' {s : ByteArray} (h : isO s = true) : ∀ m, ((cellsTo s m).length : Int) = S m fun i => S 49 fun j => gW s ((i : Int) - 24) ((j : Int) - 24)
  | 0 => rfl
  | m + 1 => by
    rw [cellsTo, List.length_append, S_succ, ← cells_count' h m, ← col_count h]
    omega
theorem Z25 (f : Int → Int) (h : f (-25) = 0) : Z 25 f = S 49 fun j => f ((j : Int) - 24) := by
  show S (49 + 1) _ = _
  rw [S_head]
  show f (((0 : Nat) : Int) - 25) + _ = _
  rw [show (((0 : Nat) : Int) - 25) = -25 from rfl, h, Int.zero_add]
  exact S_congr fun i _ => by congr 1; omega
theorem cells_count {s : ByteArray} (h : isO s = true) : ((rcl s).length : Int) = Z 25 fun x => Z 25 fun y => gW s x y := by
  unfold rcl
  rw [cells_count' h]
  have R := rim_of h
  rw [Z25 (fun x => Z 25 fun y => gW s x y) (Z_zero fun y _ _ => R.l _ _ (by omega))]
  exact S_congr fun i _ => (Z25 (fun y => gW s ((i : Int) - 24) y) (R.d _ _ (by omega))).symm
theorem col_nodup (s : ByteArray) (x : Int) : ∀ m, (colTo s x m).Nodup
  | 0 => List.nodup_nil
  | m + 1 => by
    rw [colTo, List.nodup_append]
    refine ⟨col_nodup s x m, ?_, ?_⟩
    · split <;> simp
    · intro a ha b hb
      rw [mem_col] at ha
      obtain ⟨j, hj, -, rfl⟩ := ha
      split at hb
      · rw [List.mem_singleton] at hb
        subst hb
        intro q
        injection q with q1 q2
        omega
      · cases hb
theorem cells_nodup' (s : ByteArray) : ∀ m, (cellsTo s m).Nodup
  | 0 => List.nodup_nil
  | m + 1 => by
    rw [cellsTo, List.nodup_append]
    refine ⟨cells_nodup' s m, col_nodup s _ _, ?_⟩
    intro a ha b hb
    rw [mem_cells'] at ha
    obtain ⟨i, hi, hm⟩ := ha
    rw [mem_col] at hm hb
    obtain ⟨j, hj, -, rfl⟩ := hm
    obtain ⟨j2, hj2, -, rfl⟩ := hb
    intro q
    injection q with q1 q2
    omega
theorem cells_nodup (s : ByteArray) : (rcl s).Nodup := cells_nodup' s 49
theorem cells_le {s : ByteArray} (h : isO s = true) : (rcl s).length ≤ 36 := by
  have h24 := isW_le (isO_W h)
  have hi := (loop_of h).iso (box_of h) (left_one h)
  have hc := cells_count h
  unfold gW at hc
  rw [← hc] at hi
  have : (s.size : Int) * s.size ≤ 24 * 24 := Int.mul_le_mul (by omega) (by omega) (by omega) (by omega)
  omega
attribute [irreducible] rcl
end Go.Proofs.YtpfenoioeajkmaaDoor.L
end

section
set_option linter.unusedVariables false
set_option linter.unusedSimpArgs false
namespace Go.Proofs.YtpfenoioeajkmaaDoor.X
open Go.RowKit Go.Proofs.YtpfenoioeajkmaaDoorW.PrintWords Go.Proofs.YtpfenoioeajkmaaDoorW.PrintLast Go.Proofs.YtpfenoioeajkmaaDoorW.PrintMore
theorem goodL_mn (x y : Nat → Int) (n : Nat) : goodL x y (mnN n 33) = goodL x y n := by
  unfold mnN
  by_cases h : n ≤ 33
  · rw [if_pos h]
  · rw [if_neg h]
    unfold goodL
    rw [decide_eq_false (show ¬ n ≤ 30 by omega), Bool.and_false, Bool.false_and, decide_eq_false (show ¬ 33 ≤ 30 by decide), Bool.and_false, Bool.false_and]
theorem mn_of_good {x y : Nat → Int} {n : Nat} (h : goodL x y n = true) : mnN n 33 = n := by
  have := (goodL_at h).1
  unfold mnN
  rw [if_pos (by omega)]
end Go.Proofs.YtpfenoioeajkmaaDoor.X
end

section
set_option linter.unusedVariables false
set_option linter.unusedSimpArgs false
namespace Go.Proofs.YtpfenoioeajkmaaDoor.X
open Go.RowKit Go.Proofs.YtpfenoioeajkmaaDoorW.PrintWords Go.Proofs.YtpfenoioeajkmaaDoorW.PrintLast Go.Proofs.YtpfenoioeajkmaaDoorW.PrintMore
def inB (x y : Nat → Int) (n : Nat) (a b : Int) : Bool := (List.range n).any fun k => x k == a && y k == b
theorem inB_iff (x y : Nat → Int) (n : Nat) (a b : Int) : inB x y n a b = true ↔ ∃ k, k < n ∧ x k = a ∧ y k = b := by
  unfold inB
  simp [List.any_eq_true, List.mem_range]
end Go.Proofs.YtpfenoioeajkmaaDoor.X
end

section
set_option linter.unusedVariables false
set_option linter.unusedSimpArgs false
namespace Go.Proofs.YtpfenoioeajkmaaDoor.L
open Go.RowKit Go.Proofs.YtpfenoioeajkmaaDoor.X
abbrev Side := (Int × Int) × Int
def sidesOf (C : Int → Int → Bool) (a b : Int) : List Side :=
  (if C a (b - 1) then [] else [((a, b), 114)]) ++ ((if C (a + 1) b then [] else [((a + 1, b), 117)]) ++ ((if C a (b + 1) then [] else [((a + 1, b + 1), 108)]) ++ (if C (a - 1) b then [] else [((a, b + 1), 100)])))
def sidesTo (C : Int → Int → Bool) (x y : Nat → Int) : Nat → List Side
  | 0 => []
  | k + 1 => sidesTo C x y k ++ sidesOf C (x k) (y k)
def side (C : Int → Int → Bool) (p q c : Int) : Prop :=
  (c = 114 ∧ C p q = true ∧ C p (q - 1) = false) ∨ (c = 117 ∧ C (p - 1) q = true ∧ C p q = false) ∨ (c = 108 ∧ C (p - 1) (q - 1) = true ∧ C (p - 1) q = false) ∨ (c = 100 ∧ C p (q - 1) = true ∧ C (p - 1) (q - 1) = false)
theorem mem_if {P : Prop} [Decidable P] {α : Type} {a b : α} : a ∈ (if P then [] else [b]) ↔ ¬ P ∧ a = b := by
  split
  · simp [*]
  · simp [*]
theorem mem_sidesOf (C : Int → Int → Bool) (a b p q c : Int) : ((p, q), c) ∈ sidesOf C a b ↔
    (c = 114 ∧ p = a ∧ q = b ∧ C a (b - 1) = false) ∨ (c = 117 ∧ p = a + 1 ∧ q = b ∧ C (a + 1) b = false) ∨ (c = 108 ∧ p = a + 1 ∧ q = b + 1 ∧ C a (b + 1) = false) ∨ (c = 100 ∧ p = a ∧ q = b + 1 ∧ C (a - 1) b = false) := by
  unfold sidesOf
  simp only [List.mem_append, mem_if, Prod.mk.injEq, Bool.not_eq_true]
  constructor
  · rintro (⟨h, ⟨h1, h2⟩, h3⟩ | ⟨h, ⟨h1, h2⟩, h3⟩ | ⟨h, ⟨h1, h2⟩, h3⟩ | ⟨h, ⟨h1, h2⟩, h3⟩)
    · exact .inl ⟨h3, h1, h2, h⟩
    · exact .inr (.inl ⟨h3, h1, h2, h⟩)
    · exact .inr (.inr (.inl ⟨h3, h1, h2, h⟩))
    · exact .inr (.inr (.inr ⟨h3, h1, h2, h⟩))
  · rintro (⟨h3, h1, h2, h⟩ | ⟨h3, h1, h2, h⟩ | ⟨h3, h1, h2, h⟩ | ⟨h3, h1, h2, h⟩)
    · exact .inl ⟨h, ⟨h1, h2⟩, h3⟩
    · exact .inr (.inl ⟨h, ⟨h1, h2⟩, h3⟩)
    · exact .inr (.inr (.inl ⟨h, ⟨h1, h2⟩, h3⟩))
    · exact .inr (.inr (.inr ⟨h, ⟨h1, h2⟩, h3⟩))
theorem mem_sidesTo (C : Int → Int → Bool) (x y : Nat → Int) (e : Side) : ∀ k, e ∈ sidesTo C x y k ↔ ∃ i, i < k ∧ e ∈ sidesOf C (x i) (y i)
  | 0 => by simp [sidesTo]
  | k + 1 => by
    rw [sidesTo, List.mem_append, mem_sidesTo C x y e k]
    constructor
    · rintro (⟨i, hi, h⟩ | h)
      · exact ⟨i, by omega, h⟩
      · exact ⟨k, by omega, h⟩
    · rintro ⟨i, hi, h⟩
      by_cases e : i = k
      · subst e
        exact .inr h
      · exact .inl ⟨i, by omega, h⟩
theorem mem_sides {x y : Nat → Int} {n : Nat} (p q c : Int) : ((p, q), c) ∈ sidesTo (inB x y n) x y n ↔ side (inB x y n) p q c := by
  rw [mem_sidesTo]
  simp only [mem_sidesOf]
  unfold side
  constructor
  · rintro ⟨i, hi, ⟨rfl, rfl, rfl, h⟩ | ⟨rfl, rfl, rfl, h⟩ | ⟨rfl, rfl, rfl, h⟩ | ⟨rfl, rfl, rfl, h⟩⟩
    · exact .inl ⟨rfl, (inB_iff ..).2 ⟨i, hi, rfl, rfl⟩, h⟩
    · exact .inr (.inl ⟨rfl, (inB_iff ..).2 ⟨i, hi, by omega, rfl⟩, h⟩)
    · exact .inr (.inr (.inl ⟨rfl, (inB_iff ..).2 ⟨i, hi, by omega, by omega⟩, by rw [show x i + 1 - 1 = x i by omega]; exact h⟩))
    · exact .inr (.inr (.inr ⟨rfl, (inB_iff ..).2 ⟨i, hi, rfl, by omega⟩, by rw [show y i + 1 - 1 = y i by omega]; exact h⟩))
  · rintro (⟨rfl, h1, h2⟩ | ⟨rfl, h1, h2⟩ | ⟨rfl, h1, h2⟩ | ⟨rfl, h1, h2⟩)
    · obtain ⟨i, hi, h3, h4⟩ := (inB_iff ..).1 h1
      exact ⟨i, hi, .inl ⟨rfl, h3.symm, h4.symm, by rw [h3, h4]; exact h2⟩⟩
    · obtain ⟨i, hi, h3, h4⟩ := (inB_iff ..).1 h1
      exact ⟨i, hi, .inr (.inl ⟨rfl, by omega, h4.symm, by rw [h3, h4, show p - 1 + 1 = p by omega]; exact h2⟩)⟩
    · obtain ⟨i, hi, h3, h4⟩ := (inB_iff ..).1 h1
      exact ⟨i, hi, .inr (.inr (.inl ⟨rfl, by omega, by omega, by rw [h3, h4, show q - 1 + 1 = q by omega]; exact h2⟩))⟩
    · obtain ⟨i, hi, h3, h4⟩ := (inB_iff ..).1 h1
      exact ⟨i, hi, .inr (.inr (.inr ⟨rfl, h3.symm, by omega, by rw [h3, h4]; exact h2⟩))⟩
theorem side_isL {C : Int → Int → Bool} {p q c : Int} (h : side C p q c) : isL c := by
  unfold side at h
  unfold isL
  rcases h with ⟨rfl, -⟩ | ⟨rfl, -⟩ | ⟨rfl, -⟩ | ⟨rfl, -⟩ <;> simp
theorem side_in {C : Int → Int → Bool} {p q c a b : Int} (h : side C p q c) (ha : a = p + stepx c) (hb : b = q + stepy c) :
    (c = 114 ∧ C (a - 1) b = true ∧ C (a - 1) (b - 1) = false) ∨ (c = 117 ∧ C (a - 1) (b - 1) = true ∧ C a (b - 1) = false) ∨ (c = 108 ∧ C a (b - 1) = true ∧ C a b = false) ∨ (c = 100 ∧ C a b = true ∧ C (a - 1) b = false) := by
  unfold side at h
  rcases h with ⟨rfl, h1, h2⟩ | ⟨rfl, h1, h2⟩ | ⟨rfl, h1, h2⟩ | ⟨rfl, h1, h2⟩ <;> simp [stepx, stepy] at ha hb
  · obtain rfl : p = a - 1 := by omega
    obtain rfl : q = b := by omega
    exact .inl ⟨rfl, h1, h2⟩
  · obtain rfl : p = a := by omega
    obtain rfl : q = b - 1 := by omega
    exact .inr (.inl ⟨rfl, h1, h2⟩)
  · obtain rfl : p = a + 1 := by omega
    obtain rfl : q = b := by omega
    rw [show a + 1 - 1 = a by omega] at h1 h2
    exact .inr (.inr (.inl ⟨rfl, h1, h2⟩))
  · obtain rfl : p = a := by omega
    obtain rfl : q = b + 1 := by omega
    rw [show b + 1 - 1 = b by omega] at h1 h2
    exact .inr (.inr (.inr ⟨rfl, h1, h2⟩))
theorem side_on {C : Int → Int → Bool} {p q c : Int} (h : side C p q c) : ∃ d, side C (p + stepx c) (q + stepy c) d := by
  have h1 := side_in h rfl rfl
  generalize p + stepx c = a at h1 ⊢
  generalize q + stepy c = b at h1 ⊢
  unfold side
  cases e1 : C a b <;> cases e2 : C (a - 1) b <;> cases e3 : C (a - 1) (b - 1) <;> cases e4 : C a (b - 1) <;> simp [e1, e2, e3, e4] at h1 ⊢
theorem side_back {C : Int → Int → Bool} {p q c p' q' c' : Int} (h : side C p q c) (h' : side C p' q' c') (ea : p + stepx c = p' + stepx c') (eb : q + stepy c = q' + stepy c')
    (hu : ∀ d d', side C (p + stepx c) (q + stepy c) d → side C (p + stepx c) (q + stepy c) d' → d = d') : p = p' ∧ q = q' := by
  have h1 := side_in h rfl rfl
  have h2 := side_in h' ea eb
  suffices hc : c = c' by
    subst hc
    omega
  generalize p + stepx c = a at h1 h2 hu
  generalize q + stepy c = b at h1 h2 hu
  have u1 : ¬ (C a b = true ∧ C a (b - 1) = false ∧ C (a - 1) (b - 1) = true ∧ C (a - 1) b = false) := by
    rintro ⟨a1, a2, a3, a4⟩
    have := hu 114 108 (.inl ⟨rfl, a1, a2⟩) (.inr (.inr (.inl ⟨rfl, a3, a4⟩)))
    omega
  have u2 : ¬ (C (a - 1) b = true ∧ C a b = false ∧ C a (b - 1) = true ∧ C (a - 1) (b - 1) = false) := by
    rintro ⟨a1, a2, a3, a4⟩
    have := hu 117 100 (.inr (.inl ⟨rfl, a1, a2⟩)) (.inr (.inr (.inr ⟨rfl, a3, a4⟩)))
    omega
  clear hu
  cases e1 : C a b <;> cases e2 : C (a - 1) b <;> cases e3 : C (a - 1) (b - 1) <;> cases e4 : C a (b - 1) <;> simp [e1, e2, e3, e4] at h1 h2 u1 u2 <;> omega
section
variable {α β : Type} [DecidableEq α]
theorem findL_mem {l : List (α × β)} {p : α} {c : β} (h : findL l p = some c) : (p, c) ∈ l := by
  induction l with
  | nil => cases h
  | cons e r ih =>
    unfold findL at h
    split at h
    · rename_i he
      injection h with h
      subst he h
      exact List.mem_cons_self
    · exact List.mem_cons_of_mem _ (ih h)
theorem findL_of {l : List (α × β)} (hn : (l.map (·.1)).Nodup) {p : α} {c : β} (h : (p, c) ∈ l) : findL l p = some c := by
  induction l with
  | nil => cases h
  | cons e r ih =>
    rw [List.map_cons, List.nodup_cons] at hn
    unfold findL
    rcases List.mem_cons.1 h with rfl | h
    · rw [if_pos rfl]
    · rw [if_neg, ih hn.2 h]
      intro he
      exact hn.1 (he ▸ List.mem_map.2 ⟨(p, c), h, rfl⟩)
theorem putL_len (l : List (α × β)) (k : α) (v : β) : (putL l k v).length ≤ l.length + 1 ∧ (putL l k v).map (·.1) = if k ∈ l.map (·.1) then l.map (·.1) else l.map (·.1) ++ [k] := by
  induction l with
  | nil => simp [putL]
  | cons p r ih =>
    unfold putL
    by_cases h : p.1 = k
    · rw [if_pos h]
      simp [h]
    · rw [if_neg h]
      refine ⟨by simp only [List.length_cons]; omega, ?_⟩
      rw [List.map_cons, ih.2, List.map_cons]
      by_cases h2 : k ∈ r.map (·.1)
      · rw [if_pos h2, if_pos (List.mem_cons_of_mem _ h2)]
      · rw [if_neg h2, if_neg, List.cons_append]
        intro hh
        rcases List.mem_cons.1 hh with e | e
        · exact h e.symm
        · exact h2 e
def mapOf (l : List (α × β)) : List (α × β) := l.foldl (fun m e => putL m e.1 e.2) []
theorem mapOf_snoc (l : List (α × β)) (e : α × β) : mapOf (l ++ [e]) = putL (mapOf l) e.1 e.2 := by unfold mapOf; rw [List.foldl_append]; rfl
end
theorem rev_ind {α : Type} {P : List α → Prop} (h0 : P []) (h1 : ∀ l a, P l → P (l ++ [a])) (l : List α) : P l := by
  suffices h : ∀ n, ∀ l : List α, l.length = n → P l from h _ l rfl
  intro n
  induction n with
  | zero => intro l hl; rw [List.length_eq_zero_iff.1 hl]; exact h0
  | succ n ih =>
    intro l hl
    have hne : l ≠ [] := by intro e; rw [e] at hl; cases hl
    rw [← List.dropLast_concat_getLast hne]
    exact h1 _ _ (ih _ (by rw [List.length_dropLast]; omega))
section
variable {α β : Type} [DecidableEq α]
theorem mapOf_keys (l : List (α × β)) : (mapOf l).length ≤ l.length ∧ (∀ k, k ∈ (mapOf l).map (·.1) ↔ k ∈ l.map (·.1)) ∧ ((mapOf l).length = l.length → (l.map (·.1)).Nodup) ∧ ((l.map (·.1)).Nodup → mapOf l = l) := by
  refine rev_ind (P := fun l : List (α × β) => (mapOf l).length ≤ l.length ∧ (∀ k, k ∈ (mapOf l).map (·.1) ↔ k ∈ l.map (·.1)) ∧ ((mapOf l).length = l.length → (l.map (·.1)).Nodup) ∧ ((l.map (·.1)).Nodup → mapOf l = l)) ?_ ?_ l
  · simp [mapOf]
  · rintro l e ⟨i1, i2, i3, i4⟩
    rw [mapOf_snoc]
    obtain ⟨p1, p2⟩ := putL_len (mapOf l) e.1 e.2
    have pl : (putL (mapOf l) e.1 e.2).length = ((putL (mapOf l) e.1 e.2).map (·.1)).length := by simp
    refine ⟨by rw [List.length_append]; simp only [List.length_cons, List.length_nil]; omega, fun k => ?_, fun hl => ?_, fun hn => ?_⟩
    · rw [p2]
      by_cases he : e.1 ∈ (mapOf l).map (·.1)
      · rw [if_pos he, i2, List.map_append, List.mem_append]
        constructor
        · exact .inl
        · rintro (h | h)
          · exact h
          · simp at h
            rw [h]
            exact (i2 _).1 he
      · rw [if_neg he, List.mem_append, i2, List.map_append, List.mem_append]
        simp
    · by_cases he : e.1 ∈ (mapOf l).map (·.1)
      · rw [p2, if_pos he, List.length_map] at pl
        rw [List.length_append] at hl
        simp only [List.length_cons, List.length_nil] at hl
        omega
      · rw [p2, if_neg he, List.length_append, List.length_map] at pl
        rw [List.length_append] at hl
        simp only [List.length_cons, List.length_nil] at hl pl
        rw [List.map_append, List.nodup_append]
        refine ⟨i3 (by omega), by simp, fun a ha b hb hab => ?_⟩
        simp at hb
        subst hb
        subst hab
        exact he ((i2 _).2 ha)
    · rw [List.map_append, List.nodup_append] at hn
      rw [i4 hn.1]
      refine putL_none ?_
      cases hf : findL l e.1 with
      | none => rfl
      | some v => exact absurd rfl (hn.2.2 _ (List.mem_map.2 ⟨_, findL_mem hf, rfl⟩) _ (by simp))
end
def ltr (E : List Side) (p : Int × Int) : Int := (findL E p).getD 0
def fol (E : List Side) (p : Int × Int) : Nat → Int × Int
  | 0 => p
  | k + 1 => ((fol E p k).1 + stepx (ltr E (fol E p k)), (fol E p k).2 + stepy (ltr E (fol E p k)))
theorem subset_length {α : Type} [DecidableEq α] : ∀ {l m : List α}, l.Nodup → (∀ a ∈ l, a ∈ m) → l.length ≤ m.length
  | [], _, _, _ => Nat.zero_le _
  | a :: l, m, hn, hs => by
    rw [List.nodup_cons] at hn
    have h1 : l.length ≤ (m.erase a).length := subset_length hn.2 fun b hb => by
      refine (List.mem_erase_of_ne fun e => ?_).2 (hs b (List.mem_cons_of_mem _ hb))
      subst e
      exact hn.1 hb
    have h2 := hs a List.mem_cons_self
    rw [List.length_erase_of_mem h2] at h1
    have := List.length_pos_of_mem h2
    simp only [List.length_cons]
    omega
theorem hole {α : Type} [DecidableEq α] (f : Nat → α) (m : List α) (n : Nat) (hn : m.length < n) (hf : ∀ i, i < n → f i ∈ m) : ∃ i d, 0 < d ∧ i + d < n ∧ f i = f (i + d) := by
  refine Classical.byContradiction fun hc => ?_
  have h1 : ((List.range n).map f).Nodup := by
    unfold List.Nodup
    rw [List.pairwise_map]
    refine List.pairwise_lt_range.imp_of_mem fun {a b} ha hb hab he => hc ⟨a, b - a, by omega, ?_, ?_⟩
    · rw [List.mem_range] at hb
      omega
    · rw [he]
      congr 1
      omega
  have h2 := subset_length h1 fun a ha => by
    obtain ⟨i, hi, rfl⟩ := List.mem_map.1 ha
    exact hf i (List.mem_range.1 hi)
  simp at h2
  omega
theorem least_one (P : Nat → Prop) (n : Nat) : P n → ∃ m, m ≤ n ∧ P m ∧ ∀ k, k < m → ¬ P k := by
  induction n using Nat.strongRecOn with
  | _ n ih =>
    intro h
    by_cases hx : ∃ k, k < n ∧ P k
    · obtain ⟨k, hk, hp⟩ := hx
      obtain ⟨m, h1, h2⟩ := ih k hk hp
      exact ⟨m, by omega, h2⟩
    · exact ⟨n, Nat.le_refl _, h, fun k hk hp => hx ⟨k, hk, hp⟩⟩
theorem come_back {x y : Nat → Int} {n : Nat} {E : List Side} (hE : E = sidesTo (inB x y n) x y n) (hn : (E.map (·.1)).Nodup) {p : Int × Int} {c : Int} (hp : (p, c) ∈ E) :
    ∃ K, 1 ≤ K ∧ K ≤ E.length ∧ fol E p K = p ∧ (∀ k, 0 < k → k < K → fol E p k ≠ p) ∧ ∀ k, ∃ c, findL E (fol E p k) = some c ∧ isL c ∧ ltr E (fol E p k) = c := by
  have hs : ∀ q c, (q, c) ∈ E ↔ side (inB x y n) q.1 q.2 c := fun q c => by rw [hE]; exact mem_sides q.1 q.2 c
  have hf : ∀ k, ∃ c, (fol E p k, c) ∈ E := by
    intro k
    induction k with
    | zero => exact ⟨c, hp⟩
    | succ k ih =>
      obtain ⟨d, hd⟩ := ih
      have h1 := findL_of hn hd
      obtain ⟨d', h2⟩ := side_on ((hs _ _).1 hd)
      refine ⟨d', (hs _ _).2 ?_⟩
      have h3 : ltr E (fol E p k) = d := by unfold ltr; rw [h1]; rfl
      show side _ ((fol E p k).1 + stepx (ltr E (fol E p k))) ((fol E p k).2 + stepy (ltr E (fol E p k))) d'
      rw [h3]
      exact h2
  have hu : ∀ q d d', (q, d) ∈ E → (q, d') ∈ E → d = d' := fun q d d' h1 h2 => by
    have e1 := findL_of hn h1
    rw [findL_of hn h2] at e1
    injection e1 with e1
    exact e1.symm
  have hl : ∀ k, ∃ c, findL E (fol E p k) = some c ∧ isL c ∧ ltr E (fol E p k) = c := fun k => by
    obtain ⟨d, hd⟩ := hf k
    exact ⟨d, findL_of hn hd, side_isL ((hs _ _).1 hd), by unfold ltr; rw [findL_of hn hd]; rfl⟩
  have hb : ∀ i j, fol E p (i + 1) = fol E p (j + 1) → fol E p i = fol E p j := fun i j he => by
    obtain ⟨d, hd⟩ := hf i
    obtain ⟨d', hd'⟩ := hf j
    obtain ⟨_, a1, -, a2⟩ := hl i
    obtain ⟨_, b1, -, b2⟩ := hl j
    rw [findL_of hn hd] at a1
    injection a1 with a1
    subst a1
    rw [findL_of hn hd'] at b1
    injection b1 with b1
    subst b1
    unfold fol at he
    rw [a2, b2] at he
    have e1 := congrArg Prod.fst he
    have e2 := congrArg Prod.snd he
    simp only at e1 e2
    have := side_back ((hs _ _).1 hd) ((hs _ _).1 hd') e1 e2 fun d1 d2 h1 h2 => hu _ d1 d2 ((hs (_, _) _).2 h1) ((hs (_, _) _).2 h2)
    exact Prod.ext this.1 this.2
  have hb' : ∀ i d, fol E p i = fol E p (i + d) → fol E p d = p := by
    intro i d
    induction i with
    | zero => intro h; rw [Nat.zero_add] at h; exact h.symm
    | succ i ih => intro h; rw [show i + 1 + d = i + d + 1 by omega] at h; exact ih (hb _ _ h)
  obtain ⟨i, d, hd0, hd1, he⟩ := hole (fol E p) (E.map (·.1)) (E.length + 1) (by simp) fun i hi => by
    obtain ⟨c, hc⟩ := hf i
    exact List.mem_map.2 ⟨_, hc, rfl⟩
  obtain ⟨K, k1, k2, k3⟩ := least_one (fun k => 0 < k ∧ fol E p k = p) d ⟨hd0, hb' i d he⟩
  exact ⟨K, k2.1, by omega, k2.2, fun k h0 hk e => k3 k hk ⟨h0, e⟩, hl⟩
end Go.Proofs.YtpfenoioeajkmaaDoor.L
end

section
set_option linter.unusedVariables false
namespace Go.Proofs
open Go.Shelf
def Tryd.lays167_ren : Go.Shelf.Ren := ⟨fun | 167 => 70 | 240 => 79 | 276 => 91 | n => n, fun | 70 => 77 | 72 => 80 | 37 => 78 | 75 => 84 | 80 => 86 | 164 => 111 | n => n, fun | n => n⟩
theorem Tryd.lays167 : Go.Proofs.Lays.n167 Tryd.prog Tryd.lays167_ren := {
  mixed := by kernel_rfl
  f167 := Tryd.func70.trans (congrArg some (by kernel_rfl))
  f240 := Tryd.func79.trans (congrArg some (by kernel_rfl))
  f276 := Tryd.func91.trans (congrArg some (by kernel_rfl))
  t0 := Tryd.underlying0
  a0 := Tryd.isAgg0
  z0 := Tryd.sizeOf0
  v0 := Tryd.zeroValue0
  t4 := Tryd.underlying4
  a4 := Tryd.isAgg4
  z4 := Tryd.sizeOf4
  v4 := Tryd.zeroValue4
  t5 := Tryd.underlying5
  a5 := Tryd.isAgg5
  z5 := Tryd.sizeOf5
  v5 := Tryd.zeroValue5
  t9 := Tryd.underlying9
  a9 := Tryd.isAgg9
  z9 := Tryd.sizeOf9
  v9 := Tryd.zeroValue9
  t20 := Tryd.underlying20
  a20 := Tryd.isAgg20
  z20 := Tryd.sizeOf20
  v20 := Tryd.zeroValue20
  t37 := Tryd.underlying78
  a37 := Tryd.isAgg78
  z37 := Tryd.sizeOf78
  v37 := Tryd.zeroValue78
  t70 := Tryd.underlying77
  a70 := Tryd.isAgg77
  z70 := Tryd.sizeOf77
  v70 := Tryd.zeroValue77
  t72 := Tryd.underlying80
  a72 := Tryd.isAgg80
  z72 := Tryd.sizeOf80
  v72 := Tryd.zeroValue80
  t75 := Tryd.underlying84
  a75 := Tryd.isAgg84
  z75 := Tryd.sizeOf84
  v75 := Tryd.zeroValue84
  t164 := Tryd.underlying111
  a164 := Tryd.isAgg111
  z164 := Tryd.sizeOf111
  v164 := Tryd.zeroValue111 }
theorem Tryd.Builder_Extra_167 : Builder.Extra Tryd.prog Tryd.lays167_ren := {
  sizeBuilder := by kernel_rfl
  liesBuilder := by kernel_rfl
  t5 := Tryd.underlying5
  a5 := Tryd.isAgg5
  z5 := Tryd.sizeOf5
  v5 := Tryd.zeroValue5
  infoByte := by kernel_rfl
  cellsByte := by kernel_rfl
  sizeByte := by kernel_rfl
  neB5 := by decide }
open Go.RowKit in
theorem Tryd.Builder_WriteByte_k (B b : Nat) (bs : List Value) (c : Int) (w : World) (h : Lib.IsBuilderF 80 5 B b bs w) (hlen : bs.length + 1 ≤ 140737488355328) (hBw : B ≤ w.heap.size) :
    Calls Tryd.prog 70 #[.pointer (some ⟨b, 0, none⟩), .int .u8 c] w fun e w' => e = .returned .nilIface ∧ (Lib.BuilderAtF 80 5 B b (.pointer (some ⟨b, 0, none⟩)) (bs ++ [.int .u8 c]) w' ∧ Below B w w' ∧ Lib.OthersKept 5 (some b) w w') := Any.Builder_WriteByte_k Tryd.lays167 Tryd.Builder_Extra_167 B b bs c w h hlen hBw
open Go.RowKit in
theorem Tryd.Builder_Len_f (B b : Nat) (bs : List Value) (w : World) (h : Lib.IsBuilderF 80 5 B b bs w) :
    Calls Tryd.prog 68 #[.pointer (some ⟨b, 0, none⟩)] w fun e w' => e = .returned (.int .i64 bs.length) ∧ w' = w := Any.Builder_Len_f Tryd.lays170 B b bs w h
open Go.RowKit in
theorem Tryd.Builder_String_k (B b : Nat) (l : List UInt8) (w : World) (h : Lib.IsBuilderF 80 5 B b (Lib.byteCells l) w) (h0 : l ≠ []) :
    Calls Tryd.prog 71 #[.pointer (some ⟨b, 0, none⟩)] w fun e w' => e = .returned (.string ⟨l.toArray⟩) ∧ Below B w w' := (Any.Builder_String_k Tryd.lays169 Tryd.Builder_Extra_169 B b l w h h0).mono fun e w' hh => ⟨hh.1, hh.2.2.1⟩
end Go.Proofs
end

section
set_option linter.unusedVariables false
set_option linter.unusedSimpArgs false
namespace Go.Proofs.YtpfenoioeajkmaaDoor.X
open Go.RowKit Go.Proofs.YtpfenoioeajkmaaDoorW.PrintWords Go.Proofs.YtpfenoioeajkmaaDoorW.PrintLast Go.Proofs.YtpfenoioeajkmaaDoorW.PrintMore
section
variable {P : Program} {ops : Array Oper} {Q : Exit → Act → World → Prop}
theorem goesv_ {oi : Oper} {N : Option Tmp} {a : Act} {w : World} {K : Act → World → Prop} {f : FuncId} {fn : Func} {x : Operand} {as0 : Array Operand} {ts : Array TypeId} (hf : P.funcs[f]? = some fn) (hname : (fn.name == "runtime.NumGoroutine") = false) (hb : fn.body.isSome = true) (args : Array Value)
    (hw : Region.wanted oi (yielded ops a.tmps) = true) (hN : oi.dst = N) (hop : oi.op = .call { callee := .value x, args := as0, argTypes := ts }) (hx : a.eval x = .func (.func f) #[] #[]) (hargs : as0.map a.eval = args)
    (h : Calls P f args w fun e w' => ∃ v, e = .returned v ∧ K (a.put N v) w') : if Region.wanted oi (yielded ops a.tmps) = true then Oper.wp P oi a w K Q else K (a.put N undef) w := by
  refine call_ f args hw hN ?_ h
  have he := enters_ hf hname hb args w
  unfold execOp
  simp [hop, resolve, Deferred.ofValue, invoke, hx, hargs, he]
end
def lt2 (a b c d : Int) : Prop := a < c ∨ (a = c ∧ b < d)
theorem good_pw {x y : Nat → Int} {n : Nat} (h : goodTo x y n = true) (i : Nat) : ∀ d, i + d + 1 < n → lt2 (x i) (y i) (x (i + d + 1)) (y (i + d + 1))
  | 0, hd => by
    have := (goodTo_at h hd).2
    rw [cmpP_iff] at this
    unfold lt2
    rcases this with e | e
    · omega
    · exact e
  | d + 1, hd => by
    have h1 := good_pw h i d (by omega)
    have := (goodTo_at h hd).2
    rw [cmpP_iff] at this
    unfold lt2 at *
    rcases this with e | e
    · omega
    · rw [show i + (d + 1) + 1 - 1 = i + d + 1 by omega] at e
      omega
theorem good_lt {x y : Nat → Int} {n : Nat} (h : goodTo x y n = true) {i j : Nat} (hij : i < j) (hj : j < n) : lt2 (x i) (y i) (x j) (y j) := by
  obtain ⟨d, rfl⟩ : ∃ d, j = i + d + 1 := ⟨j - i - 1, by omega⟩
  exact good_pw h i d hj
theorem cmpP_zero (a b c d : Int) : cmpP a b c d = 0 ↔ a = c ∧ b = d := by
  unfold cmpP cmpI
  by_cases h1 : a < c
  · simp [h1]
    omega
  · by_cases h2 : a > c
    · simp [h1, h2]
      omega
    · obtain rfl : a = c := by omega
      by_cases h3 : b < d
      · simp [h3]
        omega
      · by_cases h4 : b > d
        · simp [h3, h4]
          omega
        · obtain rfl : b = d := by omega
          simp
set_option maxHeartbeats 8000000 in
set_option maxRecDepth 100000 in
theorem search_calls (A : Option Addr) (n c : Nat) (x y : Nat → Int) (a b : Int) (w : World) (hA : Sl w A n c x y) (hn : n ≤ 1000) (hg : goodTo x y n = true) :
    Calls Tryd.prog 66 #[.slice A n c, ptV a b, .func (.func 67) #[] #[]] w fun e w' => (∃ i : Int, e = .returned (.tuple #[.int .i64 i, .bool (inB x y n a b)])) ∧ Below w.heap.size w w' := by
  have HP := Lib.hid (show 0 < n → ∃ b off, A = some ⟨b, off, none⟩ ∧ n ≤ c ∧ Pts w b off n x y from fun h => by
    rcases hA with ⟨_, h2, _⟩ | ⟨b, off, h1, h4, h3⟩ | ⟨_, _, h2⟩
    · omega
    · exact ⟨b, off, h1, h4, h3⟩
    · omega)
  have HG := Lib.hid hg
  clear hA hg
  unfold ptV
  go_enter Tryd.func66, Tryd.ntmps66
  go_wp2_with fail
  have HB1 := Lib.hid (below_one (w := w) (.cells #[.int .i64 a, .int .i64 b] 63))
  have HC := Lib.hid (two_cells w 63 (.int .i64 a) (.int .i64 b))
  have HZ := Lib.hid (show w.heap.size < (w.alloc (.cells #[.int .i64 a, .int .i64 b] 63)).heap.size by simp)
  generalize hw1 : w.alloc (.cells #[.int .i64 a, .int .i64 b] 63) = w1 at HB1 HC HZ ⊢
  clear hw1
  have HB := Lib.hid (Below.refl w1.heap.size w1)
  go_loopw [9, 10] (fun i j wr => ∃ k m : Nat, k ≤ m ∧ m ≤ n ∧ i = .int .i64 k ∧ j = .int .i64 m ∧ Hid (∀ q, q < k → cmpP (x q) (y q) a b < 0) ∧ Hid (∀ q, m ≤ q → q < n → 0 ≤ cmpP (x q) (y q) a b) ∧ Hid (Below w1.heap.size w1 wr)) (fun i j _ => (intOf j).toNat - (intOf i).toNat)
  case atStart => exact ⟨0, n, by omega, by omega, rfl, rfl, Lib.hid (fun j h => by omega), Lib.hid (fun j h h' => by omega), HB⟩
  case round =>
    clear HB
    obtain ⟨k, m, hkm, hmn, rfl, rfl, HK, HM, HB⟩ := hrel
    by_cases hlt : k < m
    · obtain ⟨b', off, rfl, hnc, hP0⟩ := HP.out (by omega)
      obtain ⟨h, hh⟩ : ∃ h, (k + m) / 2 = h := ⟨_, rfl⟩
      have hk1 : k ≤ h := by omega
      have hk2 : h < m := by omega
      have hP := hP0.later (HB1.out.trans (HB.out.mono HB1.out.size))
      have h0 := hP.c0 h (by omega)
      have h1 := hP.c1 h (by omega)
      obtain ⟨t0, t1⟩ := HC.out
      have t0' := (HB.out.cell (p := ⟨w.heap.size, 0, none⟩) HZ.out).trans t0
      have t1' := (HB.out.cell (p := ⟨w.heap.size, 1, none⟩) HZ.out).trans t1
      have e1 : wrap64 ((k : Int) + m) = k + m := by unfold wrap64; omega
      have hhc : h < n := by omega
      clear hP hP0 t0 t1
      go_wp2_with fail
      rw [show ((k : Int) + (m : Int)) / 2 = (h : Int) by omega]
      obtain ⟨X, hX⟩ : ∃ X, x h = X := ⟨_, rfl⟩
      obtain ⟨Y, hY⟩ : ∃ Y, y h = Y := ⟨_, rfl⟩
      rw [hX] at h0
      rw [hY] at h1
      refine start_ (n := 8) (S := fun w' => w'.cell? ⟨b', off + h * 2, none⟩ = some (.int .i64 X) ∧ w'.cell? ⟨b', off + h * 2 + 1, none⟩ = some (.int .i64 Y) ∧ w'.cell? ⟨w.heap.size, 0, none⟩ = some (.int .i64 a) ∧ w'.cell? ⟨w.heap.size, 1, none⟩ = some (.int .i64 b)) (ds := [6]) #[false, false, false, false, false, false, false, false] (by kernel_rfl) rfl rfl ⟨by simpa using h0, by simpa using h1, by simpa using t0', by simpa using t1'⟩ (fun hHeld => ?_)
      refine pure_ (i := 0) (N := (some 24)) (v := ?_) (a' := ?_) #[true, false, false, false, false, false, false, false] rfl rfl (by kernel_rfl) (fun _ _ _ h => h) (Or.inl ⟨by rfl, ?_⟩) ?_ ?_
      rotate_left
      · intro w'; go_simp; first | done | with_reducible rfl
      rotate_left
      · simp only [Act.put, List.setIfInBounds_toArray, List.set_cons_zero, List.set_cons_succ, i64_w, i32_w]; rfl
      refine pure_ (i := 1) (N := (some 25)) (v := ?_) (a' := ?_) #[true, true, false, false, false, false, false, false] rfl rfl (by kernel_rfl) (fun _ _ _ h => h) (Or.inl ⟨by rfl, ?_⟩) ?_ ?_
      rotate_left
      · intro w'; go_simp; first | done | with_reducible rfl
      rotate_left
      · simp only [Act.put, List.setIfInBounds_toArray, List.set_cons_zero, List.set_cons_succ, i64_w, i32_w]; rfl
      refine pure_ (i := 2) (N := (some 26)) (v := ?_) (a' := ?_) #[true, true, true, false, false, false, false, false] rfl rfl (by kernel_rfl) (fun _ _ _ h => h) (Or.inl ⟨by rfl, ?_⟩) ?_ ?_
      rotate_left
      · intro w'; go_simp; first | done | with_reducible rfl
      rotate_left
      · simp only [Act.put, List.setIfInBounds_toArray, List.set_cons_zero, List.set_cons_succ, i64_w, i32_w]; rfl
      refine pure_ (i := 3) (N := (some 27)) (v := ?_) (a' := ?_) #[true, true, true, true, false, false, false, false] rfl rfl (by kernel_rfl) (fun _ _ _ h => h) (Or.inl ⟨by rfl, ?_⟩) ?_ ?_
      rotate_left
      · intro w'; go_simp; first | done | with_reducible rfl
      rotate_left
      · simp only [Act.put, List.setIfInBounds_toArray, List.set_cons_zero, List.set_cons_succ, i64_w, i32_w]; rfl
      refine take_ (i := 4) (N := (some 28)) (v := ?_) (a' := ?_) #[true, true, true, true, true, false, false, false] rfl rfl (by kernel_rfl) (fun _ _ _ h => h) (Or.inl ⟨by rfl, ?_⟩) hHeld ?_ ?_
      rotate_left
      · rintro w' ⟨s0, s1, s2, s3⟩; go_simp; first | done | with_reducible rfl
      rotate_left
      · simp only [Act.put, List.setIfInBounds_toArray, List.set_cons_zero, List.set_cons_succ, i64_w, i32_w]; rfl
      refine take_ (i := 5) (N := (some 29)) (v := ?_) (a' := ?_) #[true, true, true, true, true, true, false, false] rfl rfl (by kernel_rfl) (fun _ _ _ h => h) (Or.inl ⟨by rfl, ?_⟩) hHeld ?_ ?_
      rotate_left
      · rintro w' ⟨s0, s1, s2, s3⟩; go_simp; first | done | with_reducible rfl
      rotate_left
      · simp only [Act.put, List.setIfInBounds_toArray, List.set_cons_zero, List.set_cons_succ, i64_w, i32_w]; rfl
      refine last_ (i := 6) (N := (some 30)) #[true, true, true, true, true, true, true, false] rfl rfl (by kernel_rfl) (by decide) (fun K hK => ?_)
      refine goesv_ Tryd.func67 (by kernel_rfl) rfl #[ptV X Y, ptV a b] (by rfl) rfl rfl rfl (by (try simp only [List.map_toArray, List.map_cons, List.map_nil]); first | done | rfl) ?_
      refine (compare_calls _ _ _ _ _).mono ?_
      rintro e w2 ⟨rfl, hb2⟩
      refine ⟨_, rfl, ?_⟩
      have HB2 := Lib.hid (HB.out.drew.trans (hb2.mono HB.out.drew.size))
      clear hb2 HB
      refine hK.out _ _ ?_
      clear hK K
      refine norm_ (a' := ?_) ?_ ?_
      rotate_left
      · show Act.put _ (some 30) _ = _; simp only [Act.put, List.setIfInBounds_toArray, List.set_cons_zero, List.set_cons_succ, i64_w, i32_w]; rfl
      refine pure_ (i := 7) (N := (some 31)) (v := ?_) (a' := ?_) #[true, true, true, true, true, true, true, true] rfl rfl (by kernel_rfl) (fun _ _ _ h => h) (Or.inl ⟨by rfl, ?_⟩) ?_ ?_
      rotate_left
      · intro w'; go_simp; first | done | with_reducible rfl
      rotate_left
      · simp only [Act.put, List.setIfInBounds_toArray, List.set_cons_zero, List.set_cons_succ, i64_w, i32_w]; rfl
      refine done_ (by kernel_rfl) ?_
      clear hHeld h0 h1 t0' t1'
      by_cases hc : cmpP X Y a b < 0
      · have HCC := Lib.hid hc
        go_wp2_with fail
        refine ⟨⟨h + 1, m, by omega, by omega, by go_num, rfl, Lib.hid (fun q hq => ?_), HM, HB2⟩, by simp [intOf]; omega⟩
        by_cases e : q = h
        · rw [e, hX, hY]
          exact HCC.out
        · have h2 := good_lt HG.out (show q < h by omega) (by omega)
          have h3 := HCC.out
          rw [cmpP_iff] at h3 ⊢
          rw [hX, hY] at h2
          unfold lt2 at h2
          omega
      · have HCC : Hid (0 ≤ cmpP X Y a b) := Lib.hid (by omega)
        have hc' : ¬ cmpP X Y a b < 0 := hc
        go_wp2_with fail
        refine ⟨⟨k, h, by omega, by omega, rfl, rfl, HK, Lib.hid (fun q hq hqn => ?_), HB2⟩, by simp [intOf]; omega⟩
        by_cases e : q = h
        · rw [e, hX, hY]
          exact HCC.out
        · have h2 := good_lt HG.out (show h < q by omega) (by omega)
          have h3 := HCC.out
          rw [hX, hY] at h2
          unfold lt2 at h2
          refine Int.not_lt.1 fun h4 => ?_
          rw [cmpP_iff] at h4
          have h5 : ¬ cmpP X Y a b < 0 := by omega
          rw [cmpP_iff] at h5
          omega
    · obtain rfl : k = m := by omega
      have HBW : Hid (Below w.heap.size w wr) := Lib.hid (HB1.out.trans (HB.out.mono HB1.out.size))
      by_cases hkn : k < n
      · obtain ⟨b', off, rfl, hnc, hP0⟩ := HP.out (by omega)
        have hP := hP0.later HBW.out
        have h0 := hP.c0 k hkn
        have h1 := hP.c1 k hkn
        obtain ⟨t0, t1⟩ := HC.out
        have t0' := (HB.out.cell (p := ⟨w.heap.size, 0, none⟩) HZ.out).trans t0
        have t1' := (HB.out.cell (p := ⟨w.heap.size, 1, none⟩) HZ.out).trans t1
        have hkc : k < c := by omega
        clear hP hP0 t0 t1 hlt
        go_wp2_with fail
        obtain ⟨X, hX⟩ : ∃ X, x k = X := ⟨_, rfl⟩
        obtain ⟨Y, hY⟩ : ∃ Y, y k = Y := ⟨_, rfl⟩
        rw [hX] at h0
        rw [hY] at h1
        have HXY := Lib.hid (And.intro hX hY)
        have HZ2 := Lib.hid (show Below w.heap.size w wr from HBW.out)
        clear hX hY
        refine start_ (n := 16) (S := fun w' => w'.cell? ⟨b', off + k * 2, none⟩ = some (.int .i64 X) ∧ w'.cell? ⟨b', off + k * 2 + 1, none⟩ = some (.int .i64 Y) ∧ w'.cell? ⟨w.heap.size, 0, none⟩ = some (.int .i64 a) ∧ w'.cell? ⟨w.heap.size, 1, none⟩ = some (.int .i64 b)) (ds := [11]) #[false, false, false, false, false, false, false, false, false, false, false, false, false, false, false, false] (by kernel_rfl) rfl rfl ⟨by simpa using h0, by simpa using h1, by simpa using t0', by simpa using t1'⟩ (fun hHeld => ?_)
        refine pure_ (i := 0) (N := (some 35)) (v := ?_) (a' := ?_) #[true, false, false, false, false, false, false, false, false, false, false, false, false, false, false, false] rfl rfl (by kernel_rfl) (fun _ _ _ h => h) (Or.inl ⟨by rfl, ?_⟩) ?_ ?_
        rotate_left
        · intro w'; go_simp; first | done | with_reducible rfl
        rotate_left
        · simp only [Act.put, List.setIfInBounds_toArray, List.set_cons_zero, List.set_cons_succ, i64_w, i32_w]; rfl
        refine pure_ (i := 1) (N := (some 36)) (v := ?_) (a' := ?_) #[true, true, false, false, false, false, false, false, false, false, false, false, false, false, false, false] rfl rfl (by kernel_rfl) (fun _ _ _ h => h) (Or.inl ⟨by rfl, ?_⟩) ?_ ?_
        rotate_left
        · intro w'; go_simp; first | done | with_reducible rfl
        rotate_left
        · simp only [Act.put, List.setIfInBounds_toArray, List.set_cons_zero, List.set_cons_succ, i64_w, i32_w]; rfl
        refine pure_ (i := 2) (N := (some 37)) (v := ?_) (a' := ?_) #[true, true, true, false, false, false, false, false, false, false, false, false, false, false, false, false] rfl rfl (by kernel_rfl) (fun _ _ _ h => h) (Or.inl ⟨by rfl, ?_⟩) ?_ ?_
        rotate_left
        · intro w'; go_simp; first | done | with_reducible rfl
        rotate_left
        · simp only [Act.put, List.setIfInBounds_toArray, List.set_cons_zero, List.set_cons_succ, i64_w, i32_w]; rfl
        refine pure_ (i := 3) (N := (some 38)) (v := (.bool true)) (a' := ?_) #[true, true, true, true, false, false, false, false, false, false, false, false, false, false, false, false] rfl rfl (by kernel_rfl) (fun _ _ _ h => h) (Or.inl ⟨by rfl, ?_⟩) ?_ ?_
        · intro w'; go_simp; first | done | with_reducible rfl
        rotate_left
        · simp only [Act.put, List.setIfInBounds_toArray, List.set_cons_zero, List.set_cons_succ, i64_w, i32_w]; rfl
        refine pure_ (i := 4) (N := (some 39)) (v := ?_) (a' := ?_) #[true, true, true, true, true, false, false, false, false, false, false, false, false, false, false, false] rfl rfl (by kernel_rfl) (fun _ _ _ h => h) (Or.inl ⟨by rfl, ?_⟩) ?_ ?_
        rotate_left
        · intro w'; go_simp; first | done | with_reducible rfl
        rotate_left
        · simp only [Act.put, List.setIfInBounds_toArray, List.set_cons_zero, List.set_cons_succ, i64_w, i32_w]; rfl
        refine pure_ (i := 5) (N := (some 40)) (v := ?_) (a' := ?_) #[true, true, true, true, true, true, false, false, false, false, false, false, false, false, false, false] rfl rfl (by kernel_rfl) (fun _ _ _ h => h) (Or.inl ⟨by rfl, ?_⟩) ?_ ?_
        rotate_left
        · intro w'; go_simp; first | done | with_reducible rfl
        rotate_left
        · simp only [Act.put, List.setIfInBounds_toArray, List.set_cons_zero, List.set_cons_succ, i64_w, i32_w]; rfl
        refine pure_ (i := 6) (N := (some 41)) (v := ?_) (a' := ?_) #[true, true, true, true, true, true, true, false, false, false, false, false, false, false, false, false] rfl rfl (by kernel_rfl) (fun _ _ _ h => h) (Or.inl ⟨by rfl, ?_⟩) ?_ ?_
        rotate_left
        · intro w'; go_simp; first | done | with_reducible rfl
        rotate_left
        · simp only [Act.put, List.setIfInBounds_toArray, List.set_cons_zero, List.set_cons_succ, i64_w, i32_w]; rfl
        refine pure_ (i := 7) (N := (some 42)) (v := ?_) (a' := ?_) #[true, true, true, true, true, true, true, true, false, false, false, false, false, false, false, false] rfl rfl (by kernel_rfl) (fun _ _ _ h => h) (Or.inl ⟨by rfl, ?_⟩) ?_ ?_
        rotate_left
        · intro w'; go_simp; first | done | with_reducible rfl
        rotate_left
        · simp only [Act.put, List.setIfInBounds_toArray, List.set_cons_zero, List.set_cons_succ, i64_w, i32_w]; rfl
        refine pure_ (i := 8) (N := (some 43)) (v := ?_) (a' := ?_) #[true, true, true, true, true, true, true, true, true, false, false, false, false, false, false, false] rfl rfl (by kernel_rfl) (fun _ _ _ h => h) (Or.inl ⟨by rfl, ?_⟩) ?_ ?_
        rotate_left
        · intro w'; go_simp; first | done | with_reducible rfl
        rotate_left
        · simp only [Act.put, List.setIfInBounds_toArray, List.set_cons_zero, List.set_cons_succ, i64_w, i32_w]; rfl
        refine take_ (i := 9) (N := (some 44)) (v := ?_) (a' := ?_) #[true, true, true, true, true, true, true, true, true, true, false, false, false, false, false, false] rfl rfl (by kernel_rfl) (fun _ _ _ h => h) (Or.inl ⟨by rfl, ?_⟩) hHeld ?_ ?_
        rotate_left
        · rintro w' ⟨s0, s1, s2, s3⟩; go_simp; first | done | with_reducible rfl
        rotate_left
        · simp only [Act.put, List.setIfInBounds_toArray, List.set_cons_zero, List.set_cons_succ, i64_w, i32_w]; rfl
        refine take_ (i := 10) (N := (some 45)) (v := ?_) (a' := ?_) #[true, true, true, true, true, true, true, true, true, true, true, false, false, false, false, false] rfl rfl (by kernel_rfl) (fun _ _ _ h => h) (Or.inl ⟨by rfl, ?_⟩) hHeld ?_ ?_
        rotate_left
        · rintro w' ⟨s0, s1, s2, s3⟩; go_simp; first | done | with_reducible rfl
        rotate_left
        · simp only [Act.put, List.setIfInBounds_toArray, List.set_cons_zero, List.set_cons_succ, i64_w, i32_w]; rfl
        refine last_ (i := 11) (N := (some 46)) #[true, true, true, true, true, true, true, true, true, true, true, true, false, false, false, false] rfl rfl (by kernel_rfl) (by decide) (fun K hK => ?_)
        refine goesv_ Tryd.func67 (by kernel_rfl) rfl #[ptV X Y, ptV a b] (by rfl) rfl rfl rfl (by (try simp only [List.map_toArray, List.map_cons, List.map_nil]); first | done | rfl) ?_
        refine (compare_calls _ _ _ _ _).mono ?_
        rintro e w2 ⟨rfl, hb2⟩
        refine ⟨_, rfl, ?_⟩
        have HB2 := Lib.hid (HBW.out.drew.trans (hb2.mono HBW.out.drew.size))
        clear hb2 HBW HB
        refine hK.out _ _ ?_
        clear hK K
        refine norm_ (a' := ?_) ?_ ?_
        rotate_left
        · show Act.put _ (some 46) _ = _; simp only [Act.put, List.setIfInBounds_toArray, List.set_cons_zero, List.set_cons_succ, i64_w, i32_w]; rfl
        refine pure_ (i := 12) (N := (some 47)) (v := ?_) (a' := ?_) #[true, true, true, true, true, true, true, true, true, true, true, true, true, false, false, false] rfl rfl (by kernel_rfl) (fun _ _ _ h => h) (Or.inl ⟨by rfl, ?_⟩) ?_ ?_
        rotate_left
        · intro w'; go_simp; first | done | with_reducible rfl
        rotate_left
        · simp only [Act.put, List.setIfInBounds_toArray, List.set_cons_zero, List.set_cons_succ, i64_w, i32_w]; rfl
        refine pure_ (i := 13) (N := (some 48)) (v := ?_) (a' := ?_) #[true, true, true, true, true, true, true, true, true, true, true, true, true, true, false, false] rfl rfl (by kernel_rfl) (fun _ _ _ h => h) (Or.inl ⟨by rfl, ?_⟩) ?_ ?_
        rotate_left
        · intro w'; go_simp; first | done | with_reducible rfl
        rotate_left
        · simp only [Act.put, List.setIfInBounds_toArray, List.set_cons_zero, List.set_cons_succ, i64_w, i32_w]; rfl
        refine pure_ (i := 14) (N := (some 6)) (v := ?_) (a' := ?_) #[true, true, true, true, true, true, true, true, true, true, true, true, true, true, true, false] rfl rfl (by kernel_rfl) (fun _ _ _ h => h) (Or.inl ⟨by rfl, ?_⟩) ?_ ?_
        rotate_left
        · intro w'; go_simp; first | done | with_reducible rfl
        rotate_left
        · simp only [Act.put, List.setIfInBounds_toArray, List.set_cons_zero, List.set_cons_succ, i64_w, i32_w]; rfl
        refine pure_ (i := 15) (N := (some 7)) (v := ?_) (a' := ?_) #[true, true, true, true, true, true, true, true, true, true, true, true, true, true, true, true] rfl rfl (by kernel_rfl) (fun _ _ _ h => h) (Or.inl ⟨by rfl, ?_⟩) ?_ ?_
        rotate_left
        · intro w'; go_simp; first | done | with_reducible rfl
        rotate_left
        · simp only [Act.put, List.setIfInBounds_toArray, List.set_cons_zero, List.set_cons_succ, i64_w, i32_w]; rfl
        refine done_ (by kernel_rfl) ?_
        clear hHeld h0 h1 t0' t1'
        go_wp2
        go_ret2
        refine ⟨⟨k, congrArg (fun b : Bool => Ending.returned (.tuple #[.int .i64 k, .bool b])) ?_⟩, HB2.out⟩
        rw [Bool.eq_iff_iff, beq_iff_eq, cmpP_zero, inB_iff, ← HXY.out.1, ← HXY.out.2]
        constructor
        · rintro ⟨h1, h2⟩
          exact ⟨k, hkn, h1, h2⟩
        · rintro ⟨q, hq, rfl, rfl⟩
          by_cases e1 : q < k
          · have := HK.out q e1
            rw [cmpP_iff] at this
            omega
          · by_cases e2 : q = k
            · subst e2
              exact ⟨rfl, rfl⟩
            · have h2 := good_lt HG.out (show k < q by omega) hq
              have h3 := HM.out k (Nat.le_refl _) hkn
              have h5 : ¬ cmpP (x k) (y k) (x q) (y q) < 0 := by omega
              rw [cmpP_iff] at h5
              unfold lt2 at h2
              omega
      · have hkn2 : k = n := by omega
        have hx0 : ¬ (k : Int) < n := by omega
        go_wp2_with fail
        refine start_ (n := 16) (S := fun w' => True) (ds := []) #[false, false, false, false, false, false, false, false, false, false, false, false, false, false, false, false] (by kernel_rfl) rfl rfl trivial (fun hHeld => ?_)
        refine pure_ (i := 0) (N := (some 35)) (v := ?_) (a' := ?_) #[true, false, false, false, false, false, false, false, false, false, false, false, false, false, false, false] rfl rfl (by kernel_rfl) (fun _ _ _ h => h) (Or.inl ⟨by rfl, ?_⟩) ?_ ?_
        rotate_left
        · intro w'; go_simp; first | done | with_reducible rfl
        rotate_left
        · simp only [Act.put, List.setIfInBounds_toArray, List.set_cons_zero, List.set_cons_succ, i64_w, i32_w]; rfl
        refine pure_ (i := 1) (N := (some 36)) (v := ?_) (a' := ?_) #[true, true, false, false, false, false, false, false, false, false, false, false, false, false, false, false] rfl rfl (by kernel_rfl) (fun _ _ _ h => h) (Or.inl ⟨by rfl, ?_⟩) ?_ ?_
        rotate_left
        · intro w'; go_simp; first | done | with_reducible rfl
        rotate_left
        · simp only [Act.put, List.setIfInBounds_toArray, List.set_cons_zero, List.set_cons_succ, i64_w, i32_w]; rfl
        refine pure_ (i := 2) (N := (some 37)) (v := ?_) (a' := ?_) #[true, true, true, false, false, false, false, false, false, false, false, false, false, false, false, false] rfl rfl (by kernel_rfl) (fun _ _ _ h => h) (Or.inl ⟨by rfl, ?_⟩) ?_ ?_
        rotate_left
        · intro w'; go_simp; first | done | with_reducible rfl
        rotate_left
        · simp only [Act.put, List.setIfInBounds_toArray, List.set_cons_zero, List.set_cons_succ, i64_w, i32_w]; rfl
        refine pure_ (i := 3) (N := (some 38)) (v := (.bool false)) (a' := ?_) #[true, true, true, true, false, false, false, false, false, false, false, false, false, false, false, false] rfl rfl (by kernel_rfl) (fun _ _ _ h => h) (Or.inl ⟨by rfl, ?_⟩) ?_ ?_
        · intro w'; go_simp; first | done | with_reducible rfl
        rotate_left
        · simp only [Act.put, List.setIfInBounds_toArray, List.set_cons_zero, List.set_cons_succ, i64_w, i32_w]; rfl
        refine pure_ (i := 4) (N := (some 39)) (v := ?_) (a' := ?_) #[true, true, true, true, true, false, false, false, false, false, false, false, false, false, false, false] rfl rfl (by kernel_rfl) (fun _ _ _ h => h) (Or.inl ⟨by rfl, ?_⟩) ?_ ?_
        rotate_left
        · intro w'; go_simp; first | done | with_reducible rfl
        rotate_left
        · simp only [Act.put, List.setIfInBounds_toArray, List.set_cons_zero, List.set_cons_succ, i64_w, i32_w]; rfl
        refine off_ (i := 5) (N := (some 40)) #[true, true, true, true, true, true, false, false, false, false, false, false, false, false, false, false] rfl rfl (by kernel_rfl) (fun _ _ _ h => h) (by rfl) (by simp only [Act.put, List.setIfInBounds_toArray, List.set_cons_zero, List.set_cons_succ, i64_w, i32_w]; rfl) ?_
        refine off_ (i := 6) (N := (some 41)) #[true, true, true, true, true, true, true, false, false, false, false, false, false, false, false, false] rfl rfl (by kernel_rfl) (fun _ _ _ h => h) (by rfl) (by simp only [Act.put, List.setIfInBounds_toArray, List.set_cons_zero, List.set_cons_succ, i64_w, i32_w]; rfl) ?_
        refine off_ (i := 7) (N := (some 42)) #[true, true, true, true, true, true, true, true, false, false, false, false, false, false, false, false] rfl rfl (by kernel_rfl) (fun _ _ _ h => h) (by rfl) (by simp only [Act.put, List.setIfInBounds_toArray, List.set_cons_zero, List.set_cons_succ, i64_w, i32_w]; rfl) ?_
        refine off_ (i := 8) (N := (some 43)) #[true, true, true, true, true, true, true, true, true, false, false, false, false, false, false, false] rfl rfl (by kernel_rfl) (fun _ _ _ h => h) (by rfl) (by simp only [Act.put, List.setIfInBounds_toArray, List.set_cons_zero, List.set_cons_succ, i64_w, i32_w]; rfl) ?_
        refine off_ (i := 9) (N := (some 44)) #[true, true, true, true, true, true, true, true, true, true, false, false, false, false, false, false] rfl rfl (by kernel_rfl) (fun _ _ _ h => h) (by rfl) (by simp only [Act.put, List.setIfInBounds_toArray, List.set_cons_zero, List.set_cons_succ, i64_w, i32_w]; rfl) ?_
        refine off_ (i := 10) (N := (some 45)) #[true, true, true, true, true, true, true, true, true, true, true, false, false, false, false, false] rfl rfl (by kernel_rfl) (fun _ _ _ h => h) (by rfl) (by simp only [Act.put, List.setIfInBounds_toArray, List.set_cons_zero, List.set_cons_succ, i64_w, i32_w]; rfl) ?_
        refine off_ (i := 11) (N := (some 46)) #[true, true, true, true, true, true, true, true, true, true, true, true, false, false, false, false] rfl rfl (by kernel_rfl) (fun _ _ _ h => h) (by rfl) (by simp only [Act.put, List.setIfInBounds_toArray, List.set_cons_zero, List.set_cons_succ, i64_w, i32_w]; rfl) ?_
        refine off_ (i := 12) (N := (some 47)) #[true, true, true, true, true, true, true, true, true, true, true, true, true, false, false, false] rfl rfl (by kernel_rfl) (fun _ _ _ h => h) (by rfl) (by simp only [Act.put, List.setIfInBounds_toArray, List.set_cons_zero, List.set_cons_succ, i64_w, i32_w]; rfl) ?_
        refine pure_ (i := 13) (N := (some 48)) (v := ?_) (a' := ?_) #[true, true, true, true, true, true, true, true, true, true, true, true, true, true, false, false] rfl rfl (by kernel_rfl) (fun _ _ _ h => h) (Or.inl ⟨by rfl, ?_⟩) ?_ ?_
        rotate_left
        · intro w'; go_simp; first | done | with_reducible rfl
        rotate_left
        · simp only [Act.put, List.setIfInBounds_toArray, List.set_cons_zero, List.set_cons_succ, i64_w, i32_w]; rfl
        refine pure_ (i := 14) (N := (some 6)) (v := ?_) (a' := ?_) #[true, true, true, true, true, true, true, true, true, true, true, true, true, true, true, false] rfl rfl (by kernel_rfl) (fun _ _ _ h => h) (Or.inl ⟨by rfl, ?_⟩) ?_ ?_
        rotate_left
        · intro w'; go_simp; first | done | with_reducible rfl
        rotate_left
        · simp only [Act.put, List.setIfInBounds_toArray, List.set_cons_zero, List.set_cons_succ, i64_w, i32_w]; rfl
        refine pure_ (i := 15) (N := (some 7)) (v := ?_) (a' := ?_) #[true, true, true, true, true, true, true, true, true, true, true, true, true, true, true, true] rfl rfl (by kernel_rfl) (fun _ _ _ h => h) (Or.inl ⟨by rfl, ?_⟩) ?_ ?_
        rotate_left
        · intro w'; go_simp; first | done | with_reducible rfl
        rotate_left
        · simp only [Act.put, List.setIfInBounds_toArray, List.set_cons_zero, List.set_cons_succ, i64_w, i32_w]; rfl
        refine done_ (by kernel_rfl) ?_
        have HB2 := Lib.hid HBW.out.drew
        clear hHeld
        go_wp2
        go_ret2
        refine ⟨⟨n, congrArg (fun b : Bool => Ending.returned (.tuple #[.int .i64 n, .bool b])) ?_⟩, HB2.out⟩
        symm
        rw [Bool.eq_false_iff, Ne, inB_iff]
        rintro ⟨q, hq, rfl, rfl⟩
        have := HK.out q (by omega)
        rw [cmpP_iff] at this
        omega
end Go.Proofs.YtpfenoioeajkmaaDoor.X
end

section
set_option linter.unusedVariables false
set_option linter.unusedSimpArgs false
namespace Go.Proofs.YtpfenoioeajkmaaDoor.X
open Go.RowKit Go.Proofs.YtpfenoioeajkmaaDoorW.PrintWords Go.Proofs.YtpfenoioeajkmaaDoorW.PrintLast Go.Proofs.YtpfenoioeajkmaaDoorW.PrintMore Go.Proofs.YtpfenoioeajkmaaDoor.L
def flatS : List Side → List Value
  | [] => []
  | e :: l => [.int .i64 e.1.1, .int .i64 e.1.2, .int .u8 e.2] ++ flatS l
theorem flatS_get : ∀ (l : List Side) (i : Nat) (h : i < l.length), (flatS l)[i * 3]? = some (.int .i64 l[i].1.1) ∧ (flatS l)[i * 3 + 1]? = some (.int .i64 l[i].1.2) ∧ (flatS l)[i * 3 + 2]? = some (.int .u8 l[i].2)
  | e :: l, 0, h => ⟨rfl, rfl, rfl⟩
  | e :: l, i + 1, h => by
    have := flatS_get l i (by simpa using h)
    rw [flatS]
    simp only [List.getElem_cons_succ]
    rw [show (i + 1) * 3 = i * 3 + 3 by omega, show i * 3 + 3 + 1 = i * 3 + 1 + 3 by omega, show i * 3 + 3 + 2 = i * 3 + 2 + 3 by omega]
    exact this
def OwnS (B : Nat) (w : World) (v : Value) (l : List Side) : Prop := w.ownsRow B 89 3 v l.length (flatS l)
structure Sds (w : World) (b off : Nat) (l : List Side) : Prop where
  c0 : ∀ (i : Nat) (h : i < l.length), w.cell? ⟨b, off + i * 3, none⟩ = some (.int .i64 l[i].1.1)
  c1 : ∀ (i : Nat) (h : i < l.length), w.cell? ⟨b, off + i * 3 + 1, none⟩ = some (.int .i64 l[i].1.2)
  c2 : ∀ (i : Nat) (h : i < l.length), w.cell? ⟨b, off + i * 3 + 2, none⟩ = some (.int .u8 l[i].2)
theorem Sds.later {w w' : World} {b off : Nat} {l : List Side} (h : Sds w b off l) (hb : Below w.heap.size w w') : Sds w' b off l :=
  ⟨fun i hi => (hb.cell (p := ⟨b, off + i * 3, none⟩) (World.block_lt_of_cell? w _ (h.c0 i hi))).trans (h.c0 i hi), fun i hi => (hb.cell (p := ⟨b, off + i * 3 + 1, none⟩) (World.block_lt_of_cell? w _ (h.c1 i hi))).trans (h.c1 i hi), fun i hi => (hb.cell (p := ⟨b, off + i * 3 + 2, none⟩) (World.block_lt_of_cell? w _ (h.c2 i hi))).trans (h.c2 i hi)⟩
theorem OwnS.open {w : World} {base : Nat} {v : Value} {l : List Side} (h : OwnS base w v l) (h0 : 0 < l.length) : ∃ g cap, v = .slice (some ⟨g, 0, none⟩) l.length cap ∧ l.length ≤ cap ∧ Sds w g 0 l := by
  obtain ⟨_, ⟨_, h⟩ | ⟨g, cap, cur, rfl, hg, hb, hn, _, hs, ht⟩⟩ := h
  · omega
  · refine ⟨g, cap, rfl, hn, ?_⟩
    have key : ∀ j u, (flatS l)[j]? = some u → j < l.length * 3 → w.cell? ⟨g, 0 + j, none⟩ = some u := fun j u hu hj => by
      rw [← ht, List.getElem?_take, if_pos hj] at hu
      have hu' : cur[j]? = some u := by simpa using hu
      rw [Nat.zero_add]
      unfold World.cell?
      simp only [hb]
      simpa using hu'
    exact ⟨fun i hi => key _ _ (flatS_get l i hi).1 (by omega), fun i hi => by rw [Nat.add_assoc]; exact key _ _ (flatS_get l i hi).2.1 (by omega), fun i hi => by rw [Nat.add_assoc]; exact key _ _ (flatS_get l i hi).2.2 (by omega)⟩
def wl (E : List Side) (p : Int × Int) (k : Nat) : List UInt8 := (List.range k).map fun i => (ltr E (fol E p i)).toNat.toUInt8
theorem wl_succ (E : List Side) (p : Int × Int) (k : Nat) : wl E p (k + 1) = wl E p k ++ [(ltr E (fol E p k)).toNat.toUInt8] := by
  unfold wl
  rw [List.range_succ, List.map_append]
  rfl
theorem wl_length (E : List Side) (p : Int × Int) (k : Nat) : (wl E p k).length = k := by simp [wl]
def wlB (E : List Side) (p : Int × Int) (k : Nat) : ByteArray := ⟨(wl E p k).toArray⟩
theorem wlB_size (E : List Side) (p : Int × Int) (k : Nat) : (wlB E p k).size = k := by
  show (wl E p k).toArray.size = k
  simp [wl_length]
structure OutR (E : List Side) (p : Int × Int) (K : Nat) (r : ByteArray) (d : Int) : Prop where
  twice : ¬ (E.map (·.1)).Nodup → r = ⟨#[]⟩ ∧ d = 5
  turn : (E.map (·.1)).Nodup → 1 ≤ K ∧ K ≤ E.length ∧ fol E p K = p ∧ (∀ k, 0 < k → k < K → fol E p k ≠ p) ∧ ∀ k, ∃ c, findL E (fol E p k) = some c ∧ isL c ∧ ltr E (fol E p k) = c
  few : (E.map (·.1)).Nodup → K < E.length → r = ⟨#[]⟩ ∧ d = 5
  many : (E.map (·.1)).Nodup → K = E.length → 24 < K → r = ⟨#[]⟩ ∧ d = 6
  fits : (E.map (·.1)).Nodup → K = E.length → K ≤ 24 → r = firstTo (wlB E p K) K ∧ d = 0
theorem fol_succ (E : List Side) (p : Int × Int) (k : Nat) : fol E p (k + 1) = ((fol E p k).1 + stepx (ltr E (fol E p k)), (fol E p k).2 + stepy (ltr E (fol E p k))) := rfl
theorem step_small (c : Int) : (-1 ≤ stepx c ∧ stepx c ≤ 1) ∧ -1 ≤ stepy c ∧ stepy c ≤ 1 := by
  unfold stepx stepy
  (repeat' split) <;> omega
theorem fol_le (E : List Side) (p : Int × Int) : ∀ k : Nat, (p.1 - k ≤ (fol E p k).1 ∧ (fol E p k).1 ≤ p.1 + k) ∧ p.2 - k ≤ (fol E p k).2 ∧ (fol E p k).2 ≤ p.2 + k
  | 0 => by simp [fol]
  | k + 1 => by
    have := fol_le E p k
    have := step_small (ltr E (fol E p k))
    rw [fol_succ]
    simp only
    omega
theorem sidesOf_length (C : Int → Int → Bool) (a b : Int) : (sidesOf C a b).length ≤ 4 := by
  unfold sidesOf
  simp only [List.length_append]
  (repeat' split) <;> simp
theorem sidesTo_length (C : Int → Int → Bool) (x y : Nat → Int) : ∀ k, (sidesTo C x y k).length ≤ 4 * k
  | 0 => by simp [sidesTo]
  | k + 1 => by
    have := sidesTo_length C x y k
    have := sidesOf_length C (x k) (y k)
    rw [sidesTo, List.length_append]
    omega
end Go.Proofs.YtpfenoioeajkmaaDoor.X
end

section
set_option linter.unusedVariables false
set_option linter.unusedSimpArgs false
namespace Go.Proofs.YtpfenoioeajkmaaDoor.X
open Go.RowKit Go.Proofs.YtpfenoioeajkmaaDoorW.PrintWords Go.Proofs.YtpfenoioeajkmaaDoorW.PrintLast Go.Proofs.YtpfenoioeajkmaaDoorW.PrintMore Go.Proofs.YtpfenoioeajkmaaDoor.L
def fX (a : Int) (j : Nat) : Int := if j = 1 ∨ j = 2 then a + 1 else a
def fY (b : Int) (j : Nat) : Int := if j = 2 ∨ j = 3 then b + 1 else b
def nX (a : Int) (j : Nat) : Int := if j = 1 then a + 1 else if j = 3 then a - 1 else a
def nY (b : Int) (j : Nat) : Int := if j = 0 then b - 1 else if j = 2 then b + 1 else b
def fL (j : Nat) : Int := if j = 0 then 114 else if j = 1 then 117 else if j = 2 then 108 else 100
def sof (C : Int → Int → Bool) (a b : Int) : Nat → List Side
  | 0 => []
  | j + 1 => sof C a b j ++ if C (nX a j) (nY b j) then [] else [((fX a j, fY b j), fL j)]
theorem sof_four (C : Int → Int → Bool) (a b : Int) : sof C a b 4 = sidesOf C a b := by
  unfold sidesOf
  simp [sof, nX, nY, fX, fY, fL, List.append_assoc]
theorem sof_length (C : Int → Int → Bool) (a b : Int) : ∀ j, (sof C a b j).length ≤ j
  | 0 => by simp [sof]
  | j + 1 => by
    have := sof_length C a b j
    rw [sof, List.length_append]
    split <;> simp <;> omega
theorem sidesTo_letters (C : Int → Int → Bool) (x y : Nat → Int) (k : Nat) : ∀ e ∈ sidesTo C x y k, isL e.2 := fun e he => by
  obtain ⟨i, -, h⟩ := (mem_sidesTo C x y e k).1 he
  obtain ⟨⟨p, q⟩, c⟩ := e
  rw [mem_sidesOf] at h
  unfold isL
  simp only
  omega
theorem mapOf_letters (l : List Side) (h : ∀ e ∈ l, isL e.2) : ∀ q c, findL (mapOf l) q = some c → isL c := by
  refine rev_ind (P := fun l : List Side => (∀ e ∈ l, isL e.2) → ∀ q c, findL (mapOf l) q = some c → isL c) ?_ ?_ l h
  · intro _ q c h
    cases h
  · intro l e ih he q c hf
    rw [mapOf_snoc, findL_putL] at hf
    split at hf
    · injection hf with hf
      rw [← hf]
      exact he e (by simp)
    · exact ih (fun a ha => he a (by simp [ha])) q c hf
def quadC (X Y : Int) : List Value := [.int .i64 X, .int .i64 Y, .int .i64 X, .int .i64 (Y - 1), .int .u8 114, .int .i64 (X + 1), .int .i64 Y, .int .i64 (X + 1), .int .i64 Y, .int .u8 117, .int .i64 (X + 1), .int .i64 (Y + 1), .int .i64 X, .int .i64 (Y + 1), .int .u8 108, .int .i64 X, .int .i64 (Y + 1), .int .i64 (X - 1), .int .i64 Y, .int .u8 100]
structure Quad (w : World) (g : Nat) (X Y : Int) : Prop where
  c0 : ∀ j : Nat, j < 4 → w.cell? ⟨g, j * 5, none⟩ = some (.int .i64 (fX X j))
  c1 : ∀ j : Nat, j < 4 → w.cell? ⟨g, j * 5 + 1, none⟩ = some (.int .i64 (fY Y j))
  c2 : ∀ j : Nat, j < 4 → w.cell? ⟨g, j * 5 + 2, none⟩ = some (.int .i64 (nX X j))
  c3 : ∀ j : Nat, j < 4 → w.cell? ⟨g, j * 5 + 3, none⟩ = some (.int .i64 (nY Y j))
  c4 : ∀ j : Nat, j < 4 → w.cell? ⟨g, j * 5 + 4, none⟩ = some (.int .u8 (fL j))
theorem Quad.of {w : World} {g : Nat} {X Y : Int} {t : TypeId} (h : w.heap[g]? = some (.cells (quadC X Y).toArray t (0, 0))) : Quad w g X Y := by
  have four : ∀ {j : Nat}, j < 4 → j = 0 ∨ j = 1 ∨ j = 2 ∨ j = 3 := fun h => by omega
  constructor <;> intro j hj <;> rw [blk_cell h] <;> rcases four hj with rfl | rfl | rfl | rfl <;> rfl
theorem Quad.later {w w' : World} {g : Nat} {X Y : Int} (h : Quad w g X Y) (hb : Below w.heap.size w w') : Quad w' g X Y := by
  have hlt := World.block_lt_of_cell? w _ (h.c0 0 (by omega))
  exact ⟨fun j hj => (hb.cell (p := ⟨g, j * 5, none⟩) hlt).trans (h.c0 j hj), fun j hj => (hb.cell (p := ⟨g, j * 5 + 1, none⟩) hlt).trans (h.c1 j hj), fun j hj => (hb.cell (p := ⟨g, j * 5 + 2, none⟩) hlt).trans (h.c2 j hj), fun j hj => (hb.cell (p := ⟨g, j * 5 + 3, none⟩) hlt).trans (h.c3 j hj), fun j hj => (hb.cell (p := ⟨g, j * 5 + 4, none⟩) hlt).trans (h.c4 j hj)⟩
theorem Quad.keep {w w' : World} {g : Nat} {X Y : Int} (h : Quad w g X Y) (he : w'.heap[g]? = w.heap[g]?) : Quad w' g X Y :=
  ⟨fun j hj => (World.cell?_of_block (a := ⟨g, j * 5, none⟩) he).trans (h.c0 j hj), fun j hj => (World.cell?_of_block (a := ⟨g, j * 5 + 1, none⟩) he).trans (h.c1 j hj), fun j hj => (World.cell?_of_block (a := ⟨g, j * 5 + 2, none⟩) he).trans (h.c2 j hj), fun j hj => (World.cell?_of_block (a := ⟨g, j * 5 + 3, none⟩) he).trans (h.c3 j hj), fun j hj => (World.cell?_of_block (a := ⟨g, j * 5 + 4, none⟩) he).trans (h.c4 j hj)⟩
structure OuS (w1 : World) (M : List Side) (wr : World) : Prop where
  map : IsM pairV (Value.int .u8) wr w1.heap.size M
  bl : Below w1.heap.size w1 wr
theorem OuS.later {w1 : World} {M : List Side} {wr w2 : World} (h : OuS w1 M wr) (hb : Below wr.heap.size wr w2) : OuS w1 M w2 :=
  ⟨h.map.below hb, h.bl.trans (hb.mono h.bl.size)⟩
structure FoS (w1 : World) (b : Nat) (M : List Side) (p : Int × Int) (k g : Nat) (wr : World) : Prop where
  map : IsM pairV (Value.int .u8) wr w1.heap.size M
  bl : Below w1.heap.size w1 wr
  bd : Lib.IsBuilderF 80 5 b b (Lib.byteCells (wl M p k)) wr
  pt : wr.heap[g]? = some (.cells #[.int .i64 (fol M p k).1, .int .i64 (fol M p k).2] 63 (0, 0))
  rb : w1.heap.size < b
  gb : b < g
theorem bld_later {T e : TypeId} {B b : Nat} {bs : List Value} {w w' : World} (h : Lib.IsBuilderF T e B b bs w) (hb : Below w.heap.size w w') : Lib.IsBuilderF T e B b bs w' := by
  have key : ∀ p, Lib.BuilderAtF T e B b p bs w → Lib.BuilderAtF T e B b p bs w' := by
    intro p hp
    have hlt := hp.lt
    obtain ⟨h1, v, h2, ⟨h3, h4⟩, h5⟩ := hp
    refine ⟨h1, v, (hb.block b hlt).trans h2, ⟨h3, ?_⟩, h5⟩
    rcases h4 with h4 | ⟨g, cap, cur, fz, e1, e2, e3, e4⟩
    · exact .inl h4
    · exact .inr ⟨g, cap, cur, fz, e1, e2, (hb.block g (Array.getElem?_eq_some_iff.1 e3).1).trans e3, e4⟩
  rcases h with h | h
  · exact .inl (key _ h)
  · exact .inr (key _ h)
theorem FoS.later {w1 : World} {b : Nat} {M : List Side} {p : Int × Int} {k g : Nat} {wr w2 : World} (h : FoS w1 b M p k g wr) (hb : Below wr.heap.size wr w2) : FoS w1 b M p k g w2 :=
  ⟨h.map.below hb, h.bl.trans (hb.mono h.bl.size), bld_later h.bd hb, (hb.block g (Array.getElem?_eq_some_iff.1 h.pt).1).trans h.pt, h.rb, h.gb⟩
theorem bld_len {T e : TypeId} {B b : Nat} {bs : List Value} {w : World} (h : Lib.IsBuilderF T e B b bs w) : ∃ a c, w.cell? ⟨b, 1, none⟩ = some (.slice a bs.length c) := by
  have key : ∀ p, Lib.BuilderAtF T e B b p bs w → ∃ a c, w.cell? ⟨b, 1, none⟩ = some (.slice a bs.length c) := by
    rintro p ⟨h1, v, h2, ⟨h3, h4⟩, h5⟩
    have hc : w.cell? ⟨b, 1, none⟩ = some v := by simp [World.cell?, h2]
    rcases h4 with ⟨h4, h6⟩ | ⟨g, cap, cur, fz, e1, e2, e3, e4⟩
    · exact ⟨none, 0, by rw [hc, h4, h6]⟩
    · exact ⟨_, cap, by rw [hc, e1]⟩
  rcases h with h | h
  · exact key _ h
  · exact key _ h
def wayLeft (b n : Nat) (w : World) : Nat := match w.cell? ⟨b, 1, none⟩ with
  | some (.slice _ k _) => n + 1 - k
  | _ => 0
theorem FoS.left {w1 : World} {b : Nat} {M : List Side} {p : Int × Int} {k g : Nat} {wr : World} (h : FoS w1 b M p k g wr) (n : Nat) : wayLeft b n wr = n + 1 - k := by
  obtain ⟨a, c, hc⟩ := bld_len h.bd
  unfold wayLeft
  rw [hc, Lib.byteCells_length, wl_length]
theorem FoS.next {w1 : World} {b : Nat} {M : List Side} {p : Int × Int} {k g : Nat} {wr w2 : World} (h : FoS w1 b M p k g wr) (hl : isL (ltr M (fol M p k)) ∨ ltr M (fol M p k) = 0)
    (hbd : Lib.BuilderAtF 80 5 b b (.pointer (some ⟨b, 0, none⟩)) (Lib.byteCells (wl M p k) ++ [.int .u8 (ltr M (fol M p k))]) w2) (hb : Below b wr w2) (hk : Lib.OthersKept 5 (some b) wr w2) :
    IsM pairV (Value.int .u8) w2 w1.heap.size M ∧ Below w1.heap.size w1 w2 ∧ Lib.IsBuilderF 80 5 b b (Lib.byteCells (wl M p (k + 1))) w2 ∧ w2.heap[g]? = some (.cells #[.int .i64 (fol M p k).1, .int .i64 (fol M p k).2] 63 (0, 0)) := by
  refine ⟨h.map.of_heap (hb.block _ h.rb), h.bl.trans (hb.mono (Nat.le_of_lt h.rb)), .inr ?_, hk g _ h.pt (by have := h.gb; simp; omega) (by simp)⟩
  rw [wl_succ, Lib.byteCells_append]
  have e : Lib.byteCells [(ltr M (fol M p k)).toNat.toUInt8] = [.int .u8 (ltr M (fol M p k))] := by
    unfold isL at hl
    rcases hl with (e | e | e | e) | e <;> rw [e] <;> rfl
  rw [e]
  exact hbd
theorem FoS.start {w1 w : World} {M : List Side} {p : Int × Int} (h : OuS w1 M w) : FoS w1 w.heap.size M p 0 (w.heap.size + 1) ((w.alloc (.cells #[.pointer none, .slice none 0 0] 80)).alloc (.cells #[.int .i64 p.1, .int .i64 p.2] 63)) := by
  have hb1 := below_one (w := w) (.cells #[.pointer none, .slice none 0 0] 80)
  have hb2 := below_one (w := w.alloc (.cells #[.pointer none, .slice none 0 0] 80)) (.cells #[.int .i64 p.1, .int .i64 p.2] 63)
  have e : (w.alloc (.cells #[.pointer none, .slice none 0 0] 80)).heap.size = w.heap.size + 1 := by simp
  have hbb := hb1.trans (hb2.mono hb1.size)
  refine ⟨h.map.below hbb, h.bl.trans (hbb.mono h.bl.size), bld_later (Lib.IsBuilderF.of (Lib.fresh_isBuilder 80 5 w)) hb2, ?_, h.map.lt, by omega⟩
  rw [← e]
  exact blk_new _ _
theorem plus_at {a b c d r t : Int} (h1 : wrap64 (a + c) = r) (h2 : wrap64 (b + d) = t) (w : World) : Calls Tryd.prog 65 #[ptV a b, ptV c d] w fun e w' => e = .returned (.agg #[.int .i64 r, .int .i64 t]) ∧ Below w.heap.size w w' := by
  rw [← h1, ← h2]
  exact plus_calls a b c d w
theorem value_step {P : Program} {ops : Array Oper} {oi : Oper} {N : Option Tmp} {a : Act} {Q : Exit → Act → World → Prop} {K : Act → World → Prop} {W w1 : World} {v : Value} (hw : Region.wanted oi (yielded ops a.tmps) = true) (hN : oi.dst = N)
    (hrun : (execOp a.eval oi).run P W = .ok (.value v) w1) (h : K (a.put N v) w1) : if Region.wanted oi (yielded ops a.tmps) = true then Oper.wp P oi a W K Q else K (a.put N undef) W := by
  subst hN
  rw [if_pos hw]
  unfold Oper.wp
  rw [hrun]
  exact h
theorem FoS.len {w1 : World} {b : Nat} {M : List Side} {p : Int × Int} {k g : Nat} {wr : World} (h : FoS w1 b M p k g wr) : Calls Tryd.prog 68 #[.pointer (some ⟨b, 0, none⟩)] wr fun e w' => e = .returned (.int .i64 k) ∧ w' = wr := by
  refine (Tryd.Builder_Len_f b b _ _ h.bd).mono ?_
  rintro e w' ⟨rfl, rfl⟩
  rw [Lib.byteCells_length, wl_length]
  exact ⟨rfl, rfl⟩
theorem set_two {w : World} {g : Nat} {a b u v : Value} {t : TypeId} {fz : Nat × Nat} (h : w.heap[g]? = some (.cells #[a, b] t fz)) : ((w.setCell ⟨g, 0, none⟩ u).setCell ⟨g, 1, none⟩ v).heap[g]? = some (.cells #[u, v] t fz) := by
  simp [World.setCell, Array.getElem?_modify, h]
theorem OutR.stop {E M : List Side} {p : Int × Int} {K m : Nat} {r : ByteArray} {d : Int} (hR : OutR E p K r d) (hM : mapOf E = M) (h1 : 1 ≤ m) (hmin : ∀ i, 0 < i → i < m → fol M p i ≠ p) (hs : fol M p m = p ∨ E.length < m) :
    (m ≠ E.length → r = ⟨#[]⟩ ∧ d = 5) ∧ (m = E.length → M.length ≠ E.length → r = ⟨#[]⟩ ∧ d = 5) ∧ (m = E.length → M.length = E.length → (24 < E.length → r = ⟨#[]⟩ ∧ d = 6) ∧ (E.length ≤ 24 → r = firstTo (wlB M p m) m ∧ d = 0)) := by
  by_cases hn : (E.map (·.1)).Nodup
  · have e : M = E := by rw [← hM]; exact (mapOf_keys E).2.2.2 hn
    subst e
    obtain ⟨a1, a2, a3, a4, a5⟩ := hR.turn hn
    have hmK : m = K := by
      rcases hs with h | h
      · by_cases q : m < K
        · exact absurd h (a4 m (by omega) q)
        · by_cases q2 : K < m
          · exact absurd a3 (hmin K (by omega) q2)
          · omega
      · exact absurd a3 (hmin K (by omega) (by omega))
    subst hmK
    refine ⟨fun h => hR.few hn (by omega), fun _ h => absurd rfl h, fun h _ => ⟨fun h2 => hR.many hn h (by omega), fun h2 => hR.fits hn h (by omega)⟩⟩
  · have := hR.twice hn
    refine ⟨fun _ => this, fun _ _ => this, fun _ h => absurd ?_ hn⟩
    rw [← hM] at h
    exact (mapOf_keys E).2.2.1 h
theorem wlB_ascii {M : List Side} (hM : ∀ q c, findL M q = some c → isL c) (p : Int × Int) (k : Nat) : ascii (wlB M p k) = true := by
  unfold ascii wlB
  rw [List.all_eq_true]
  intro c hc
  have hc' : c ∈ wl M p k := by simpa using hc
  unfold wl at hc'
  obtain ⟨i, -, rfl⟩ := List.mem_map.1 hc'
  have : ltr M (fol M p i) = 0 ∨ isL (ltr M (fol M p i)) := by
    unfold ltr
    cases h : findL M (fol M p i) with
    | none => exact .inl rfl
    | some c => exact .inr (hM _ _ h)
  unfold isL at this
  rcases this with e | e | e | e | e <;> rw [e] <;> rfl
theorem ltr_letter {M : List Side} (hM : ∀ q c, findL M q = some c → isL c) (q : Int × Int) : isL (ltr M q) ∨ ltr M q = 0 := by
  unfold ltr
  cases h : findL M q with
  | none => exact .inr rfl
  | some c => exact .inl (hM _ _ h)
theorem run_len71 {r : Nat} {es : Array MapEntry} {clock : Nat} {w : World} (hb : w.heap[r]? = some (.map es clock)) : (Builtin.len_ #[71] 3 #[.map (some r)]).run Tryd.prog w = .ok (.int .i64 es.size) w := by
  simp [Builtin.len_, run_underlying Tryd.underlying71, MapKept.run_getObj_map hb, goInt]
end Go.Proofs.YtpfenoioeajkmaaDoor.X
end
