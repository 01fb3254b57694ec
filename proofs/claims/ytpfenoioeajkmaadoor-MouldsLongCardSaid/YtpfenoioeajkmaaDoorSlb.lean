/- Texts of this claim, merged by a program (wip/tools/shake.py); what nothing names is left out. -/
import Derived.Shelf.Sort.Plain
import Derived.Shelf.SlSortCmp.WholeK
import Derived.Ground.SlsfProg
import Derived.Ground.Names2Prog
import Derived.Test.YtpfenoioeajkmaaDoorProg
import Derived.Maps.OwnOps
import Derived.Maps.OwnSet
import Derived.Maps.Views
import Derived.Maps.RangeWalk
import Derived.Test.YtpfenoioeajkmaaDoorSla
section
set_option linter.unusedVariables false
set_option linter.unusedSimpArgs false
namespace Go.Proofs.YtpfenoioeajkmaaDoor.G
theorem min_lex (X Y : Nat → Int) : ∀ n, 0 < n → ∃ i, i < n ∧ ∀ j, j < n → Y i < Y j ∨ (Y i = Y j ∧ X i ≤ X j)
  | 1, _ => ⟨0, by omega, fun j hj => by obtain rfl : j = 0 := by omega
                                         exact .inr ⟨rfl, Int.le_refl _⟩⟩
  | n + 2, _ => by
    obtain ⟨i, hi, h⟩ := min_lex X Y (n + 1) (by omega)
    by_cases e : Y i < Y (n + 1) ∨ (Y i = Y (n + 1) ∧ X i ≤ X (n + 1))
    · exact ⟨i, by omega, fun j hj => by
        by_cases q : j = n + 1
        · rw [q]; exact e
        · exact h j (by omega)⟩
    · exact ⟨n + 1, by omega, fun j hj => by
        by_cases q : j = n + 1
        · rw [q]; exact .inr ⟨rfl, Int.le_refl _⟩
        · have := h j (by omega); omega⟩
section
variable {n : Nat} {X Y : Nat → Int} {D : Nat → Nat}
theorem Loop.per1 (L : Loop n X Y D) (i : Nat) : X (i + n + 1) = X (i + 1) ∧ Y (i + n + 1) = Y (i + 1) ∧ D (i + n + 1) = D (i + 1) := by
  rw [show i + n + 1 = i + 1 + n by omega, L.px, L.py, L.pd]
  exact ⟨rfl, rfl, rfl⟩
theorem Loop.W_rot (L : Loop n X Y D) (b : Nat) (x y : Int) : W n (fun i => X (b + i)) (fun i => Y (b + i)) (fun i => D (b + i)) x y = W n X Y D x y := by
  unfold W
  exact S_rot (f := wi X Y D x y) (fun i => by unfold wi; rw [L.px, L.py, L.pd]) b
theorem Loop.turn4 (L : Loop n X Y D) (h1 : LW n X Y D 0 = 1) : S n (fun i => turn (D i) (D (i + 1))) = 4 := by
  have h4 := L.n4
  obtain ⟨b, hb, hm⟩ := min_lex X Y n (by omega)
  have hL : LW n (fun i => X (b + i)) (fun i => Y (b + i)) (fun i => D (b + i)) 0 = 1 := by
    show W n (fun i => X (b + i)) (fun i => Y (b + i)) (fun i => D (b + i)) (cx (X b) (D b)) (cy (Y b) (D b)) = 1
    rw [L.W_rot, ← h1, ← L.LW_eq b]
    rfl
  have := (L.shift b).turn4' hL fun j => by
    show Y b < Y (b + j) ∨ (Y b = Y (b + j) ∧ X b ≤ X (b + j))
    rw [← L.mod_x (b + j), ← L.mod_y (b + j)]
    exact hm _ (Nat.mod_lt _ (by omega))
  rw [← this, ← S_rot (f := fun i => turn (D i) (D (i + 1))) (fun i => by rw [L.pd, (L.per1 i).2.2]) b]
  exact S_congr fun i _ => rfl
def inn (n : Nat) (X Y : Nat → Int) (D : Nat → Nat) (a b : Int) : Int := if W n X Y D a b = 1 ∧ W n X Y D (a - 1) b = 1 ∧ W n X Y D (a - 1) (b - 1) = 1 ∧ W n X Y D a (b - 1) = 1 then 1 else 0
def on (X Y : Nat → Int) (D : Nat → Nat) (a b : Int) (i : Nat) : Int := if X (i + 1) = a ∧ Y (i + 1) = b then 2 - turn (D i) (D (i + 1)) else 0
theorem Loop.point (L : Loop n X Y D) (h1 : LW n X Y D 0 = 1) (a b : Int) :
    W n X Y D a b + W n X Y D (a - 1) b + W n X Y D (a - 1) (b - 1) + W n X Y D a (b - 1) = 4 * inn n X Y D a b + S n (on X Y D a b) := by
  have h4 := L.n4
  by_cases hp : ∃ j, j < n ∧ X (j + 1) = a ∧ Y (j + 1) = b
  · obtain ⟨j, hj, rfl, rfl⟩ := hp
    obtain ⟨-, -, h, -, hr⟩ := L.around j
    rw [L.LW_eq, h1] at h hr
    have hs : S n (on X Y D (X (j + 1)) (Y (j + 1))) = 2 - turn (D j) (D (j + 1)) := by
      rw [S_one (k := j) hj]
      · unfold on
        rw [if_pos ⟨rfl, rfl⟩]
      · intro i hi hne
        unfold on
        rw [if_neg]
        rintro ⟨hx, hy⟩
        have := mod_add_cancel (b := 1) (i := i) (j := j) (by rw [Nat.add_comm 1, Nat.add_comm 1]; exact L.inj _ _ hx hy)
        rw [Nat.mod_eq_of_lt hi, Nat.mod_eq_of_lt hj] at this
        exact hne this
    rw [hs]
    have hin : inn n X Y D (X (j + 1)) (Y (j + 1)) = 0 := by
      unfold inn
      rw [if_neg]
      rintro ⟨q0, q1, q2, q3⟩
      have hd := L.d4 (j + 1)
      rcases d_cases hd with e | e | e | e <;> rw [e] at hr <;> simp [cx, cy] at hr <;> omega
    rw [hin]
    simp [cx, cy] at h
    omega
  · have hs : S n (on X Y D a b) = 0 := S_zero fun i hi => by
      unfold on
      rw [if_neg fun q => hp ⟨i, hi, q⟩]
    have ht : ∀ k, S n (ti X Y D a b k) = 0 := fun k => S_zero fun i hi => by
      unfold ti
      rw [if_neg fun q => hp ⟨(i + n - 1) % n, Nat.mod_lt _ (by omega), by
          have e : X ((i + n - 1) % n + 1) = X i := by rw [L.sx, L.mod_x, L.mod_d, ← L.sx, show i + n - 1 + 1 = i + n by omega, L.px]
          have e2 : Y ((i + n - 1) % n + 1) = Y i := by rw [L.sy, L.mod_y, L.mod_d, ← L.sy, show i + n - 1 + 1 = i + n by omega, L.py]
          rw [e, e2]; exact q.2⟩, if_neg fun q => hp ⟨i, hi, q.2⟩]
      rfl
    have c1 := cross L a b (k := 1) (by omega)
    have c2 := cross L a b (k := 2) (by omega)
    have c3 := cross L a b (k := 3) (by omega)
    rw [ht] at c1 c2 c3
    simp [cx, cy] at c1 c2 c3
    rw [hs]
    have := L.zo h1 a b
    unfold inn
    split <;> omega
theorem Loop.pick (L : Loop n X Y D) {K : Nat} (hB : Box K X Y) (h1 : LW n X Y D 0 = 1) : 2 * (Z K fun x => Z K fun y => W n X Y D x y) = n - 2 + 2 * Z K fun a => Z K fun b => inn n X Y D a b := by
  have hx : ∀ f : Int → Int → Int, (∀ y, f (-(K : Int) - 1) y = 0) → (∀ y, f ((K : Int) - 1) y = 0) → (Z K fun x => Z K fun y => f (x - 1) y) = Z K fun x => Z K fun y => f x y := fun f h1 h2 =>
    Z_shift (f := fun x => Z K fun y => f x y) (Z_zero fun y _ _ => h1 y) (Z_zero fun y _ _ => h2 y)
  have wl : ∀ y, W n X Y D (-(K : Int) - 1) y = 0 := fun y => L.W_left y fun i => by have := hB i; omega
  have wr : ∀ y, W n X Y D ((K : Int) - 1) y = 0 := fun y => W_right y fun i => by have := hB i; omega
  have wd : ∀ x, W n X Y D x (-(K : Int) - 1) = 0 := fun x => L.W_down x fun i => by have := hB i; omega
  have wu : ∀ x, W n X Y D x ((K : Int) - 1) = 0 := fun x => L.W_up x fun i => by have := hB i; omega
  have e1 : (Z K fun x => Z K fun y => W n X Y D (x - 1) y) = Z K fun x => Z K fun y => W n X Y D x y := hx (fun x y => W n X Y D x y) wl wr
  have e2 : (Z K fun x => Z K fun y => W n X Y D x (y - 1)) = Z K fun x => Z K fun y => W n X Y D x y := Z_congr fun x _ _ => Z_shift (f := fun y => W n X Y D x y) (wd x) (wu x)
  have e3 : (Z K fun x => Z K fun y => W n X Y D (x - 1) (y - 1)) = Z K fun x => Z K fun y => W n X Y D x y := (hx (fun x y => W n X Y D x (y - 1)) (fun y => wl _) (fun y => wr _)).trans e2
  have hs : (Z K fun a => Z K fun b => W n X Y D a b + W n X Y D (a - 1) b + W n X Y D (a - 1) (b - 1) + W n X Y D a (b - 1)) = Z K fun a => Z K fun b => 4 * inn n X Y D a b + S n (on X Y D a b) :=
    Z_congr fun a _ _ => Z_congr fun b _ _ => L.point h1 a b
  simp only [Z_add, Z_mul] at hs
  simp only [e1, e2, e3] at hs
  have ho : (Z K fun a => Z K fun b => S n (on X Y D a b)) = 2 * n - 4 := by
    have q1 : (fun a => Z K fun b => S n (on X Y D a b)) = fun a => S n fun i => Z K fun b => on X Y D a b i := by
      funext a
      exact Z_S K n fun b i => on X Y D a b i
    rw [q1, Z_S K n fun a i => Z K fun b => on X Y D a b i]
    have q2 : ∀ i, (Z K fun a => Z K fun b => on X Y D a b i) = 2 - turn (D i) (D (i + 1)) := by
      intro i
      obtain ⟨b1, b2, b3, b4⟩ := hB (i + 1)
      rw [Z_one (a := X (i + 1)) (by omega) (by omega), Z_one (a := Y (i + 1)) (by omega) (by omega)]
      · unfold on
        rw [if_pos ⟨rfl, rfl⟩]
      · intro b hb
        unfold on
        rw [if_neg (by omega)]
      · intro a ha
        refine Z_zero fun b _ _ => ?_
        unfold on
        rw [if_neg (by omega)]
    rw [S_congr fun i _ => q2 i, S_sub, S_const, L.turn4 h1]
    omega
  rw [ho] at hs
  have f1 : (Z K fun x => Z K (W n X Y D x)) = Z K fun x => Z K fun y => W n X Y D x y := rfl
  have f2 : (Z K fun x => Z K (inn n X Y D x)) = Z K fun x => Z K fun y => inn n X Y D x y := rfl
  rw [f1, f2] at hs
  omega
theorem Loop.even (L : Loop n X Y D) : n % 2 = 0 := by
  have h : ∀ i : Nat, (X i + Y i - X 0 - Y 0 - i) % 2 = 0 := by
    intro i
    induction i with
    | zero => simp; omega
    | succ i ih =>
      rw [L.sx, L.sy]
      rcases unit_of _ (L.d4 i) with ⟨e, f⟩ | ⟨e, f⟩ | ⟨e, f⟩ | ⟨e, f⟩ <;> rw [e, f] <;> omega
  have := h n
  have hx := L.px 0
  have hy := L.py 0
  rw [Nat.zero_add] at hx hy
  rw [hx, hy] at this
  omega
def ab (x : Int) : Int := if 0 ≤ x then x else -x
theorem span (f : Nat → Int) (m : Nat) : f m - f 0 ≤ S m (fun i => ab (f (i + 1) - f i)) ∧ f 0 - f m ≤ S m (fun i => ab (f (i + 1) - f i)) := by
  have h := S_tel m f
  have h1 : S m (fun i => f (i + 1) - f i) ≤ S m (fun i => ab (f (i + 1) - f i)) := S_le fun i _ => by unfold ab; split <;> omega
  have h2 : S m (fun i => -(f (i + 1) - f i)) ≤ S m (fun i => ab (f (i + 1) - f i)) := S_le fun i _ => by unfold ab; split <;> omega
  rw [S_neg] at h2
  omega
theorem span2 (f : Nat → Int) {n : Nat} (hp : ∀ i, f (i + n) = f i) (hn : 0 < n) (i j : Nat) : 2 * (f i - f j) ≤ S n (fun i => ab (f (i + 1) - f i)) := by
  have hmod : ∀ i, f (i % n) = f i := by
    have : ∀ q r, f (r + q * n) = f r := fun q r => by
      induction q with
      | zero => rw [Nat.zero_mul, Nat.add_zero]
      | succ q ih => rw [Nat.succ_mul, ← Nat.add_assoc, hp, ih]
    intro i
    rw [← this (i / n) (i % n), Nat.mul_comm, Nat.mod_add_div]
  have hg : ∃ m, m < n ∧ f (i + m) = f j := by
    refine ⟨(j + n - i % n) % n, Nat.mod_lt _ hn, ?_⟩
    have hi := Nat.mod_lt i hn
    have e : (i + (j + n - i % n) % n) % n = j % n := by
      rw [Nat.add_mod, Nat.mod_mod, ← Nat.add_mod]
      have h3 := Nat.mod_add_div i n
      have : i + (j + n - i % n) = j + n + n * (i / n) := by omega
      rw [this, Nat.add_mul_mod_self_left, Nat.add_mod_right]
    rw [← hmod (i + _), e, hmod]
  obtain ⟨m, hm, e⟩ := hg
  have hr := S_rot (n := n) (f := fun i => ab (f (i + 1) - f i)) (fun k => by rw [hp, show k + n + 1 = k + 1 + n by omega, hp]) i
  rw [← hr]
  have hs := S_split m (n - m) (fun k => ab (f (i + k + 1) - f (i + k)))
  rw [show m + (n - m) = n by omega] at hs
  rw [hs]
  have s1 := (span (fun k => f (i + k)) m).2
  have s2 := (span (fun k => f (i + m + k)) (n - m)).1
  simp only [Nat.add_zero, Nat.add_assoc] at s1 s2 ⊢
  rw [show i + (m + (n - m)) = i + n by omega, hp] at s2
  rw [e] at s1 s2
  omega
theorem Loop.iso (L : Loop n X Y D) {K : Nat} (hB : Box K X Y) (h1 : LW n X Y D 0 = 1) : 16 * (Z K fun x => Z K fun y => W n X Y D x y) ≤ (n : Int) * n := by
  have h4 := L.n4
  obtain ⟨i1, a1⟩ := L.maxX
  obtain ⟨i2, hi2, a2⟩ := max_of (fun i => -X i) n (by omega)
  obtain ⟨i3, hi3, a3⟩ := max_of Y n (by omega)
  obtain ⟨i4, hi4, a4⟩ := max_of (fun i => -Y i) n (by omega)
  have b2 : ∀ j, X i2 ≤ X j := fun j => by have := a2 _ (Nat.mod_lt j (show 0 < n by omega)); rw [L.mod_x] at this; omega
  have b3 : ∀ j, Y j ≤ Y i3 := fun j => by have := a3 _ (Nat.mod_lt j (show 0 < n by omega)); rw [L.mod_y] at this; omega
  have b4 : ∀ j, Y i4 ≤ Y j := fun j => by have := a4 _ (Nat.mod_lt j (show 0 < n by omega)); rw [L.mod_y] at this; omega
  have sx := span2 X L.px (by omega) i1 i2
  have sy := span2 Y L.py (by omega) i3 i4
  have hs : S n (fun i => ab (X (i + 1) - X i)) + S n (fun i => ab (Y (i + 1) - Y i)) = n := by
    rw [← S_add, S_congr (g := fun _ => 1), S_const]
    · omega
    · intro i _
      rw [L.sx, L.sy, show X i + ux (D i) - X i = ux (D i) by omega, show Y i + uy (D i) - Y i = uy (D i) by omega]
      rcases unit_of _ (L.d4 i) with ⟨e, f⟩ | ⟨e, f⟩ | ⟨e, f⟩ | ⟨e, f⟩ <;> rw [e, f] <;> rfl
  have hx := a1 i2
  have hy := b3 i4
  have q1 := hB i1
  have q2 := hB i2
  have q3 := hB i3
  have q4 := hB i4
  have cnt : ∀ {lo hi : Int}, -(K : Int) ≤ lo → lo ≤ hi → hi ≤ K → Z K (fun x => if lo ≤ x ∧ x < hi then 1 else 0) = hi - lo := fun {lo hi} h1 h2 h3 => by
    have : ∀ x, (if lo ≤ x ∧ x < hi then (1 : Int) else 0) = (if x < hi then 1 else 0) - (if x < lo then 1 else 0) := fun x => by (repeat' split) <;> omega
    rw [Z_congr fun x _ _ => this x, Z_sub, Z_count (by omega) h3, Z_count h1 (by omega)]
    omega
  have hle : (Z K fun x => Z K fun y => W n X Y D x y) ≤ Z K fun x => Z K fun y => (if X i2 ≤ x ∧ x < X i1 then 1 else 0) * (if Y i4 ≤ y ∧ y < Y i3 then 1 else 0) := Z_le fun x _ _ => Z_le fun y _ _ => by
    by_cases c1 : X i2 ≤ x ∧ x < X i1
    · by_cases c2 : Y i4 ≤ y ∧ y < Y i3
      · rw [if_pos c1, if_pos c2]
        have := L.zo h1 x y
        omega
      · rw [if_neg c2, Int.mul_zero]
        by_cases c3 : Y i4 ≤ y
        · rw [L.W_up x fun i => by have := b3 i; omega]; exact Int.le_refl _
        · rw [L.W_down x fun i => by have := b4 i; omega]; exact Int.le_refl _
    · rw [if_neg c1, Int.zero_mul]
      by_cases c3 : X i2 ≤ x
      · rw [W_right y fun i => by have := a1 i; omega]; exact Int.le_refl _
      · rw [L.W_left y fun i => by have := b2 i; omega]; exact Int.le_refl _
  have e1 : (Z K fun x => Z K fun y => (if X i2 ≤ x ∧ x < X i1 then (1 : Int) else 0) * (if Y i4 ≤ y ∧ y < Y i3 then 1 else 0)) = (X i1 - X i2) * (Y i3 - Y i4) := by
    have : ∀ x, (Z K fun y => (if X i2 ≤ x ∧ x < X i1 then (1 : Int) else 0) * (if Y i4 ≤ y ∧ y < Y i3 then 1 else 0)) = (Y i3 - Y i4) * (if X i2 ≤ x ∧ x < X i1 then 1 else 0) := fun x => by
      rw [Z_mul, cnt (by omega) (by omega) (by omega), Int.mul_comm]
    rw [Z_congr fun x _ _ => this x, Z_mul, cnt (by omega) (by omega) (by omega), Int.mul_comm]
  rw [e1] at hle
  have hp : 0 ≤ X i1 - X i2 := by omega
  have hq : 0 ≤ Y i3 - Y i4 := by omega
  generalize X i1 - X i2 = p at *
  generalize Y i3 - Y i4 = q at *
  have hpq : 2 * p + 2 * q ≤ n := by omega
  have hmul : (2 * p + 2 * q) * (2 * p + 2 * q) ≤ (n : Int) * n := Int.mul_le_mul hpq hpq (by omega) (by omega)
  have hsq : 0 ≤ (p - q) * (p - q) := by
    rcases Int.le_total 0 (p - q) with h | h
    · exact Int.mul_nonneg h h
    · exact Int.mul_nonneg_of_nonpos_of_nonpos h h
  have e2 : (2 * p + 2 * q) * (2 * p + 2 * q) = 4 * ((p - q) * (p - q)) + 16 * (p * q) := by
    have m1 : 2 * p * (2 * p) = 4 * (p * p) := by rw [Int.mul_assoc, Int.mul_left_comm p 2 p]; omega
    have m2 : 2 * p * (2 * q) = 4 * (p * q) := by rw [Int.mul_assoc, Int.mul_left_comm p 2 q]; omega
    have m3 : 2 * q * (2 * p) = 4 * (p * q) := by rw [Int.mul_assoc, Int.mul_left_comm q 2 p, Int.mul_comm q p]; omega
    have m4 : 2 * q * (2 * q) = 4 * (q * q) := by rw [Int.mul_assoc, Int.mul_left_comm q 2 q]; omega
    have m5 := Int.mul_comm q p
    simp only [Int.sub_mul, Int.mul_sub, Int.add_mul, Int.mul_add, m1, m2, m3, m4]
    omega
  omega
end
end Go.Proofs.YtpfenoioeajkmaaDoor.G
end

section
set_option linter.unusedVariables false
set_option linter.unusedSimpArgs false
namespace Go.Proofs.YtpfenoioeajkmaaDoor.G
section
variable {n : Nat} {X Y : Nat → Int} {D : Nat → Nat}
structure Rim (n : Nat) (X Y : Nat → Int) (D : Nat → Nat) (K : Nat) : Prop where
  l : ∀ x y, x ≤ -(K : Int) → W n X Y D x y = 0
  r : ∀ x y, (K : Int) - 1 ≤ x → W n X Y D x y = 0
  d : ∀ x y, y ≤ -(K : Int) → W n X Y D x y = 0
  u : ∀ x y, (K : Int) - 1 ≤ y → W n X Y D x y = 0
theorem Loop.rim (L : Loop n X Y D) {K : Nat} (hB : Box K X Y) : Rim n X Y D K where
  l x y h := L.W_left y fun i => by have := hB i; omega
  r x y h := W_right y fun i => by have := hB i; omega
  d x y h := L.W_down x fun i => by have := hB i; omega
  u x y h := L.W_up x fun i => by have := hB i; omega
end
end Go.Proofs.YtpfenoioeajkmaaDoor.G
end

section
set_option linter.unusedVariables false
set_option linter.unusedSimpArgs false
namespace Go.Proofs.YtpfenoioeajkmaaDoor.G
def Opp (D : Nat → Nat) (i m j : Nat) : Prop := ∀ t, t < m → D (j + t) = (D (i + m - 1 - t) + 2) % 4
theorem Opp.symm {D : Nat → Nat} (h4 : ∀ i, D i < 4) {i m j : Nat} (h : Opp D i m j) : Opp D j m i := fun t ht => by
  have := h (m - 1 - t) (by omega)
  rw [show i + m - 1 - (m - 1 - t) = i + t by omega, show j + (m - 1 - t) = j + m - 1 - t by omega] at this
  rw [this]
  have := h4 (i + t)
  omega
theorem uxy (d : Nat) : ux d * uy d = 0 := by
  unfold ux uy
  (repeat' split) <;> omega
section
variable {n : Nat} {X Y : Nat → Int} {D : Nat → Nat}
def Q (X Y : Nat → Int) (D : Nat → Nat) (i m : Nat) : Int := S m fun t => X (i + t) * uy (D (i + t)) - Y (i + t) * ux (D (i + t))
theorem Loop.Q_area (L : Loop n X Y D) : Q X Y D 0 n = 2 * S n fun i => X i * uy (D i) := by
  have ht := S_tel n fun i => X i * Y i
  have hx := L.px 0
  have hy := L.py 0
  rw [Nat.zero_add] at hx hy
  rw [hx, hy, Int.sub_self] at ht
  have e : (S n fun i => X (i + 1) * Y (i + 1) - X i * Y i) = S n fun i => X i * uy (D i) + Y i * ux (D i) := S_congr fun i _ => by
    have := uxy (D i)
    rw [L.sx, L.sy]
    grind
  rw [e, S_add] at ht
  unfold Q
  simp only [Nat.zero_add]
  rw [S_sub]
  omega
end
end Go.Proofs.YtpfenoioeajkmaaDoor.G
end

section
set_option linter.unusedVariables false
set_option linter.unusedSimpArgs false
namespace Go.Proofs.YtpfenoioeajkmaaDoor.G
section
variable {n : Nat} {X Y : Nat → Int} {D : Nat → Nat}
def R (X Y : Nat → Int) (l : Int → Int → Bool) (i j : Nat) : Bool := l (X i - X j) (Y i - Y j)
end
end Go.Proofs.YtpfenoioeajkmaaDoor.G
end

section
set_option linter.unusedVariables false
set_option linter.unusedSimpArgs false
namespace Go.Proofs.YtpfenoioeajkmaaDoor.L
open Go.RowKit Go.Proofs.YtpfenoioeajkmaaDoorW.PrintWords Go.Proofs.YtpfenoioeajkmaaDoorW.PrintLast Go.Proofs.YtpfenoioeajkmaaDoorW.PrintMore Go.Proofs.YtpfenoioeajkmaaDoor.X Go.Proofs.YtpfenoioeajkmaaDoor.G
def cd (c : Int) : Nat := if c = 114 then 0 else if c = 117 then 1 else if c = 108 then 2 else 3
theorem cd_lt (c : Int) : cd c < 4 := by
  unfold cd
  (repeat' split) <;> omega
theorem cd_step {c : Int} (h : isL c) : stepx c = ux (cd c) ∧ stepy c = uy (cd c) := by
  rcases h with rfl | rfl | rfl | rfl <;> decide
def gX (s : ByteArray) (i : Nat) : Int := sumx s (i % s.size)
def gY (s : ByteArray) (i : Nat) : Int := sumy s (i % s.size)
def gD (s : ByteArray) (i : Nat) : Nat := cd (bt s ((i % s.size : Nat) : Int))
theorem isO_parts {s : ByteArray} (h : isO s = true) : isW s = true ∧ 4 ≤ s.size ∧ (sumx s s.size = 0 ∧ sumy s s.size = 0) ∧ 0 < dbl s s.size ∧ apart s s.size := by
  have hw := isO_W h
  unfold isO at h
  simp only [Bool.and_eq_true, decide_eq_true_eq] at h
  exact ⟨hw, h.2.1, h.2.2.1, h.2.2.2.1, (apart_iff hw).2 h.2.2.2.2⟩
theorem loop_of {s : ByteArray} (h : isO s = true) : G.Loop s.size (gX s) (gY s) (gD s) := by
  obtain ⟨hw, h4, ⟨zx, zy⟩, -, hap⟩ := isO_parts h
  have hl := ((isW_iff s).1 hw).2
  have hn : 0 < s.size := by omega
  have nx : ∀ i, ((i + 1) % s.size = i % s.size + 1 ∧ i % s.size + 1 < s.size) ∨ ((i + 1) % s.size = 0 ∧ i % s.size + 1 = s.size) := fun i => by
    have hi := Nat.mod_lt i hn
    by_cases e : i % s.size + 1 < s.size
    · left
      refine ⟨?_, e⟩
      rw [Nat.add_mod, Nat.mod_eq_of_lt (a := 1) (by omega), Nat.mod_eq_of_lt e]
    · right
      have e2 : i % s.size + 1 = s.size := by omega
      refine ⟨?_, e2⟩
      rw [Nat.add_mod, Nat.mod_eq_of_lt (a := 1) (by omega), e2, Nat.mod_self]
  refine ⟨h4, fun i => cd_lt _, fun i => ?_, fun i => ?_, fun i => ?_, fun i => ?_, fun i => ?_, fun i j hx hy => ?_⟩
  · unfold gX gD
    have hi := Nat.mod_lt i hn
    rw [← (cd_step (hl _ hi)).1]
    rcases nx i with ⟨e, _⟩ | ⟨e, e2⟩
    · rw [e, sumx]
    · rw [e]
      have : sumx s (i % s.size + 1) = 0 := by rw [e2]; exact zx
      rw [sumx] at this
      show (0 : Int) = _
      omega
  · unfold gY gD
    have hi := Nat.mod_lt i hn
    rw [← (cd_step (hl _ hi)).2]
    rcases nx i with ⟨e, _⟩ | ⟨e, e2⟩
    · rw [e, sumy]
    · rw [e]
      have : sumy s (i % s.size + 1) = 0 := by rw [e2]; exact zy
      rw [sumy] at this
      show (0 : Int) = _
      omega
  · unfold gX; rw [Nat.add_mod_right]
  · unfold gY; rw [Nat.add_mod_right]
  · unfold gD; rw [Nat.add_mod_right]
  · unfold gX at hx
    unfold gY at hy
    have hi := Nat.mod_lt i hn
    have hj := Nat.mod_lt j hn
    generalize i % s.size = p at *
    generalize j % s.size = q at *
    rcases Nat.lt_trichotomy p q with e | e | e
    · have := hap p q (by omega) e hj
      rw [(same_iff hw (by omega) (by omega)).2 (by rw [hx, hy])] at this
      cases this
    · exact e
    · have := hap q p (by omega) e hi
      rw [(same_iff hw (by omega) (by omega)).2 (by rw [hx, hy])] at this
      cases this
theorem box_of {s : ByteArray} (h : isO s = true) : Box 25 (gX s) (gY s) := fun i => by
  have h24 := isW_le (isO_W h)
  have h4 := isO_4 h
  have hi := Nat.mod_lt i (show 0 < s.size by omega)
  have a := sumx_le s (i % s.size)
  have b := sumy_le s (i % s.size)
  unfold gX gY
  omega
theorem dbl_Q {s : ByteArray} (h : isO s = true) : dbl s s.size = 2 * S s.size fun i => gX s i * uy (gD s i) := by
  obtain ⟨hw, h4, ⟨zx, zy⟩, -, hap⟩ := isO_parts h
  have hl := ((isW_iff s).1 hw).2
  rw [← (loop_of h).Q_area]
  have key : ∀ k, k ≤ s.size → dbl s k = Q (gX s) (gY s) (gD s) 0 k := fun k => by
    induction k with
    | zero => intro _; rfl
    | succ k ih =>
      intro hk
      have e : Q (gX s) (gY s) (gD s) 0 (k + 1) = Q (gX s) (gY s) (gD s) 0 k + (gX s (0 + k) * uy (gD s (0 + k)) - gY s (0 + k) * ux (gD s (0 + k))) := rfl
      rw [dbl, ih (by omega), e, Nat.zero_add]
      have hk' : k % s.size = k := Nat.mod_eq_of_lt (by omega)
      have hs := cd_step (hl k (by omega))
      have e1 : gX s k = sumx s k := by unfold gX; rw [hk']
      have e2 : gY s k = sumy s k := by unfold gY; rw [hk']
      have e3 : gD s k = cd (bt s (k : Int)) := by unfold gD; rw [hk']
      rw [e1, e2, e3, ← hs.1, ← hs.2, sumx, sumy]
      generalize sumx s k = a
      generalize sumy s k = b
      generalize stepx (bt s k) = u
      generalize stepy (bt s k) = v
      grind
  exact key _ (Nat.le_refl _)
theorem area_pos {s : ByteArray} (h : isO s = true) : 0 < S s.size fun i => gX s i * uy (gD s i) := by
  have := (isO_parts h).2.2.2.1
  rw [dbl_Q h] at this
  omega
theorem left_one {s : ByteArray} (h : isO s = true) : LW s.size (gX s) (gY s) (gD s) 0 = 1 := (loop_of h).pos (box_of h) (area_pos h)
def gW (s : ByteArray) (x y : Int) : Int := W s.size (gX s) (gY s) (gD s) x y
theorem gW_zo {s : ByteArray} (h : isO s = true) (x y : Int) : gW s x y = 0 ∨ gW s x y = 1 := (loop_of h).zo (left_one h) x y
theorem cnt_W {s : ByteArray} (h : isO s = true) (x y : Int) : cntTo s x y s.size = gW s x y := by
  obtain ⟨hw, h4, -, -, -⟩ := isO_parts h
  have hl := ((isW_iff s).1 hw).2
  have key : ∀ k, k ≤ s.size → cntTo s x y k = S k (wi (gX s) (gY s) (gD s) x y) := fun k => by
    induction k with
    | zero => intro _; rfl
    | succ k ih =>
      intro hk
      rw [cntTo, ih (by omega), S_succ]
      congr 1
      have hk' : k % s.size = k := Nat.mod_eq_of_lt (by omega)
      unfold rcb wi gX gY gD
      rw [hk', rsumy_eq hw k (by omega)]
      rcases hl k (by omega) with e | e | e | e <;> rw [e] <;> simp [cd]
  exact key _ (Nat.le_refl _)
theorem rim_of {s : ByteArray} (h : isO s = true) : Rim s.size (gX s) (gY s) (gD s) 25 := (loop_of h).rim (box_of h)
theorem gW_in {s : ByteArray} (h : isO s = true) {x y : Int} (hw : gW s x y = 1) : -24 ≤ x ∧ x ≤ 23 ∧ -24 ≤ y ∧ y ≤ 23 := by
  have R := rim_of h
  have a1 := R.l x y
  have a2 := R.r x y
  have a3 := R.d x y
  have a4 := R.u x y
  unfold gW at hw
  refine ⟨?_, ?_, ?_, ?_⟩
  · exact Classical.byContradiction fun q => by rw [a1 (by omega)] at hw; omega
  · exact Classical.byContradiction fun q => by rw [a2 (by omega)] at hw; omega
  · exact Classical.byContradiction fun q => by rw [a3 (by omega)] at hw; omega
  · exact Classical.byContradiction fun q => by rw [a4 (by omega)] at hw; omega
theorem mem_col (s : ByteArray) (x : Int) (p : Int × Int) : ∀ m, p ∈ colTo s x m ↔ ∃ j : Nat, j < m ∧ cntTo s x ((j : Int) - 24) s.size = 1 ∧ p = (x, (j : Int) - 24)
  | 0 => ⟨fun h => (by cases h), fun ⟨j, h, _⟩ => (by omega)⟩
  | m + 1 => by
    rw [colTo, List.mem_append, mem_col s x p m]
    constructor
    · rintro (⟨j, h1, h2⟩ | h)
      · exact ⟨j, by omega, h2⟩
      · by_cases e : cntTo s x ((m : Int) - 24) s.size = 1
        · rw [if_pos e, List.mem_singleton] at h
          exact ⟨m, by omega, e, h⟩
        · rw [if_neg e] at h
          cases h
    · rintro ⟨j, h1, h2, h3⟩
      by_cases e : j = m
      · subst e
        right
        rw [if_pos h2, h3]
        exact List.mem_singleton.2 rfl
      · exact .inl ⟨j, by omega, h2, h3⟩
theorem mem_cells' (s : ByteArray) (p : Int × Int) : ∀ m, p ∈ cellsTo s m ↔ ∃ i : Nat, i < m ∧ p ∈ colTo s ((i : Int) - 24) 49
  | 0 => ⟨fun h => (by cases h), fun ⟨j, h, _⟩ => (by omega)⟩
  | m + 1 => by
    rw [cellsTo, List.mem_append, mem_cells' s p m]
    constructor
    · rintro (⟨j, h1, h2⟩ | h)
      · exact ⟨j, by omega, h2⟩
      · exact ⟨m, by omega, h⟩
    · rintro ⟨j, h1, h2⟩
      by_cases e : j = m
      · subst e
        exact .inr h2
      · exact .inl ⟨j, by omega, h2⟩
def rcl (s : ByteArray) : List (Int × Int) := cellsTo s 49
theorem mem_cells {s : ByteArray} (h : isO s = true) (x y : Int) : (x, y) ∈ rcl s ↔ gW s x y = 1 := by
  unfold rcl
  rw [mem_cells']
  constructor
  · rintro ⟨i, hi, hm⟩
    rw [mem_col] at hm
    obtain ⟨j, hj, h1, h2⟩ := hm
    injection h2 with e1 e2
    rw [cnt_W h] at h1
    rw [e1, e2]
    exact h1
  · intro hw
    have hb := gW_in h hw
    refine ⟨(x + 24).toNat, by omega, (mem_col _ _ _ _).2 ⟨(y + 24).toNat, by omega, ?_, ?_⟩⟩
    · rw [cnt_W h, show (((x + 24).toNat : Nat) : Int) - 24 = x by omega, show (((y + 24).toNat : Nat) : Int) - 24 = y by omega]
      exact hw
    · rw [show (((x + 24).toNat : Nat) : Int) - 24 = x by omega, show (((y + 24).toNat : Nat) : Int) - 24 = y by omega]
theorem col_count {s : ByteArray} (h : isO s = true) (x : Int) : ∀ m, ((colTo s x m).length : Int) = S m fun j => gW s x ((j : Int) - 24)
  | 0 => rfl
  | m + 1 => by
    rw [colTo, List.length_append, S_succ, ← col_count h x m, cnt_W h]
    rcases gW_zo h x ((m : Int) - 24) with e | e <;> rw [e] <;> simp
theorem cells_count' {s : ByteArray} (h : isO s = true) : ∀ m, ((cellsTo s m).length : Int) = S m fun i => S 49 fun j => gW s ((i : Int) - 24) ((j : Int) - 24)
  | 0 => rfl
  | m + 1 => by
    rw [cellsTo, List.length_append, S_succ, ← cells_count' h m, ← col_count h]
    omega
theorem Z25 (f : Int → Int) (h : f (-25) = 0) : Z 25 f = S 49 fun j => f ((j : Int) - 24) := by
  show S (49 + 1) _ = _
  rw [S_head]
  show f (((0 : Nat) : Int) - 25) + _ = _
  rw [show (((0 : Nat) : Int) - 25) = -25 from rfl, h, Int.zero_add]
  exact S_congr fun i _ => by congr 1; omega
theorem cells_count {s : ByteArray} (h : isO s = true) : ((rcl s).length : Int) = Z 25 fun x => Z 25 fun y => gW s x y := by
  unfold rcl
  rw [cells_count' h]
  have R := rim_of h
  rw [Z25 (fun x => Z 25 fun y => gW s x y) (Z_zero fun y _ _ => R.l _ _ (by omega))]
  exact S_congr fun i _ => (Z25 (fun y => gW s ((i : Int) - 24) y) (R.d _ _ (by omega))).symm
theorem col_nodup (s : ByteArray) (x : Int) : ∀ m, (colTo s x m).Nodup
  | 0 => List.nodup_nil
  | m + 1 => by
    rw [colTo, List.nodup_append]
    refine ⟨col_nodup s x m, ?_, ?_⟩
    · split <;> simp
    · intro a ha b hb
      rw [mem_col] at ha
      obtain ⟨j, hj, -, rfl⟩ := ha
      split at hb
      · rw [List.mem_singleton] at hb
        subst hb
        intro q
        injection q with q1 q2
        omega
      · cases hb
theorem cells_nodup' (s : ByteArray) : ∀ m, (cellsTo s m).Nodup
  | 0 => List.nodup_nil
  | m + 1 => by
    rw [cellsTo, List.nodup_append]
    refine ⟨cells_nodup' s m, col_nodup s _ _, ?_⟩
    intro a ha b hb
    rw [mem_cells'] at ha
    obtain ⟨i, hi, hm⟩ := ha
    rw [mem_col] at hm hb
    obtain ⟨j, hj, -, rfl⟩ := hm
    obtain ⟨j2, hj2, -, rfl⟩ := hb
    intro q
    injection q with q1 q2
    omega
theorem cells_nodup (s : ByteArray) : (rcl s).Nodup := cells_nodup' s 49
theorem cells_le {s : ByteArray} (h : isO s = true) : (rcl s).length ≤ 36 := by
  have h24 := isW_le (isO_W h)
  have hi := (loop_of h).iso (box_of h) (left_one h)
  have hc := cells_count h
  unfold gW at hc
  rw [← hc] at hi
  have : (s.size : Int) * s.size ≤ 24 * 24 := Int.mul_le_mul (by omega) (by omega) (by omega) (by omega)
  omega
attribute [irreducible] rcl
end Go.Proofs.YtpfenoioeajkmaaDoor.L
end

section
namespace Go.Proofs
open Go.Shelf
def Tryd.lays189_ren : Go.Shelf.Ren := ⟨fun | 189 => 80 | 125 => 93 | 257 => 92 | 128 => 110 | 129 => 111 | 294 => 101 | 295 => 102 | 296 => 103 | 297 => 104 | 298 => 105 | 299 => 106 | 216 => 107 | 300 => 108 | 301 => 109 | 328 => 123 | 329 => 124 | 330 => 125 | 331 => 126 | 332 => 127 | 215 => 100 | 343 => 134 | n => n, fun | 28 => 98 | 3 => 3 | 46 => 28 | 0 => 0 | 51 => 130 | 53 => 132 | 4 => 4 | 183 => 123 | 182 => 122 | 131 => 74 | 5 => 5 | 9 => 9 | 218 => 139 | 222 => 143 | 228 => 154 | 229 => 58 | n => n, fun | n => n⟩
theorem Tryd.lays189 : Go.Proofs.Lays.n189 Tryd.prog Tryd.lays189_ren := {
  mixed := by kernel_rfl
  f125 := Tryd.func93.trans (congrArg some (by kernel_rfl))
  f128 := Tryd.func110.trans (congrArg some (by kernel_rfl))
  f129 := Tryd.func111.trans (congrArg some (by kernel_rfl))
  f189 := Tryd.func80.trans (congrArg some (by kernel_rfl))
  f215 := Tryd.func100.trans (congrArg some (by kernel_rfl))
  f216 := Tryd.func107.trans (congrArg some (by kernel_rfl))
  f257 := Tryd.func92.trans (congrArg some (by kernel_rfl))
  f294 := Tryd.func101.trans (congrArg some (by kernel_rfl))
  f295 := Tryd.func102.trans (congrArg some (by kernel_rfl))
  f296 := Tryd.func103.trans (congrArg some (by kernel_rfl))
  f297 := Tryd.func104.trans (congrArg some (by kernel_rfl))
  f298 := Tryd.func105.trans (congrArg some (by kernel_rfl))
  f299 := Tryd.func106.trans (congrArg some (by kernel_rfl))
  f300 := Tryd.func108.trans (congrArg some (by kernel_rfl))
  f301 := Tryd.func109.trans (congrArg some (by kernel_rfl))
  f328 := Tryd.func123.trans (congrArg some (by kernel_rfl))
  f329 := Tryd.func124.trans (congrArg some (by kernel_rfl))
  f330 := Tryd.func125.trans (congrArg some (by kernel_rfl))
  f331 := Tryd.func126.trans (congrArg some (by kernel_rfl))
  f332 := Tryd.func127.trans (congrArg some (by kernel_rfl))
  f343 := Tryd.func134.trans (congrArg some (by kernel_rfl))
  t0 := Tryd.underlying0
  a0 := Tryd.isAgg0
  z0 := Tryd.sizeOf0
  v0 := Tryd.zeroValue0
  t3 := Tryd.underlying3
  a3 := Tryd.isAgg3
  z3 := Tryd.sizeOf3
  v3 := Tryd.zeroValue3
  t4 := Tryd.underlying4
  a4 := Tryd.isAgg4
  z4 := Tryd.sizeOf4
  v4 := Tryd.zeroValue4
  t5 := Tryd.underlying5
  a5 := Tryd.isAgg5
  z5 := Tryd.sizeOf5
  v5 := Tryd.zeroValue5
  t9 := Tryd.underlying9
  a9 := Tryd.isAgg9
  z9 := Tryd.sizeOf9
  v9 := Tryd.zeroValue9
  t28 := Tryd.underlying98
  a28 := Tryd.isAgg98
  z28 := Tryd.sizeOf98
  v28 := Tryd.zeroValue98
  t46 := Tryd.underlying28
  a46 := Tryd.isAgg28
  z46 := Tryd.sizeOf28
  v46 := Tryd.zeroValue28
  t51 := Tryd.underlying130
  a51 := Tryd.isAgg130
  z51 := Tryd.sizeOf130
  v51 := Tryd.zeroValue130
  t53 := Tryd.underlying132
  a53 := Tryd.isAgg132
  z53 := Tryd.sizeOf132
  v53 := Tryd.zeroValue132
  t131 := Tryd.underlying74
  a131 := Tryd.isAgg74
  z131 := Tryd.sizeOf74
  v131 := Tryd.zeroValue74
  t182 := Tryd.underlying122
  a182 := Tryd.isAgg122
  z182 := Tryd.sizeOf122
  v182 := Tryd.zeroValue122
  t183 := Tryd.underlying123
  a183 := Tryd.isAgg123
  z183 := Tryd.sizeOf123
  v183 := Tryd.zeroValue123
  t218 := Tryd.underlying139
  a218 := Tryd.isAgg139
  z218 := Tryd.sizeOf139
  v218 := Tryd.zeroValue139
  t222 := Tryd.underlying143
  a222 := Tryd.isAgg143
  z222 := Tryd.sizeOf143
  v222 := Tryd.zeroValue143
  t228 := Tryd.underlying154
  a228 := Tryd.isAgg154
  z228 := Tryd.sizeOf154
  v228 := Tryd.zeroValue154
  t229 := Tryd.underlying58
  a229 := Tryd.isAgg58
  z229 := Tryd.sizeOf58
  v229 := Tryd.zeroValue58 }
open Go.Sort Go.RowKit in
theorem Tryd.slices_Sort_int (blk off cap : Nat) (zs : List Int) (w : World) (hH : Holds (Value.int .i64) w blk off zs.toArray) (hblk : blk < w.heap.size) (hsz : zs.length < 4611686018427387904) :
    Calls Tryd.prog 80 #[.slice (some ⟨blk, off, none⟩) zs.length cap] w fun e w' =>
      e = .returned (.tuple #[]) ∧ ∃ n os, w' = grow (putRow (Value.int .i64) (Sort.ahead w n) blk off (zs.mergeSort fun x y => decide (x ≤ y)).toArray) os := Any.slices_Sort_int Tryd.lays189 blk off cap zs w hH hblk hsz
def Tryd.sortPts_ren : Go.Shelf.Ren := ⟨fun | 6 => 81 | 15 => 93 | 14 => 94 | 28 => 110 | 29 => 111 | 20 => 112 | 21 => 113 | 22 => 114 | 23 => 115 | 24 => 116 | 25 => 117 | 26 => 118 | 27 => 119 | 46 => 128 | 47 => 124 | 48 => 125 | 49 => 129 | 50 => 130 | 57 => 135 | n => n, fun | 22 => 67 | 24 => 63 | 25 => 76 | 3 => 3 | 39 => 28 | 0 => 0 | 53 => 130 | 55 => 132 | 4 => 4 | 46 => 123 | 45 => 122 | 50 => 74 | 5 => 5 | 9 => 9 | 66 => 139 | 70 => 143 | 76 => 154 | 77 => 58 | n => n, fun | n => n⟩
theorem Tryd.sortPts : Go.Proofs.SlLaysF0.n6 Tryd.prog Tryd.sortPts_ren := {
  mixed := by kernel_rfl
  f6 := ⟨Tryd.f81.name, by decide, Tryd.func81.trans (congrArg some (by kernel_rfl))⟩
  f14 := ⟨Tryd.f94.name, by decide, Tryd.func94.trans (congrArg some (by kernel_rfl))⟩
  f15 := Tryd.func93.trans (congrArg some (by kernel_rfl))
  f20 := ⟨Tryd.f112.name, by decide, Tryd.func112.trans (congrArg some (by kernel_rfl))⟩
  f21 := ⟨Tryd.f113.name, by decide, Tryd.func113.trans (congrArg some (by kernel_rfl))⟩
  f22 := ⟨Tryd.f114.name, by decide, Tryd.func114.trans (congrArg some (by kernel_rfl))⟩
  f23 := ⟨Tryd.f115.name, by decide, Tryd.func115.trans (congrArg some (by kernel_rfl))⟩
  f24 := ⟨Tryd.f116.name, by decide, Tryd.func116.trans (congrArg some (by kernel_rfl))⟩
  f25 := ⟨Tryd.f117.name, by decide, Tryd.func117.trans (congrArg some (by kernel_rfl))⟩
  f26 := ⟨Tryd.f118.name, by decide, Tryd.func118.trans (congrArg some (by kernel_rfl))⟩
  f27 := ⟨Tryd.f119.name, by decide, Tryd.func119.trans (congrArg some (by kernel_rfl))⟩
  f28 := Tryd.func110.trans (congrArg some (by kernel_rfl))
  f29 := Tryd.func111.trans (congrArg some (by kernel_rfl))
  f46 := ⟨Tryd.f128.name, by decide, Tryd.func128.trans (congrArg some (by kernel_rfl))⟩
  f47 := Tryd.func124.trans (congrArg some (by kernel_rfl))
  f48 := Tryd.func125.trans (congrArg some (by kernel_rfl))
  f49 := ⟨Tryd.f129.name, by decide, Tryd.func129.trans (congrArg some (by kernel_rfl))⟩
  f50 := ⟨Tryd.f130.name, by decide, Tryd.func130.trans (congrArg some (by kernel_rfl))⟩
  f57 := ⟨Tryd.f135.name, by decide, Tryd.func135.trans (congrArg some (by kernel_rfl))⟩
  t0 := Tryd.underlying0
  a0 := Tryd.isAgg0
  z0 := Tryd.sizeOf0
  v0 := Tryd.zeroValue0
  t3 := Tryd.underlying3
  a3 := Tryd.isAgg3
  z3 := Tryd.sizeOf3
  v3 := Tryd.zeroValue3
  t4 := Tryd.underlying4
  a4 := Tryd.isAgg4
  z4 := Tryd.sizeOf4
  v4 := Tryd.zeroValue4
  t5 := Tryd.underlying5
  a5 := Tryd.isAgg5
  z5 := Tryd.sizeOf5
  v5 := Tryd.zeroValue5
  t9 := Tryd.underlying9
  a9 := Tryd.isAgg9
  z9 := Tryd.sizeOf9
  v9 := Tryd.zeroValue9
  t22 := Tryd.underlying67
  a22 := Tryd.isAgg67
  z22 := Tryd.sizeOf67
  v22 := Tryd.zeroValue67
  t25 := Tryd.underlying76
  a25 := Tryd.isAgg76
  z25 := Tryd.sizeOf76
  v25 := Tryd.zeroValue76
  t39 := Tryd.underlying28
  a39 := Tryd.isAgg28
  z39 := Tryd.sizeOf28
  v39 := Tryd.zeroValue28
  t45 := Tryd.underlying122
  a45 := Tryd.isAgg122
  z45 := Tryd.sizeOf122
  v45 := Tryd.zeroValue122
  t46 := Tryd.underlying123
  a46 := Tryd.isAgg123
  z46 := Tryd.sizeOf123
  v46 := Tryd.zeroValue123
  t50 := Tryd.underlying74
  a50 := Tryd.isAgg74
  z50 := Tryd.sizeOf74
  v50 := Tryd.zeroValue74
  t53 := Tryd.underlying130
  a53 := Tryd.isAgg130
  z53 := Tryd.sizeOf130
  v53 := Tryd.zeroValue130
  t55 := Tryd.underlying132
  a55 := Tryd.isAgg132
  z55 := Tryd.sizeOf132
  v55 := Tryd.zeroValue132
  t66 := Tryd.underlying139
  a66 := Tryd.isAgg139
  z66 := Tryd.sizeOf139
  v66 := Tryd.zeroValue139
  t70 := Tryd.underlying143
  a70 := Tryd.isAgg143
  z70 := Tryd.sizeOf143
  v70 := Tryd.zeroValue143
  t76 := Tryd.underlying154
  a76 := Tryd.isAgg154
  z76 := Tryd.sizeOf154
  v76 := Tryd.zeroValue154
  t77 := Tryd.underlying58
  a77 := Tryd.isAgg58
  z77 := Tryd.sizeOf58
  v77 := Tryd.zeroValue58 }
end Go.Proofs
end

section
set_option linter.unusedVariables false
set_option linter.unusedSimpArgs false
namespace Go.Proofs.YtpfenoioeajkmaaDoor.X
open Go.RowKit Go.Proofs.YtpfenoioeajkmaaDoorW.PrintWords Go.Proofs.YtpfenoioeajkmaaDoorW.PrintLast Go.Proofs.YtpfenoioeajkmaaDoorW.PrintMore Go.Proofs.YtpfenoioeajkmaaDoor.L
structure PtS (B : Nat) (s : ByteArray) (x y : Int) (wr : World) : Prop where
  p0 : wr.cell? ⟨B, 0, none⟩ = some (.int .i64 x)
  p1 : wr.cell? ⟨B, 1, none⟩ = some (.int .i64 y)
  pf : wr.frozen? ⟨B, 0, none⟩ = false
  pg : wr.frozen? ⟨B, 1, none⟩ = false
  bs : ∀ i : Nat, i < s.size → wr.cell? ⟨B + 1, i, none⟩ = some (.int .u8 (bt s i))
  sz : B + 1 < wr.heap.size
theorem frozen_of_block {w w' : World} {a : Addr} (h : w'.heap[a.block]? = w.heap[a.block]?) : w'.frozen? a = w.frozen? a := by
  unfold World.frozen?
  rw [h]
theorem PtS.keep {B : Nat} {s : ByteArray} {x y : Int} {wr w2 : World} (h : PtS B s x y wr) (h0 : w2.heap[B]? = wr.heap[B]?) (h1 : w2.heap[B + 1]? = wr.heap[B + 1]?) (hs : wr.heap.size ≤ w2.heap.size) : PtS B s x y w2 where
  p0 := (World.cell?_of_block h0).trans h.p0
  p1 := (World.cell?_of_block h0).trans h.p1
  pf := (frozen_of_block h0).trans h.pf
  pg := (frozen_of_block h0).trans h.pg
  bs := fun i hi => (World.cell?_of_block h1).trans (h.bs i hi)
  sz := Nat.lt_of_lt_of_le h.sz hs
theorem PtS.later {B : Nat} {s : ByteArray} {x y : Int} {wr w2 : World} (h : PtS B s x y wr) (hb : Below wr.heap.size wr w2) : PtS B s x y w2 :=
  h.keep (hb.block B (by have := h.sz; omega)) (hb.block (B + 1) h.sz) hb.size
theorem PtS.set {B : Nat} {s : ByteArray} {x y : Int} {wr : World} (h : PtS B s x y wr) {g i : Nat} (hg : B + 1 < g) (u : Value) : PtS B s x y (wr.setCell ⟨g, i, none⟩ u) :=
  h.keep (Below.heap_setCell _ _ _ _ (by simp; omega)) (Below.heap_setCell _ _ _ _ (by simp; omega)) (by simp)
theorem PtS.draw {B : Nat} {s : ByteArray} {x y : Int} {wr : World} (h : PtS B s x y wr) : PtS B s x y wr.drew := h.later (Below.refl _ _).drew
theorem PtS.put {B : Nat} {s : ByteArray} {x y : Int} {wr : World} (h : PtS B s x y wr) (a b : Int) : PtS B s a b ((wr.setCell ⟨B, 0, none⟩ (.int .i64 a)).setCell ⟨B, 1, none⟩ (.int .i64 b)) where
  p0 := (cell_set_off _ (by decide)).trans (cell_set_self _ h.p0)
  p1 := cell_set_self _ ((cell_set_off _ (by decide)).trans h.p1)
  pf := by simpa using h.pf
  pg := by simpa using h.pg
  bs := fun i hi => (cell_set_other _ (by simp)).trans ((cell_set_other _ (by simp)).trans (h.bs i hi))
  sz := by simpa using h.sz
def wallTo (s : ByteArray) (y : Int) : Nat → List Int
  | 0 => []
  | k + 1 => wallTo s y k ++ if sumy s k ≠ sumy s (k + 1) ∧ min (sumy s k) (sumy s (k + 1)) = y then [sumx s k] else []
theorem wallTo_len (s : ByteArray) (y : Int) : ∀ k, (wallTo s y k).length ≤ k
  | 0 => by simp [wallTo]
  | k + 1 => by
    have := wallTo_len s y k
    rw [wallTo, List.length_append]
    split <;> simp <;> omega
def RV (v : Value) : Option (DataW Value × List MemPlace) := some (.held v, [])
def nilS : DataW Value := .held (.slice none 0 0)
theorem law3 : Maps.Keyed Tryd.prog 3 := Maps.int_keyed Tryd.underlying3
structure WallS (M C : Nat) (f : Int → List Int) (n : Nat) (D : DataW Value) (val : Int → Value) (wr : World) : Prop where
  own : wr.ownsMap Tryd.prog 3 RV M n D
  at_ : ∀ y, D.atKey (.int .i64 y) nilS = .held (val y)
  row : ∀ y, wr.ownsRow C 3 1 (val y) (f y).length ((f y).map (Value.int .i64))
  off : ∀ y z, y ≠ z → (val y).ownBlock = (val z).ownBlock → (val y).ownBlock = none
  has_ : ∀ y, Maps.has D (.int .i64 y) = true → f y ≠ []
theorem own_low {C e sz n : Nat} {w : World} {v : Value} {xs : List Value} (h : w.ownsRow C e sz v n xs) : ∀ g, v.ownBlock = some g → C ≤ g ∧ g < w.heap.size := by
  intro g hg
  obtain ⟨_, ⟨h, _⟩ | ⟨b, cap, cur, h, h2, h3, _⟩⟩ := h
  · rw [h] at hg
    cases hg
  · rw [h] at hg
    injection hg with hg
    subst hg
    exact ⟨h2, (Array.getElem?_eq_some_iff.1 h3).1⟩
theorem WallS.later {M C : Nat} {f : Int → List Int} {n : Nat} {D : DataW Value} {val : Int → Value} {wr w2 : World} (h : WallS M C f n D val wr) (hb : Below wr.heap.size wr w2) : WallS M C f n D val w2 where
  own := h.own.kept (grown_of_below hb) (by simp)
  at_ := h.at_
  row := fun y => pw_own_below (h.row y) hb
  off := h.off
  has_ := h.has_
theorem WallS.set {M C : Nat} {f : Int → List Int} {n : Nat} {D : DataW Value} {val : Int → Value} {wr w2 : World} (h : WallS M C f n D val wr) {g : Nat} (hg : wr.grownBy w2 (some g)) (hM : M ≠ g) (hgC : ∀ y, (val y).ownBlock ≠ some g) : WallS M C f n D val w2 where
  own := h.own.kept hg (by simpa using hM)
  at_ := h.at_
  row := fun y => (h.row y).kept hg (.inr (hgC y))
  off := h.off
  has_ := h.has_
structure St (w : World) (s : ByteArray) (k : Nat) (x y : Int) (wr : World) : Prop where
  pt : PtS (w.heap.size + 1) s x y wr
  wl : ∃ D val, WallS w.heap.size (w.heap.size + 3) (fun y => wallTo s y k) k D val wr
  bl : Below w.heap.size w wr
  hi : w.heap.size + 3 ≤ wr.heap.size
structure StQ (w : World) (s : ByteArray) (k : Nat) (x y : Int) (g : Nat) (a b : Int) (wr : World) : Prop where
  pt : PtS (w.heap.size + 1) s x y wr
  wl : ∃ D val, WallS w.heap.size (w.heap.size + 3) (fun y => wallTo s y k) k D val wr ∧ ∀ y, (val y).ownBlock ≠ some g
  bl : Below w.heap.size w wr
  hi : w.heap.size + 3 ≤ wr.heap.size
  q0 : wr.cell? ⟨g, 0, none⟩ = some (.int .i64 a)
  q1 : wr.cell? ⟨g, 1, none⟩ = some (.int .i64 b)
  qf : wr.frozen? ⟨g, 0, none⟩ = false
  qg : wr.frozen? ⟨g, 1, none⟩ = false
  lo : w.heap.size + 2 < g
  up : g < wr.heap.size
theorem St.later {w : World} {s : ByteArray} {k : Nat} {x y : Int} {wr w2 : World} (h : St w s k x y wr) (hb : Below wr.heap.size wr w2) : St w s k x y w2 where
  pt := h.pt.later hb
  wl := let ⟨D, val, e⟩ := h.wl; ⟨D, val, e.later hb⟩
  bl := h.bl.trans (hb.mono h.bl.size)
  hi := Nat.le_trans h.hi hb.size
theorem St.draw {w : World} {s : ByteArray} {k : Nat} {x y : Int} {wr : World} (h : St w s k x y wr) : St w s k x y wr.drew := h.later (Below.refl _ _).drew
theorem StQ.later {w : World} {s : ByteArray} {k : Nat} {x y : Int} {g : Nat} {a b : Int} {wr w2 : World} (h : StQ w s k x y g a b wr) (hb : Below wr.heap.size wr w2) : StQ w s k x y g a b w2 where
  pt := h.pt.later hb
  wl := let ⟨D, val, e, f⟩ := h.wl; ⟨D, val, e.later hb, f⟩
  bl := h.bl.trans (hb.mono h.bl.size)
  hi := Nat.le_trans h.hi hb.size
  q0 := (hb.cell (p := ⟨g, 0, none⟩) h.up).trans h.q0
  q1 := (hb.cell (p := ⟨g, 1, none⟩) h.up).trans h.q1
  qf := (hb.frozen (p := ⟨g, 0, none⟩) h.up).trans h.qf
  qg := (hb.frozen (p := ⟨g, 1, none⟩) h.up).trans h.qg
  lo := h.lo
  up := Nat.lt_of_lt_of_le h.up hb.size
theorem StQ.start {w : World} {s : ByteArray} {k : Nat} {x y : Int} {g : Nat} {wr w1 : World} (h : St w s k x y wr) (hg : g = wr.heap.size) (hb : w1.heap[g]? = some (.cells #[.int .i64 0, .int .i64 0] 63 (0, 0))) (hba : Below wr.heap.size wr w1) : StQ w s k x y g 0 0 w1 where
  pt := h.pt.later hba
  wl := let ⟨D, val, e⟩ := h.wl; ⟨D, val, e.later hba, fun y q => by have := (own_low (e.row y) g q).2; omega⟩
  bl := h.bl.trans (hba.mono h.bl.size)
  hi := Nat.le_trans h.hi hba.size
  q0 := (blk_cell hb 0).trans rfl
  q1 := (blk_cell hb 1).trans rfl
  qf := blk_frozen hb 0
  qg := blk_frozen hb 1
  lo := by have := h.hi; omega
  up := (Array.getElem?_eq_some_iff.1 hb).1
theorem grown_set (w : World) (a : Addr) (u : Value) : w.grownBy (w.setCell a u) (some a.block) :=
  ⟨rfl, rfl, rfl, by simp, fun k _ hk => Below.heap_setCell _ _ _ _ (fun e => hk (by rw [e]))⟩
theorem StQ.set1 {w : World} {s : ByteArray} {k : Nat} {x y : Int} {g : Nat} {a b : Int} {wr : World} (h : StQ w s k x y g a b wr) (a' b' : Int) : StQ w s k x y g a' b' ((wr.setCell ⟨g, 0, none⟩ (.int .i64 a')).setCell ⟨g, 1, none⟩ (.int .i64 b')) where
  pt := (h.pt.set (g := g) (i := 0) (by have := h.lo; omega) _).set (g := g) (i := 1) (by have := h.lo; omega) _
  wl := let ⟨D, val, e, f⟩ := h.wl; ⟨D, val, (e.set (grown_set wr ⟨g, 0, none⟩ _) (by have := h.lo; show _ ≠ g; omega) f).set (grown_set _ ⟨g, 1, none⟩ _) (by have := h.lo; show _ ≠ g; omega) f, f⟩
  bl := (h.bl.setCell (p := ⟨g, 0, none⟩) (by have := h.lo; show _ ≤ g; omega) _).setCell (p := ⟨g, 1, none⟩) (by have := h.lo; show _ ≤ g; omega) _
  hi := by simpa using h.hi
  q0 := (cell_set_off _ (by decide)).trans (cell_set_self _ h.q0)
  q1 := cell_set_self _ ((cell_set_off _ (by decide)).trans h.q1)
  qf := by simpa using h.qf
  qg := by simpa using h.qg
  lo := h.lo
  up := by simpa using h.up
theorem St.put {w : World} {s : ByteArray} {k : Nat} {x y : Int} {wr : World} (h : St w s k x y wr) (a b : Int) : St w s k a b ((wr.setCell ⟨w.heap.size + 1, 0, none⟩ (.int .i64 a)).setCell ⟨w.heap.size + 1, 1, none⟩ (.int .i64 b)) where
  pt := h.pt.put a b
  wl := by
    obtain ⟨D, val, e⟩ := h.wl
    have f : ∀ y, (val y).ownBlock ≠ some (w.heap.size + 1) := fun y q => by have := (own_low (e.row y) _ q).1; omega
    exact ⟨D, val, (e.set (grown_set wr ⟨w.heap.size + 1, 0, none⟩ _) (by show _ ≠ w.heap.size + 1; omega) f).set (grown_set _ ⟨w.heap.size + 1, 1, none⟩ _) (by show _ ≠ w.heap.size + 1; omega) f⟩
  bl := (h.bl.setCell (p := ⟨w.heap.size + 1, 0, none⟩) (by simp) _).setCell (p := ⟨w.heap.size + 1, 1, none⟩) (by simp) _
  hi := by simpa using h.hi
theorem StQ.st {w : World} {s : ByteArray} {k : Nat} {x y : Int} {g : Nat} {a b : Int} {wr : World} (h : StQ w s k x y g a b wr) : St w s k x y wr := ⟨h.pt, let ⟨D, val, e, _⟩ := h.wl; ⟨D, val, e⟩, h.bl, h.hi⟩
theorem St.flat {w : World} {s : ByteArray} {k : Nat} {x y : Int} {wr : World} (h : St w s k x y wr) (hk : sumy s k = sumy s (k + 1)) : St w s (k + 1) x y wr := by
  refine ⟨h.pt, ?_, h.bl, h.hi⟩
  obtain ⟨D, val, e⟩ := h.wl
  have hf : (fun y => wallTo s y (k + 1)) = fun y => wallTo s y k := by
    funext z
    rw [wallTo, if_neg (fun q => q.1 hk), List.append_nil]
  rw [hf]
  exact ⟨D, val, e.own.mono (Nat.le_succ k), e.at_, e.row, e.off, e.has_⟩
section
variable {P : Program} {ops : Array Oper} {rest : List Oper} {o : Oper} {a : Act} {Q : Exit → Act → World → Prop}
theorem wpList_lookup_held (w : World) (hg : o.guard = none) (m x : Operand) (t : TypeId) (hop : o.op = .lookup t m x false) {k e : TypeId} (K : Maps.Keyed P k) (ht : P.underlying t = some (.map k e)) (hz : ∀ w, (zeroValue e).run P w = .ok (.slice none 0 0) w) {b n : Nat} {D : DataW Value}
    (hm : a.eval m = .map (some b)) (hown : w.ownsMap P k RV b n D) (key : Value) (kl : Lit) (hx : a.eval x = key) (hkey : keyOf P k key = some kl) (hK : ∀ v, D.atKey kl nilS = .held v → wpList P ops Q rest (a.put o.dst v) w) : wpList P ops Q (o :: rest) a w := by
  refine wpList_plain hg fun K' hK' => ?_
  obtain ⟨v, ps, hrun, hv⟩ := hown.lookup K ht (hz w) (R := RV) (zd := nilS) (zp := []) rfl hkey
  have e1 : D.atKey kl nilS = .held v := by
    unfold RV at hv
    injection hv with hv
    injection hv with h1 h2
    exact h1.symm
  unfold Oper.wp
  simp [execOp, hop, hm, hx, hrun, Result.andThen]
  exact hK' _ _ (hK v e1)
end
theorem WallS.put {M C : Nat} {f f' : Int → List Int} {n : Nat} {D : DataW Value} {val : Int → Value} {w0 w1 w2 : World} (h : WallS M C f n D val w0) {y X : Int} {v1 : Value} (hn : ∀ z, f' z = if z = y then f y ++ [X] else f z) (hMC : M < C)
    (hr : w1.ownsRow C 3 1 v1 ((f y).length + 1) ((f y).map (Value.int .i64) ++ [.int .i64 X])) (hg : w0.grownBy w1 (val y).ownBlock) (hl : v1.ownBlock = (val y).ownBlock ∨ v1.ownBlock = some w0.heap.size) (hwf : WideAt.IsKeyLit (.int .i64 y))
    (hown : w2.ownsMap Tryd.prog 3 RV M (n + 1) (D.put (.int .i64 y) (.held v1))) (hg2 : w1.grownBy w2 (some M)) : WallS M C f' (n + 1) (D.put (.int .i64 y) (.held v1)) (fun z => if z = y then v1 else val z) w2 where
  own := hown
  at_ z := by
    by_cases e : z = y
    · subst e
      rw [if_pos rfl]
      exact Maps.atKey_put_same (Maps.Tidy.isMap (h.own.tidy law3)) hwf _ _
    · rw [if_neg e, Maps.atKey_put_other (by intro q; injection q with _ q; exact e q)]
      exact h.at_ z
  row z := by
    have offM : ∀ {v : Value} {m : Nat} {xs : List Value} {w : World}, w.ownsRow C 3 1 v m xs → v.ownBlock ≠ some M := fun ho q => by have := (own_low ho _ q).1; omega
    by_cases e : z = y
    · subst e
      have e1 := hn z
      rw [if_pos rfl] at e1
      show w2.ownsRow C 3 1 (if z = z then v1 else val z) _ _
      rw [if_pos rfl, e1, List.length_append, List.map_append]
      exact hr.kept hg2 (.inr (offM hr))
    · have e1 := hn z
      rw [if_neg e] at e1
      show w2.ownsRow C 3 1 (if z = y then v1 else val z) _ _
      rw [if_neg e, e1]
      have r1 := (h.row z).kept hg (by
        by_cases q : (val z).ownBlock = (val y).ownBlock
        · exact .inl (h.off z y e q)
        · exact .inr q)
      exact r1.kept hg2 (.inr (offM r1))
  off z z' hne := by
    have key : ∀ z, z ≠ y → v1.ownBlock = (val z).ownBlock → v1.ownBlock = none := fun z hz q => by
      rcases hl with hl | hl
      · rw [hl] at q ⊢
        exact h.off y z (fun e => hz e.symm) q
      · rw [hl] at q
        have := (own_low (h.row z) _ q.symm).2
        omega
    show (if z = y then v1 else val z).ownBlock = (if z' = y then v1 else val z').ownBlock → (if z = y then v1 else val z).ownBlock = none
    by_cases e : z = y
    · rw [if_pos e]
      by_cases e' : z' = y
      · exact absurd (e.trans e'.symm) hne
      · rw [if_neg e']
        exact key z' e'
    · rw [if_neg e]
      by_cases e' : z' = y
      · rw [if_pos e']
        intro q
        rw [q]
        exact key z e q.symm
      · rw [if_neg e']
        exact h.off z z' hne
  has_ z hz := by
    rw [hn z]
    by_cases e : z = y
    · rw [if_pos e]
      simp
    · rw [if_neg e]
      rw [Maps.has_put_other (by intro q; injection q with _ q; exact e q)] at hz
      exact h.has_ z hz
theorem grown_cell {w w' : World} {row : Option Nat} (hg : w.grownBy w' row) {b : Nat} (hb : b < w.heap.size) (hne : some b ≠ row) : w'.heap[b]? = w.heap[b]? := hg.block b hb hne
theorem StQ.wall {w : World} {s : ByteArray} {k : Nat} {x y : Int} {g : Nat} {a b : Int} {w5 w6 w8 w9 : World} {D : DataW Value} {val : Int → Value} {r : Int} {v1 : Value} (h : StQ w s k x y g a b w5) (e : WallS w.heap.size (w.heap.size + 3) (fun y => wallTo s y k) k D val w5) (f : ∀ y, (val y).ownBlock ≠ some g)
    (hk : sumy s k ≠ sumy s (k + 1)) (hr : min (sumy s k) (sumy s (k + 1)) = r) (hx : sumx s k = x) (hb6 : Below w5.heap.size w5 w6)
    (ho : w8.ownsRow (w.heap.size + 3) 3 1 v1 ((wallTo s r k).length + 1) ((wallTo s r k).map (Value.int .i64) ++ [.int .i64 x])) (hg : w6.grownBy w8 (val r).ownBlock) (hl : v1.ownBlock = (val r).ownBlock ∨ v1.ownBlock = some w6.heap.size) (hwf : WideAt.IsKeyLit (.int .i64 r))
    (hown : w9.ownsMap Tryd.prog 3 RV w.heap.size (k + 1) (D.put (.int .i64 r) (.held v1))) (hg9 : w8.grownBy w9 (some w.heap.size)) : StQ w s (k + 1) x y g a b w9 := by
  have h6 := h.later hb6
  have e6 := e.later hb6
  have low := own_low (e6.row r)
  have keep : ∀ {c}, c < w6.heap.size → c ≠ w.heap.size → (val r).ownBlock ≠ some c → w9.heap[c]? = w6.heap[c]? := fun {c} h1 h2 h3 => (grown_cell hg9 (Nat.lt_of_lt_of_le h1 hg.size) (by simpa using h2)).trans (grown_cell hg h1 (fun q => h3 q.symm))
  have no : ∀ {c}, c < w.heap.size + 3 → (val r).ownBlock ≠ some c := fun {c} h1 q => by have := (low c q).1; omega
  have hi := h6.hi
  have hup := h6.up
  have hlo := h6.lo
  have kg := keep hup (by omega) (f r)
  refine ⟨h6.pt.keep (keep (by omega) (by omega) (no (by omega))) (keep (by omega) (by omega) (no (by omega))) (Nat.le_trans hg.size hg9.size), ⟨_, _, e6.put (f' := fun y => wallTo s y (k + 1)) (y := r) (X := x) (fun z => ?_) (by omega) ho hg hl hwf hown hg9, fun z => ?_⟩, ?_, Nat.le_trans hi (Nat.le_trans hg.size hg9.size), (World.cell?_of_block kg).trans h6.q0, (World.cell?_of_block kg).trans h6.q1, (frozen_of_block kg).trans h6.qf, (frozen_of_block kg).trans h6.qg, hlo, Nat.lt_of_lt_of_le hup (Nat.le_trans hg.size hg9.size)⟩
  · show wallTo s z (k + 1) = if z = r then wallTo s r k ++ [x] else wallTo s z k
    rw [wallTo, hr, hx]
    by_cases q : z = r
    · rw [if_pos ⟨hk, q.symm⟩, if_pos q, q]
    · rw [if_neg (fun c => q c.2.symm), if_neg q, List.append_nil]
  · show (if z = r then v1 else val z).ownBlock ≠ some g
    by_cases q : z = r
    · rw [if_pos q]
      rcases hl with hl | hl
      · rw [hl]; exact f r
      · rw [hl]; intro c; injection c with c; omega
    · rw [if_neg q]; exact f z
  · have b8 : Below w.heap.size w w8 := h6.bl.grown hg h6.bl.size (fun c hc => by have := (low c hc).1; omega)
    exact b8.grown hg9 b8.size (fun c hc => by injection hc with hc; omega)
end Go.Proofs.YtpfenoioeajkmaaDoor.X
end

section
set_option linter.unusedVariables false
set_option linter.unusedSimpArgs false
namespace Go.Proofs.YtpfenoioeajkmaaDoor.X
open Go.RowKit Go.Proofs.YtpfenoioeajkmaaDoorW.PrintWords Go.Proofs.YtpfenoioeajkmaaDoorW.PrintLast Go.Proofs.YtpfenoioeajkmaaDoorW.PrintMore Go.Proofs.YtpfenoioeajkmaaDoor.L
theorem put_heap {α : Type} [Inhabited α] (enc : α → Value) (w : World) (m g : Nat) (d : Array α) (os : Array Obj) {cur : Array Value} {e : TypeId} (hb : w.heap[g]? = some (.cells cur e (0, 0))) (hd : d.size ≤ cur.size) :
    (∃ cur', (Go.Sort.grow (Go.Sort.putRow enc (Go.Sort.ahead w m) g 0 d) os).heap[g]? = some (.cells cur' e (0, 0)) ∧ cur'.size = cur.size ∧ cur'.toList.take d.size = d.toList.map enc) ∧
      w.grownBy (Go.Sort.grow (Go.Sort.putRow enc (Go.Sort.ahead w m) g 0 d) os) (some g) := by
  have hg := (Array.getElem?_eq_some_iff.1 hb).1
  have hs : (Go.Sort.putRow enc (Go.Sort.ahead w m) g 0 d).heap.size = w.heap.size := by
    unfold Go.Sort.putRow Go.Sort.mapBlock Go.Sort.ahead
    simp
  refine ⟨⟨Go.Sort.putCells enc 0 d cur, ?_, ?_, ?_⟩, ⟨rfl, rfl, rfl, ?_, ?_⟩⟩
  · unfold Go.Sort.grow
    rw [Array.getElem?_append_left (by rw [hs]; exact hg)]
    unfold Go.Sort.putRow Go.Sort.mapBlock Go.Sort.ahead
    rw [Array.getElem?_modify, if_pos rfl, hb]
    rfl
  · unfold Go.Sort.putCells; simp
  · apply List.ext_getElem
    · unfold Go.Sort.putCells; simp; omega
    · intro i h1 h2
      have hi : i < d.size := by simpa using h2
      unfold Go.Sort.putCells
      simp only [List.getElem_take, Array.getElem_toList, Array.getElem_mapIdx, List.getElem_map, Nat.zero_le, Nat.zero_add, true_and, Nat.sub_zero, if_pos hi]
      rw [getElem!_pos d i hi]
  · unfold Go.Sort.grow
    simp only [Array.size_append]
    rw [hs]
    omega
  · intro k hk hne
    have hne' : g ≠ k := fun e => hne (by rw [e])
    unfold Go.Sort.grow
    rw [Array.getElem?_append_left (by rw [hs]; exact hk)]
    unfold Go.Sort.putRow Go.Sort.mapBlock Go.Sort.ahead
    rw [Array.getElem?_modify, if_neg hne']
theorem own_block {C e sz n : Nat} {w : World} {v : Value} {xs : List Value} (h : w.ownsRow C e sz v n xs) (h0 : 0 < n) :
    ∃ g cap cur, v = .slice (some ⟨g, 0, none⟩) n cap ∧ C ≤ g ∧ w.heap[g]? = some (.cells cur e (0, 0)) ∧ n ≤ cap ∧ cap ≤ maxLen ∧ cur.size = cap * sz ∧ cur.toList.take (n * sz) = xs := by
  obtain ⟨_, ⟨_, q⟩ | h⟩ := h
  · omega
  · exact h
theorem sort_row {C : Nat} {w : World} {v : Value} {l : List Int} (h : w.ownsRow C 3 1 v l.length (l.map (Value.int .i64))) (h0 : 0 < l.length) (hl : l.length < 4611686018427387904) :
    Calls Tryd.prog 80 #[v] w fun e w' => e = .returned (.tuple #[]) ∧ w'.ownsRow C 3 1 v l.length ((l.mergeSort fun x y => decide (x ≤ y)).map (Value.int .i64)) ∧ w.grownBy w' v.ownBlock := by
  obtain ⟨g, cap, cur, rfl, hC, hb, hn, hm, hs, ht⟩ := own_block h h0
  rw [Nat.mul_one] at hs ht
  have hH : Go.Sort.Holds (Value.int .i64) w g 0 l.toArray := fun j hj => by
    have hj' : j < l.length := by simpa using hj
    have e : (cur.toList.take l.length)[j]? = some (.int .i64 l[j]) := by rw [ht]; simp [hj']
    rw [List.getElem?_take, if_pos hj'] at e
    have e' : cur[j]? = some (.int .i64 l[j]) := by simpa using e
    rw [Nat.zero_add]
    refine ⟨?_, ?_⟩
    · rw [getElem!_pos l.toArray j hj]
      have : w.cell? ⟨g, j, none⟩ = some (.int .i64 l[j]) := by
        unfold World.cell?
        simp only [hb]
        simpa using e'
      simpa using this
    · exact blk_frozen hb j
  refine (Tryd.slices_Sort_int g 0 cap l w hH (Array.getElem?_eq_some_iff.1 hb).1 hl).mono ?_
  rintro e w' ⟨rfl, m, os, rfl⟩
  have hz : (l.mergeSort fun x y => decide (x ≤ y)).toArray.size = l.length := by simp
  obtain ⟨⟨cur', c1, c2, c3⟩, hg⟩ := put_heap (Value.int .i64) w m g (l.mergeSort fun x y => decide (x ≤ y)).toArray os hb (by rw [hz]; omega)
  refine ⟨rfl, ⟨by simp, .inr ⟨g, cap, cur', rfl, hC, c1, hn, hm, by omega, ?_⟩⟩, hg⟩
  rw [hz] at c3
  rw [Nat.mul_one, c3]
def encP (p : Int × Int) : List Value := [.int .i64 p.1, .int .i64 p.2]
end Go.Proofs.YtpfenoioeajkmaaDoor.X
end

section
set_option linter.unusedVariables false
set_option linter.unusedSimpArgs false
namespace Go.Proofs.YtpfenoioeajkmaaDoor.X
open Go.RowKit Go.Proofs.YtpfenoioeajkmaaDoorW.PrintWords Go.Proofs.YtpfenoioeajkmaaDoorW.PrintLast Go.Proofs.YtpfenoioeajkmaaDoorW.PrintMore Go.Proofs.YtpfenoioeajkmaaDoor.L
set_option maxHeartbeats 2000000 in
set_option maxRecDepth 100000 in
theorem compare_grown (a b c d : Int) (w : World) : Calls Tryd.prog 67 #[ptV a b, ptV c d] w fun e w' => e = .returned (.int .i64 (cmpP a b c d)) ∧ ∃ q os', w' = Go.Sort.grow (w.drewN q) os' := by
  unfold ptV
  go_enter Tryd.func67, Tryd.ntmps67
  go_wp2_with fail
  have h0 : ((w.alloc (.cells #[.int .i64 a, .int .i64 b] 63)).alloc (.cells #[.int .i64 c, .int .i64 d] 63)).drew.cell? ⟨w.heap.size, 0, none⟩ = some (.int .i64 a) := by simp
  have h1 : ((w.alloc (.cells #[.int .i64 a, .int .i64 b] 63)).alloc (.cells #[.int .i64 c, .int .i64 d] 63)).drew.cell? ⟨w.heap.size, 1, none⟩ = some (.int .i64 b) := by simp
  have h2 : ((w.alloc (.cells #[.int .i64 a, .int .i64 b] 63)).alloc (.cells #[.int .i64 c, .int .i64 d] 63)).drew.cell? ⟨w.heap.size + 1, 0, none⟩ = some (.int .i64 c) := by simp
  have h3 : ((w.alloc (.cells #[.int .i64 a, .int .i64 b] 63)).alloc (.cells #[.int .i64 c, .int .i64 d] 63)).drew.cell? ⟨w.heap.size + 1, 1, none⟩ = some (.int .i64 d) := by simp
  have HB := Lib.hid ((below_one (w := w) (.cells #[.int .i64 a, .int .i64 b] 63)).alloc (by simp) (.cells #[.int .i64 c, .int .i64 d] 63)).drew
  have HC0 := Lib.hid (pair_C _ _ a b h0 h1)
  have HC1 := Lib.hid (pair_C _ _ c d h2 h3)
  clear h0 h1 h2 h3
  refine start_ (n := 4) (S := fun w' => True) (ds := []) #[false, false, false, false] (by kernel_rfl) rfl rfl trivial (fun hHeld => ?_)
  refine pure_ (i := 0) (N := (some 5)) (v := ?_) (a' := ?_) #[true, false, false, false] rfl rfl (by kernel_rfl) (fun _ _ _ h => h) (Or.inl ⟨by rfl, ?_⟩) ?_ ?_
  rotate_left
  · intro w'; go_simp; first | done | with_reducible rfl
  rotate_left
  · simp only [Act.put, List.setIfInBounds_toArray, List.set_cons_zero, List.set_cons_succ, i64_w, i32_w]; rfl
  refine pure_ (i := 1) (N := (some 6)) (v := ?_) (a' := ?_) #[true, true, false, false] rfl rfl (by kernel_rfl) (fun _ _ _ h => h) (Or.inl ⟨by rfl, ?_⟩) ?_ ?_
  rotate_left
  · intro w'; go_simp; first | done | with_reducible rfl
  rotate_left
  · simp only [Act.put, List.setIfInBounds_toArray, List.set_cons_zero, List.set_cons_succ, i64_w, i32_w]; rfl
  refine one_ (i := 2) (N := (some 7)) #[true, true, true, false] rfl rfl (by kernel_rfl) (by decide) (fun K hK => ?_)
  refine goes_ Tryd.func78 (by kernel_rfl) rfl #[.slice (some ⟨w.heap.size, 0, none⟩) 2 2, .slice (some ⟨w.heap.size + 1, 0, none⟩) 2 2] (by rfl) rfl rfl (by (try simp only [List.map_toArray, List.map_cons, List.map_nil]); first | done | rfl) ?_
  refine (PC.slices_Compare_int_int.calls 3 _ 2 [a, b] _ 2 [c, d] _ _ HC0.out (Nat.le_refl 2) HC1.out (Nat.le_refl 2) (compare_f a b c d)).mono ?_
  rintro e w2 ⟨rfl, nd, rfl⟩
  refine ⟨_, rfl, ?_⟩
  refine hK.out _ _ trivial (fun hHeld => ?_)
  clear hK K
  refine norm_ (a' := ?_) ?_ ?_
  rotate_left
  · show Act.put _ (some 7) _ = _; simp only [Act.put, List.setIfInBounds_toArray, List.set_cons_zero, List.set_cons_succ, i64_w, i32_w]; rfl
  refine pure_ (i := 3) (N := (some 4)) (v := ?_) (a' := ?_) #[true, true, true, true] rfl rfl (by kernel_rfl) (fun _ _ _ h => h) (Or.inl ⟨by rfl, ?_⟩) ?_ ?_
  rotate_left
  · intro w'; go_simp; first | done | with_reducible rfl
  rotate_left
  · simp only [Act.put, List.setIfInBounds_toArray, List.set_cons_zero, List.set_cons_succ, i64_w, i32_w]; rfl
  refine done_ (by kernel_rfl) ?_
  go_wp2
  go_ret
  refine ⟨rfl, 1 + nd, #[.cells #[.int .i64 a, .int .i64 b] 63, .cells #[.int .i64 c, .int .i64 d] 63], ?_⟩
  unfold Go.Sort.grow World.drewN World.drew World.alloc
  simp only [World.mk.injEq, Nat.add_assoc, and_true, true_and]
  apply Array.ext'
  simp
theorem cmpLays (blk off size : Nat) (w : World) : CmpLays Tryd.prog 67 #[] encP 2 (fun p q : Int × Int => cmpP p.1 p.2 q.1 q.2) blk off size w :=
  fun _ _ _ _ x y => compare_grown x.1 x.2 y.1 y.2 _
def ltP (p q : Int × Int) : Bool := decide (p.1 < q.1 ∨ (p.1 = q.1 ∧ p.2 < q.2))
theorem ltOf_P (p q : Int × Int) : ltOf (fun p q : Int × Int => cmpP p.1 p.2 q.1 q.2) p q = ltP p q := by
  unfold ltOf ltP
  have := cmpP_iff p.1 p.2 q.1 q.2
  by_cases h : p.1 < q.1 ∨ (p.1 = q.1 ∧ p.2 < q.2)
  · rw [decide_eq_true h, decide_eq_true (this.2 h)]
  · rw [decide_eq_false h, decide_eq_false (fun c => h (this.1 c))]
theorem swoP : Go.Sort.SWO (ltOf fun p q : Int × Int => cmpP p.1 p.2 q.1 q.2) where
  irrefl x := by rw [ltOf_P]; unfold ltP; simp
  trans x y z h1 h2 := by rw [ltOf_P] at *; unfold ltP at *; simp only [decide_eq_true_eq] at *; omega
  ntrans x y z h1 h2 := by rw [ltOf_P] at *; unfold ltP at *; simp only [decide_eq_false_iff_not] at *; omega
end Go.Proofs.YtpfenoioeajkmaaDoor.X
end

section
set_option linter.unusedVariables false
set_option linter.unusedSimpArgs false
namespace Go.Proofs.YtpfenoioeajkmaaDoor.X
open Go.RowKit Go.Proofs.YtpfenoioeajkmaaDoorW.PrintWords Go.Proofs.YtpfenoioeajkmaaDoorW.PrintLast Go.Proofs.YtpfenoioeajkmaaDoorW.PrintMore Go.Proofs.YtpfenoioeajkmaaDoor.L
theorem flatP_len : ∀ l : List (Int × Int), (flatP l).length = l.length * 2
  | [] => rfl
  | p :: l => by rw [flatP, List.length_append, flatP_len l]; simp; omega
theorem flatP_get : ∀ (l : List (Int × Int)) (t : Nat), t < l.length * 2 → (flatP l)[t]? = some (encP (l.getD (t / 2) (0, 0)))[t % 2]!
  | [], t, h => by simp at h
  | p :: l, 0, h => rfl
  | p :: l, 1, h => rfl
  | p :: l, t + 2, h => by
    have ih := flatP_get l t (by simp at h; omega)
    show ([.int .i64 p.1, .int .i64 p.2] ++ flatP l)[t + 2]? = _
    rw [List.getElem?_append_right (by simp)]
    show (flatP l)[t + 2 - 2]? = _
    rw [Nat.add_sub_cancel, ih, show (t + 2) / 2 = t / 2 + 1 by omega, show (t + 2) % 2 = t % 2 by omega]
    rfl
theorem flatK_P (d : Array (Int × Int)) : (Go.Sort.flatK encP 2 d).toList = flatP d.toList := by
  apply List.ext_getElem?
  intro t
  by_cases h : t < d.size * 2
  · have h1 : t < (Go.Sort.flatK encP 2 d).size := by rw [Go.Sort.size_flatK]; exact h
    rw [flatP_get d.toList t (by simpa using h)]
    have := Go.Sort.get_flatK encP 2 d t h
    rw [getElem!_pos _ t h1] at this
    rw [Array.getElem?_toList, Array.getElem?_eq_getElem h1, this]
    have h2 : t / 2 < d.size := by omega
    rw [getElem!_pos d (t / 2) h2]
    simp [h2]
  · rw [List.getElem?_eq_none (by simp; omega), List.getElem?_eq_none (by rw [flatP_len]; simp; omega)]
theorem sort_pts {C : Nat} {w : World} {v : Value} {l : List (Int × Int)} (h : OwnP C 63 w v l) (h0 : 0 < l.length) (hl : l.length < 4611686018427387904) :
    Calls Tryd.prog 81 #[v, .func (.func 67) #[] #[]] w fun e w' => e = .returned (.tuple #[]) ∧ ∃ l', l'.Perm l ∧ l'.Pairwise (fun p q => ltP q p = false) ∧ OwnP C 63 w' v l' ∧ w.grownBy w' v.ownBlock := by
  unfold OwnP at h
  obtain ⟨g, cap, cur, rfl, hC, hb, hn, hm, hs, ht⟩ := own_block h h0
  have hflat : (Go.Sort.flatK encP 2 l.toArray).toList = flatP l := flatK_P _
  have hH : Go.Sort.HoldsK encP 2 w g 0 l.toArray := fun j hj => by
    have hj2 : j < l.length * 2 := by simpa using hj
    rw [Nat.zero_add]
    refine ⟨?_, blk_frozen hb j⟩
    have e : (cur.toList.take (l.length * 2))[j]? = (Go.Sort.flatK encP 2 l.toArray).toList[j]? := by rw [ht, hflat]
    rw [List.getElem?_take, if_pos hj2, Array.getElem?_toList, Array.getElem?_toList, Array.getElem?_eq_getElem hj] at e
    rw [getElem!_pos _ j hj]
    unfold World.cell?
    simp only [hb]
    simpa using e
  have eg : ∀ args w, (callFunc 67 args).run Tryd.prog w = .ok (.enter 67 args) w := enters_of Tryd.func67 (by kernel_rfl) rfl
  have hcon := AnyQ.slices_SortFunc Tryd.sortPts 2 Tryd.isAgg63 Tryd.sizeOf63 encP (fun _ => rfl) (fun x v hv => by simp [encP] at hv; rcases hv with rfl | rfl <;> rfl) (fun p q : Int × Int => cmpP p.1 p.2 q.1 q.2) swoP 67 #[] g 0 cap l.toArray w eg (cmpLays g 0 _ w) hH (Array.getElem?_eq_some_iff.1 hb).1 (by simpa using hl)
  change Calls Tryd.prog 81 _ _ _ at hcon
  have hz : l.toArray.size = l.length := by simp
  rw [hz] at hcon
  refine hcon.mono ?_
  rintro e w' ⟨rfl, d', m, os, hp, hsrt, rfl⟩
  obtain ⟨p1, -, p3⟩ := hp
  rw [hz] at p1
  have hp3 : d'.toList.Perm l := by
    rw [← p1] at p3
    rw [Array.extract_size] at p3
    rw [p1, ← hz, Array.extract_size] at p3
    exact p3
  have hk : (Go.Sort.flatK encP 2 d').size = l.length * 2 := by rw [Go.Sort.size_flatK, p1]
  obtain ⟨⟨cur', c1, c2, c3⟩, hg⟩ := put_heap id w m g (Go.Sort.flatK encP 2 d') os hb (by rw [hk, hs]; exact Nat.mul_le_mul_right 2 hn)
  have hlen : d'.toList.length = l.length := by simpa using p1
  refine ⟨rfl, d'.toList, hp3, ?_, ⟨by rw [flatP_len], .inr ⟨g, cap, cur', by rw [hlen], hC, c1, by omega, hm, by rw [c2, hs], ?_⟩⟩, hg⟩
  · rw [List.pairwise_iff_getElem]
    intro i j hi hj hij
    have := hsrt i j (Nat.zero_le _) hij (by simpa [p1] using hj)
    rw [ltOf_P] at this
    rw [getElem!_pos d' j (by simpa using hj), getElem!_pos d' i (by simpa using hi)] at this
    simpa using this
  · rw [hk] at c3
    rw [hlen, c3, List.map_id, flatK_P]
end Go.Proofs.YtpfenoioeajkmaaDoor.X
end

section
set_option linter.unusedVariables false
set_option linter.unusedSimpArgs false
namespace Go.Proofs.YtpfenoioeajkmaaDoor.X
open Go.RowKit Go.Proofs.YtpfenoioeajkmaaDoorW.PrintWords Go.Proofs.YtpfenoioeajkmaaDoorW.PrintLast Go.Proofs.YtpfenoioeajkmaaDoorW.PrintMore Go.Proofs.YtpfenoioeajkmaaDoor.L
def spanTo (y a : Int) : Nat → List (Int × Int)
  | 0 => []
  | m + 1 => spanTo y a m ++ [(a + m, y)]
def rowTo (y : Int) (l : List Int) : Nat → List (Int × Int)
  | 0 => []
  | j + 1 => rowTo y l j ++ spanTo y (l.getD (2 * j) 0) (l.getD (2 * j + 1) 0 - l.getD (2 * j) 0).toNat
def srt (l : List Int) : List Int := l.mergeSort fun x y => decide (x ≤ y)
def rowAll (f : Int → List Int) (y : Int) : List (Int × Int) := rowTo y (srt (f y)) ((f y).length / 2)
def outOf (f : Int → List Int) (vis : List Int) : List (Int × Int) := vis.flatMap (rowAll f)
theorem outOf_snoc (f : Int → List Int) (vis : List Int) (y : Int) : outOf f (vis ++ [y]) = outOf f vis ++ rowAll f y := by
  unfold outOf
  rw [List.flatMap_append]
  simp
theorem srt_len (l : List Int) : (srt l).length = l.length := by unfold srt; exact List.length_mergeSort _
theorem srt_mem (l : List Int) (x : Int) : x ∈ srt l ↔ x ∈ l := by unfold srt; exact (List.mergeSort_perm _ _).mem_iff
theorem spanTo_len (y a : Int) : ∀ m, (spanTo y a m).length = m
  | 0 => rfl
  | m + 1 => by rw [spanTo, List.length_append, spanTo_len y a m]; rfl
theorem rowTo_len {y : Int} {l : List Int} (hl : ∀ x ∈ l, -24 ≤ x ∧ x ≤ 24) : ∀ j, 2 * j ≤ l.length → (rowTo y l j).length ≤ j * 48
  | 0, _ => by simp [rowTo]
  | j + 1, h => by
    have ih := rowTo_len hl (y := y) j (by omega)
    have a := hl (l.getD (2 * j) 0) (by rw [List.getD_eq_getElem?_getD, List.getElem?_eq_getElem (by omega)]; exact List.getElem_mem _)
    have b := hl (l.getD (2 * j + 1) 0) (by rw [List.getD_eq_getElem?_getD, List.getElem?_eq_getElem (by omega)]; exact List.getElem_mem _)
    rw [rowTo, List.length_append, spanTo_len]
    omega
theorem rowAll_len {f : Int → List Int} {y : Int} {n : Nat} (hl : ∀ x ∈ f y, -24 ≤ x ∧ x ≤ 24) (hn : (f y).length ≤ n) : (rowAll f y).length ≤ n * 48 := by
  unfold rowAll
  have := rowTo_len (y := y) (l := srt (f y)) (fun x hx => hl x ((srt_mem _ _).1 hx)) ((f y).length / 2) (by rw [srt_len]; omega)
  omega
theorem outOf_len {f : Int → List Int} {n : Nat} (hl : ∀ y, ∀ x ∈ f y, -24 ≤ x ∧ x ≤ 24) (hn : ∀ y, (f y).length ≤ n) : ∀ vis : List Int, (outOf f vis).length ≤ vis.length * (n * 48)
  | [] => by simp [outOf]
  | y :: vis => by
    have ih := outOf_len hl hn vis
    have := rowAll_len (hl y) (hn y)
    show (rowAll f y ++ outOf f vis).length ≤ (vis.length + 1) * (n * 48)
    rw [List.length_append, Nat.add_mul]
    omega
theorem ranges_le {w : World} {P : Program} {k : TypeId} {R : Value → Option (DataW Value × List MemPlace)} {b r n : Nat} {D : DataW Value} {left : Lit → Bool} {cnt : Nat} (h : w.ranges P k R b r n D left cnt) : cnt ≤ n := by
  obtain ⟨es, clock, since, seen, c0, h1, h2, h3, h4, h5, h6, h7, -⟩ := h
  rw [← h7]
  unfold leftOf
  exact Nat.le_trans (Array.size_filter_le ..) h3
structure RgS (w : World) (C2 : Nat) (f : Int → List Int) (D : DataW Value) (val : Int → Value) (n rB : Nat) (vis : List Int) (left : Lit → Bool) (cnt : Nat) (v : Value) (wr : World) : Prop where
  rg : wr.ranges Tryd.prog 3 RV w.heap.size rB n D left cnt
  lf : ∀ y, left (.int .i64 y) = (Maps.has D (.int .i64 y) && !vis.contains y)
  ne : ∀ y ∈ vis, f y ≠ []
  nd : vis.Nodup
  cv : vis.length + cnt ≤ n
  row : ∀ y, y ∉ vis → wr.ownsRow (w.heap.size + 3) 3 1 (val y) (f y).length ((f y).map (Value.int .i64))
  lo : ∀ y g, (val y).ownBlock = some g → w.heap.size + 3 ≤ g ∧ g < C2
  out : OwnP (C2 + 1) 63 wr v (outOf f vis)
  bl : Below w.heap.size w wr
  hi : C2 + 1 ≤ wr.heap.size
theorem RgS.start {w wa w0 : World} {f : Int → List Int} {n : Nat} {D : DataW Value} {val : Int → Value} (h : WallS w.heap.size (w.heap.size + 3) f n D val wa) (hb : Below w.heap.size w wa) (hi : w.heap.size + 3 ≤ wa.heap.size)
    (hrg : w0.ranges Tryd.prog 3 RV w.heap.size wa.heap.size n D (Maps.has D) (Maps.size D)) (hg : wa.grownBy w0 none) (hs : w0.heap.size = wa.heap.size + 1) :
    RgS w wa.heap.size f D val n wa.heap.size [] (Maps.has D) (Maps.size D) (.slice none 0 0) w0 where
  rg := hrg
  lf y := by simp
  ne y hy := by cases hy
  nd := List.nodup_nil
  cv := by have := ranges_le hrg; simpa using this
  row y _ := (h.row y).kept hg (Classical.em _)
  lo y g hg2 := own_low (h.row y) g hg2
  out := World.ownsRow_nil _ _ _ _
  bl := hb.grown hg hb.size (fun j hj => by cases hj)
  hi := by omega
end Go.Proofs.YtpfenoioeajkmaaDoor.X
end

section
set_option linter.unusedVariables false
set_option linter.unusedSimpArgs false
namespace Go.Proofs.YtpfenoioeajkmaaDoor.X
open Go.RowKit Go.Proofs.YtpfenoioeajkmaaDoorW.PrintWords Go.Proofs.YtpfenoioeajkmaaDoorW.PrintLast Go.Proofs.YtpfenoioeajkmaaDoorW.PrintMore Go.Proofs.YtpfenoioeajkmaaDoor.L
theorem same_int (x z : Int) : Lit.sameKey (.int .i64 z) (.int .i64 x) = decide (z = x) := by
  by_cases h : z = x
  · subst h
    simp [Lit.sameKey]
  · rw [Maps.sameKey_ne (fun q => by injection q with _ q; exact h q)]
    simp [h]
theorem wallTo_in {s : ByteArray} (h : s.size ≤ 24) (y : Int) : ∀ k, k ≤ s.size → ∀ x ∈ wallTo s y k, -24 ≤ x ∧ x ≤ 24
  | 0, _, x, hx => by simp [wallTo] at hx
  | k + 1, hk, x, hx => by
    rw [wallTo, List.mem_append] at hx
    rcases hx with hx | hx
    · exact wallTo_in h y k (by omega) x hx
    · split at hx
      · have e : x = sumx s k := by simpa using hx
        have := sumx_le s k
        omega
      · cases hx
structure RowS (w : World) (C2 : Nat) (f : Int → List Int) (D : DataW Value) (val : Int → Value) (n : Nat) (vis : List Int) (y : Int) (left : Lit → Bool) (cnt : Nat) (out : List (Int × Int)) (v : Value) (wr : World) : Prop where
  rg : wr.ranges Tryd.prog 3 RV w.heap.size C2 n D left cnt
  lf : ∀ z, left (.int .i64 z) = (Maps.has D (.int .i64 z) && !(vis ++ [y]).contains z)
  ne : ∀ z ∈ vis ++ [y], f z ≠ []
  nd : (vis ++ [y]).Nodup
  cv : vis.length + 1 + cnt ≤ n
  row : ∀ z, z ∉ vis ++ [y] → wr.ownsRow (w.heap.size + 3) 3 1 (val z) (f z).length ((f z).map (Value.int .i64))
  cur : wr.ownsRow (w.heap.size + 3) 3 1 (val y) (f y).length ((srt (f y)).map (Value.int .i64))
  lo : ∀ y g, (val y).ownBlock = some g → w.heap.size + 3 ≤ g ∧ g < C2
  off : ∀ y z, y ≠ z → (val y).ownBlock = (val z).ownBlock → (val y).ownBlock = none
  out : OwnP (C2 + 1) 63 wr v out
  bl : Below w.heap.size w wr
  hi : C2 + 1 ≤ wr.heap.size
  mid : w.heap.size + 3 ≤ C2
structure ComeS (w : World) (C2 : Nat) (f : Int → List Int) (D : DataW Value) (val : Int → Value) (n : Nat) (vis : List Int) (y : Int) (left : Lit → Bool) (cnt : Nat) (out : List (Int × Int)) (v : Value) (wr : World) : Prop where
  rg : wr.ranges Tryd.prog 3 RV w.heap.size C2 n D left cnt
  lf : ∀ z, left (.int .i64 z) = (Maps.has D (.int .i64 z) && !(vis ++ [y]).contains z)
  ne : ∀ z ∈ vis ++ [y], f z ≠ []
  nd : (vis ++ [y]).Nodup
  cv : vis.length + 1 + cnt ≤ n
  row : ∀ z, z ∉ vis → wr.ownsRow (w.heap.size + 3) 3 1 (val z) (f z).length ((f z).map (Value.int .i64))
  lo : ∀ y g, (val y).ownBlock = some g → w.heap.size + 3 ≤ g ∧ g < C2
  off : ∀ y z, y ≠ z → (val y).ownBlock = (val z).ownBlock → (val y).ownBlock = none
  out : OwnP (C2 + 1) 63 wr v out
  bl : Below w.heap.size w wr
  hi : C2 + 1 ≤ wr.heap.size
  mid : w.heap.size + 3 ≤ C2
theorem RgS.come {w wr w1 : World} {C2 n cnt cnt1 : Nat} {f : Int → List Int} {D : DataW Value} {val : Int → Value} {vis : List Int} {left : Lit → Bool} {v : Value} (h : RgS w C2 f D val n C2 vis left cnt v wr)
    (hs : ∀ z, Maps.has D (.int .i64 z) = true → f z ≠ []) (hoff : ∀ y z, y ≠ z → (val y).ownBlock = (val z).ownBlock → (val y).ownBlock = none) (hmid : w.heap.size + 3 ≤ C2) {y : Int} (hl : left (.int .i64 y) = true)
    (hrg : w1.ranges Tryd.prog 3 RV w.heap.size C2 n D (fun z => left z && !z.sameKey (.int .i64 y)) cnt1) (hlt : cnt1 < cnt) (hg : wr.grownBy w1 (some C2)) (hsz : w1.heap.size = wr.heap.size) :
    ComeS w C2 f D val n vis y (fun z => left z && !z.sameKey (.int .i64 y)) cnt1 (outOf f vis) v w1 := by
  have e := h.lf y
  rw [hl] at e
  have e1 : Maps.has D (.int .i64 y) = true := by
    cases q : Maps.has D (.int .i64 y) with
    | true => rfl
    | false => rw [q] at e; simp at e
  have e2 : y ∉ vis := by
    rw [e1] at e
    simpa using e
  refine ⟨hrg, fun z => ?_, fun z hz => ?_, ?_, by have := h.cv; omega, fun z hz => (h.row z hz).kept hg (.inr fun q => by have := (h.lo z C2 q).2; omega), h.lo, hoff, ?_, ?_, by rw [hsz]; exact h.hi, hmid⟩
  · show (left (.int .i64 z) && !(Lit.sameKey (.int .i64 z) (.int .i64 y))) = _
    rw [h.lf z, same_int]
    cases Maps.has D (.int .i64 z) <;> simp [Bool.not_or]
  · rcases List.mem_append.1 hz with hz | hz
    · exact h.ne z hz
    · have : z = y := by simpa using hz
      rw [this]
      exact hs y e1
  · rw [List.nodup_append]
    exact ⟨h.nd, by simp, fun a ha b hb => by
      have : b = y := by simpa using hb
      subst this
      exact fun q => e2 (q ▸ ha)⟩
  · have o := h.out
    unfold OwnP at o ⊢
    exact o.kept hg (.inr fun q => by have := (own_low o _ q).1; omega)
  · exact h.bl.grown hg h.bl.size (fun c hc => by injection hc with hc; omega)
theorem ComeS.sorted {w w1 w2 : World} {C2 n cnt : Nat} {f : Int → List Int} {D : DataW Value} {val : Int → Value} {vis : List Int} {y : Int} {left : Lit → Bool} {out : List (Int × Int)} {v : Value} (h : ComeS w C2 f D val n vis y left cnt out v w1)
    (hr : w2.ownsRow (w.heap.size + 3) 3 1 (val y) (f y).length ((srt (f y)).map (Value.int .i64))) (hg : w1.grownBy w2 (val y).ownBlock) : RowS w C2 f D val n vis y left cnt out v w2 := by
  have low := h.lo y
  refine ⟨h.rg.kept hg (fun q => by have := (low _ q.symm).1; omega) (fun q => by have := (low _ q.symm).2; omega), h.lf, h.ne, h.nd, h.cv, fun z hz => ?_, hr, h.lo, h.off, ?_, ?_, Nat.le_trans h.hi hg.size, h.mid⟩
  · have hzv : z ∉ vis := fun q => hz (List.mem_append.2 (.inl q))
    have hzy : z ≠ y := fun q => hz (List.mem_append.2 (.inr (by simp [q])))
    refine (h.row z hzv).kept hg ?_
    by_cases q : (val z).ownBlock = (val y).ownBlock
    · exact .inl (h.off z y hzy q)
    · exact .inr q
  · have o := h.out
    unfold OwnP at o ⊢
    refine o.kept hg ?_
    by_cases q : v.ownBlock = none
    · exact .inl q
    · refine .inr fun q2 => ?_
      cases q3 : v.ownBlock with
      | none => exact q q3
      | some c =>
        have a := (own_low o c q3).1
        have b := (low c (q2 ▸ q3)).2
        omega
  · exact h.bl.grown hg h.bl.size (fun c hc => by have := (low c hc).1; omega)
theorem RowS.later {w wr w2 : World} {C2 n cnt : Nat} {f : Int → List Int} {D : DataW Value} {val : Int → Value} {vis : List Int} {y : Int} {left : Lit → Bool} {out : List (Int × Int)} {v : Value} (h : RowS w C2 f D val n vis y left cnt out v wr) (hb : Below wr.heap.size wr w2) : RowS w C2 f D val n vis y left cnt out v w2 :=
  ⟨h.rg.kept (grown_of_below hb) (by simp) (by simp), h.lf, h.ne, h.nd, h.cv, fun z hz => pw_own_below (h.row z hz) hb, pw_own_below h.cur hb, h.lo, h.off, pw_own_below h.out hb, h.bl.trans (hb.mono h.bl.size), Nat.le_trans h.hi hb.size, h.mid⟩
theorem RowS.put {w wr w2 : World} {C2 n cnt : Nat} {f : Int → List Int} {D : DataW Value} {val : Int → Value} {vis : List Int} {y : Int} {left : Lit → Bool} {out : List (Int × Int)} {v v' : Value} {p : Int × Int} (h : RowS w C2 f D val n vis y left cnt out v wr)
    (ho : w2.ownsRow (C2 + 1) 63 2 v' (out.length + 1) (flatP out ++ [.int .i64 p.1, .int .i64 p.2])) (hg : wr.grownBy w2 v.ownBlock) : RowS w C2 f D val n vis y left cnt (out ++ [p]) v' w2 := by
  have o := h.out
  unfold OwnP at o
  have low := own_low o
  have far : ∀ z, (val z).ownBlock = none ∨ (val z).ownBlock ≠ v.ownBlock := fun z => by
    by_cases q : (val z).ownBlock = none
    · exact .inl q
    · refine .inr fun q2 => ?_
      cases q3 : (val z).ownBlock with
      | none => exact q q3
      | some c =>
        have a := (low c (q2 ▸ q3)).1
        have b := (h.lo z c q3).2
        omega
  refine ⟨h.rg.kept hg (fun q => by have a := (low _ q.symm).1; have b := h.mid; omega) (fun q => by have := (low _ q.symm).1; omega), h.lf, h.ne, h.nd, h.cv, fun z hz => (h.row z hz).kept hg (far z), h.cur.kept hg (far y), h.lo, h.off, ?_, h.bl.grown hg h.bl.size (fun c hc => by have a := (low c hc).1; have b := h.mid; omega), Nat.le_trans h.hi hg.size, h.mid⟩
  unfold OwnP
  rw [List.length_append, flatP_app]
  exact ho
theorem RowS.done {w wr : World} {C2 n cnt : Nat} {f : Int → List Int} {D : DataW Value} {val : Int → Value} {vis : List Int} {y : Int} {left : Lit → Bool} {v : Value} (h : RowS w C2 f D val n vis y left cnt (outOf f vis ++ rowAll f y) v wr) : RgS w C2 f D val n C2 (vis ++ [y]) left cnt v wr :=
  ⟨h.rg, h.lf, h.ne, h.nd, by rw [List.length_append]; exact h.cv, h.row, h.lo, by rw [outOf_snoc]; exact h.out, h.bl, h.hi⟩
theorem row_at {w : World} {C g cap : Nat} {l : List Int} (h : w.ownsRow C 3 1 (.slice (some ⟨g, 0, none⟩) l.length cap) l.length (l.map (Value.int .i64))) {i : Nat} (hi : i < l.length) : w.cell? ⟨g, i, none⟩ = some (.int .i64 (l.getD i 0)) := by
  obtain ⟨g', cap', cur, e, hC, hb, hn, hm, hs, ht⟩ := own_block h (by omega)
  injection e with e1 e2 e3
  injection e1 with e1
  injection e1 with e1
  subst e1
  rw [Nat.mul_one] at hs ht
  have e : (cur.toList.take l.length)[i]? = some (.int .i64 (l.getD i 0)) := by
    rw [ht, List.getD_eq_getElem?_getD]
    simp [hi]
  rw [List.getElem?_take, if_pos hi] at e
  unfold World.cell?
  simp only [hb]
  simpa using e
end Go.Proofs.YtpfenoioeajkmaaDoor.X
end

section
set_option linter.unusedVariables false
set_option linter.unusedSimpArgs false
namespace Go.Proofs.YtpfenoioeajkmaaDoor.X
open Go.RowKit Go.Proofs.YtpfenoioeajkmaaDoorW.PrintWords Go.Proofs.YtpfenoioeajkmaaDoorW.PrintLast Go.Proofs.YtpfenoioeajkmaaDoorW.PrintMore Go.Proofs.YtpfenoioeajkmaaDoor.L
section
variable {ops : Array Oper} {rest : List Oper} {o : Oper} {a : Act} {Q : Exit → Act → World → Prop}
set_option maxRecDepth 20000 in
theorem wpList_next_rows {w wr : World} {C2 n cnt : Nat} {f : Int → List Int} {D : DataW Value} {val : Int → Value} {vis : List Int} {left : Lit → Bool} {v : Value} (hg : o.guard = none) (it : Operand) (hop : o.op = Op.next it false) (h : RgS w C2 f D val n C2 vis left cnt v wr)
    (hs : ∀ z, Maps.has D (.int .i64 z) = true → f z ≠ []) (hoff : ∀ y z, y ≠ z → (val y).ownBlock = (val z).ownBlock → (val y).ownBlock = none) (hmid : w.heap.size + 3 ≤ C2) (hat : ∀ y, D.atKey (.int .i64 y) nilS = .held (val y))
    (hit : a.eval it = .pointer (some ⟨C2, 0, none⟩)) (hDone : (∀ kl, left kl = false) → wpList Tryd.prog ops Q rest (a.put o.dst (.tuple #[.bool false])) wr)
    (hMore : ∀ (x : Int) (w1 : World) (left1 : Lit → Bool) (cnt1 : Nat), cnt1 < cnt → -9223372036854775808 ≤ x ∧ x ≤ 9223372036854775807 → ComeS w C2 f D val n vis x left1 cnt1 (outOf f vis) v w1 → (Instr.entry (.pointer (some ⟨C2, 0, none⟩))).run Tryd.prog w1 = .ok (.tuple #[.int .i64 x, val x]) w1 →
      wpList Tryd.prog ops Q rest (a.put o.dst (.tuple #[.bool true, .int .i64 x, val x])) w1) : wpList Tryd.prog ops Q (o :: rest) a wr := by
  refine wpList_next_ranges (P := Tryd.prog) wr hg it hop 3 law3 RV (Value.int .i64) (fun v : Value => v) (fun key kl h => let ⟨x, e, _⟩ := Maps.keyOf_int_inv Tryd.underlying3 h; ⟨x, e⟩) (fun v y _ => ⟨v, rfl⟩) w.heap.size C2 n D left cnt hit h.rg (fun _ => hDone) ?_
  intro x c kl y w1 cnt1 hkey hlk hR hat2 hrg1 hlt hg1 hs1 hen
  obtain ⟨x', e1, e2, e3⟩ := Maps.keyOf_int_inv Tryd.underlying3 hkey
  injection e1 with _ e1
  subst e1
  subst e2
  have e4 := (hat2 nilS).symm.trans (hat x)
  unfold RV at hR
  injection hR with hR
  rw [← hR] at e4
  injection e4 with e4
  have e4 : c = val x := e4
  subst e4
  have hx : -9223372036854775808 ≤ x ∧ x ≤ 9223372036854775807 := by
    have e5 : (decide (IntKind.i64.min ≤ x) && decide (x ≤ IntKind.i64.max)) = true := e3
    rw [Bool.and_eq_true] at e5
    exact ⟨of_decide_eq_true e5.1, of_decide_eq_true e5.2⟩
  exact hMore x w1 _ cnt1 hlt hx (h.come hs hoff hmid hlk hrg1 hlt hg1 hs1) hen
end
theorem own_lower {B C : Nat} {e sz n : Nat} {w : World} {v : Value} {xs : List Value} (h : w.ownsRow C e sz v n xs) (hb : B ≤ C) : w.ownsRow B e sz v n xs := by
  obtain ⟨a, h | ⟨g, cap, cur, h1, h2, h3⟩⟩ := h
  · exact ⟨a, .inl h⟩
  · exact ⟨a, .inr ⟨g, cap, cur, h1, Nat.le_trans hb h2, h3⟩⟩
theorem RgS.all {w wr : World} {C2 n cnt : Nat} {f : Int → List Int} {D : DataW Value} {val : Int → Value} {vis : List Int} {left : Lit → Bool} {v : Value} (h : RgS w C2 f D val n C2 vis left cnt v wr) (hl : ∀ kl, left kl = false) (hat : ∀ y, D.atKey (.int .i64 y) nilS = .held (val y))
    (hrow : ∀ y, ∃ C w', World.ownsRow w' C 3 1 (val y) (f y).length ((f y).map (Value.int .i64))) (y : Int) : y ∈ vis ↔ f y ≠ [] := by
  refine ⟨h.ne y, fun hy => ?_⟩
  have e := h.lf y
  rw [hl] at e
  cases q : Maps.has D (.int .i64 y) with
  | true =>
    rw [q] at e
    simpa using e
  | false =>
    exfalso
    have e1 := hat y
    rw [Maps.atKey_of_not_has q] at e1
    injection e1 with e1
    obtain ⟨C, w', r⟩ := hrow y
    have h0 : 0 < (f y).length := List.length_pos_iff.2 hy
    obtain ⟨g, cap, cur, e2, -⟩ := own_block r h0
    rw [← e1] at e2
    injection e2 with e2
    cases e2
theorem outOf_small {f : Int → List Int} (hb : ∀ y, ∀ x ∈ f y, -24 ≤ x ∧ x ≤ 24) (hn : ∀ y, (f y).length ≤ 24) {vis : List Int} (hv : vis.length ≤ 24) (y : Int) {j : Nat} (hj : 2 * j ≤ (f y).length) : (outOf f vis ++ rowTo y (srt (f y)) j).length ≤ 28800 := by
  have a := outOf_len hb hn vis
  have b := rowTo_len (y := y) (l := srt (f y)) (fun x hx => hb y x ((srt_mem _ _).1 hx)) j (by rw [srt_len]; exact hj)
  have c := hn y
  rw [List.length_append]
  omega
theorem row_bnd {f : Int → List Int} (hb : ∀ y, ∀ x ∈ f y, -24 ≤ x ∧ x ≤ 24) (y : Int) {i : Nat} (hi : i < (f y).length) : -24 ≤ (srt (f y)).getD i 0 ∧ (srt (f y)).getD i 0 ≤ 24 := by
  rw [← srt_len] at hi
  refine hb y _ ((srt_mem _ _).1 ?_)
  rw [List.getD_eq_getElem?_getD, List.getElem?_eq_getElem hi]
  exact List.getElem_mem _
theorem RowS.at_ {w wr : World} {C2 n cnt : Nat} {f : Int → List Int} {D : DataW Value} {val : Int → Value} {vis : List Int} {y : Int} {left : Lit → Bool} {out : List (Int × Int)} {v : Value} (h : RowS w C2 f D val n vis y left cnt out v wr) {g L cap : Nat} (hv : val y = .slice (some ⟨g, 0, none⟩) L cap) (hL : (f y).length = L) {i : Nat} (hi : i < L) : wr.cell? ⟨g, i, none⟩ = some (.int .i64 ((srt (f y)).getD i 0)) := by
  have c := h.cur
  rw [hv] at c
  subst hL
  rw [← srt_len (f y)] at c hi
  exact row_at c hi
end Go.Proofs.YtpfenoioeajkmaaDoor.X
end

section
set_option linter.unusedVariables false
set_option linter.unusedSimpArgs false
namespace Go.Proofs.YtpfenoioeajkmaaDoor.X
open Go.RowKit Go.Proofs.YtpfenoioeajkmaaDoorW.PrintWords Go.Proofs.YtpfenoioeajkmaaDoorW.PrintLast Go.Proofs.YtpfenoioeajkmaaDoorW.PrintMore Go.Proofs.YtpfenoioeajkmaaDoor.L
theorem zero98 (w : World) : (zeroValue 98).run Tryd.prog w = .ok (.slice none 0 0) w := by kernel_rfl
theorem info3' : (Tryd.prog.info? 3).map (fun i => (i.zero, i.size, i.bytes)) = some (some (.int .i64 0), 1, 8) := by kernel_rfl
theorem St.start (w : World) (s : ByteArray) : St w s 0 0 0 (Lib.bytesWorld ((w.alloc (.map #[] 0)).alloc (.cells #[.int .i64 0, .int .i64 0] 63)) 5 s) := by
  have D := DblS.start (w.alloc (.map #[] 0)) s
  have e : (w.alloc (.map #[] 0)).heap.size = w.heap.size + 1 := by simp
  obtain ⟨h1, h2, h3⟩ := bytes_world ((w.alloc (.map #[] 0)).alloc (.cells #[.int .i64 0, .int .i64 0] 63)) s
  have hb : Below (w.alloc (.map #[] 0)).heap.size (w.alloc (.map #[] 0)) (Lib.bytesWorld ((w.alloc (.map #[] 0)).alloc (.cells #[.int .i64 0, .int .i64 0] 63)) 5 s) := D.bl
  refine ⟨⟨?_, ?_, ?_, ?_, ?_, ?_⟩, ⟨.map [], fun _ => .slice none 0 0, ⟨?_, fun y => rfl, fun y => World.ownsRow_nil _ _ _ _, fun y z _ _ => rfl, fun y h => by cases h⟩⟩, (below_one _).trans (hb.mono (by simp)), ?_⟩
  · rw [← e]; exact D.p0
  · rw [← e]; exact D.p1
  · rw [← e]; exact D.pf
  · rw [← e]; exact D.pg
  · rw [← e]; exact D.bs
  · rw [← e]; exact D.sz
  · exact (World.ownsMap_made w Tryd.prog 3 RV).kept (grown_of_below hb) (by simp)
  · have := D.sz; rw [e] at this; omega
set_option maxHeartbeats 16000000 in
set_option maxRecDepth 100000 in
theorem cells_calls (s : ByteArray) (hw : isW s = true) (hne : ∀ vis : List Int, vis.Nodup → (∀ y, y ∈ vis ↔ wallTo s y s.size ≠ []) → outOf (fun y => wallTo s y s.size) vis ≠ []) (w : World) :
    Calls Tryd.prog 73 #[.string s] w fun e w' => (∃ v, e = .returned v ∧ ∃ vis l, vis.Nodup ∧ (∀ y, y ∈ vis ↔ wallTo s y s.size ≠ []) ∧ l.Perm (outOf (fun y => wallTo s y s.size) vis) ∧ l.Pairwise (fun p q => ltP q p = false) ∧ OwnP w.heap.size 63 w' v l) ∧ Below w.heap.size w w' := by
  have HNE := Lib.hid hne
  clear hne
  have hs24 := isW_le hw
  have hcv := fun (w : World) => Lib.run_convert_string_bytes (P := Tryd.prog) w 9 78 5 s Tryd.underlying9 Tryd.underlying78 Tryd.underlying5
  have hmm := @run_makeMap Tryd.prog
  have HW := Lib.hid hw
  clear hw
  go_enter Tryd.func73, Tryd.ntmps73
  go_wp2_with fail
  have hst := St.start w s
  generalize Lib.bytesWorld ((w.alloc (.map #[] 0)).alloc (.cells #[.int .i64 0, .int .i64 0] 63)) 5 s = w1 at hst ⊢
  have HS : Hid (St w s 0 (sumx s 0) (sumy s 0) w1) := Lib.hid hst
  clear hst hcv hmm
  go_loopw [18] (fun i wr => ∃ k : Nat, k ≤ s.size ∧ i = .int .i64 k ∧ Hid (St w s k (sumx s k) (sumy s k) wr)) (fun i _ => s.size - (intOf i).toNat)
  case atStart => exact ⟨0, by omega, rfl, HS⟩
  case round =>
    clear HS
    obtain ⟨k, hk, rfl, HS⟩ := hrel
    by_cases hlt : k < s.size
    · skip
      have hb := HS.out.pt.bs k hlt
      have b1 := HS.out.pt.p0
      have b2 := HS.out.pt.p1
      go_wp2_with fail
      generalize hX : sumx s k = X at b1 ⊢
      generalize hY : sumy s k = Y at b2 ⊢
      refine start_ (n := 6) (S := fun w' => w'.cell? ⟨w.heap.size + 1, 0, none⟩ = some (.int .i64 X) ∧ w'.cell? ⟨w.heap.size + 1, 1, none⟩ = some (.int .i64 Y)) (ds := [5]) #[false, false, false, false, false, false] (by kernel_rfl) rfl rfl ⟨by simpa using b1, by simpa using b2⟩ (fun hHeld => ?_)
      refine take_ (i := 0) (N := (some 22)) (v := ?_) (a' := ?_) #[true, false, false, false, false, false] rfl rfl (by kernel_rfl) (fun _ _ _ h => h) (Or.inl ⟨by rfl, ?_⟩) hHeld ?_ ?_
      rotate_left
      · rintro w' ⟨s0, s1⟩; go_simp; first | done | with_reducible rfl
      rotate_left
      · simp only [Act.put, List.setIfInBounds_toArray, List.set_cons_zero, List.set_cons_succ, i64_w, i32_w]; rfl
      refine pure_ (i := 1) (N := (some 23)) (v := ?_) (a' := ?_) #[true, true, false, false, false, false] rfl rfl (by kernel_rfl) (fun _ _ _ h => h) (Or.inl ⟨by rfl, ?_⟩) ?_ ?_
      rotate_left
      · intro w'; go_simp; first | done | with_reducible rfl
      rotate_left
      · simp only [Act.put, List.setIfInBounds_toArray, List.set_cons_zero, List.set_cons_succ, i64_w, i32_w]; rfl
      refine two_ (i := 2) (j := 4) (Ni := (some 24)) (Nj := (some 7)) #[true, true, true, false, false, false] #[true, true, false, false, true, false] rfl rfl rfl rfl (by kernel_rfl) (by decide) (by decide) (fun K hK => ?_) (fun K hK => ?_)
      · skip
        refine goes_ Tryd.func69 (by kernel_rfl) rfl #[.int .u8 (bt s k)] (by rfl) rfl rfl (by (try simp only [List.map_toArray, List.map_cons, List.map_nil]); first | done | rfl) ?_
        refine (step_calls _ _).mono ?_
        rintro e w2 ⟨rfl, hb2⟩
        refine ⟨_, rfl, ?_⟩
        have HS2 := Lib.hid (HS.out.draw.later hb2)
        clear hb2
        refine hK.out _ _ ⟨hX ▸ HS2.out.pt.p0, hY ▸ HS2.out.pt.p1⟩ (fun hHeld => ?_)
        clear hK K
        refine norm_ (a' := ?_) ?_ ?_
        rotate_left
        · show Act.put _ (some 24) _ = _; simp only [Act.put, List.setIfInBounds_toArray, List.set_cons_zero, List.set_cons_succ, i64_w, i32_w]; rfl
        refine two_ (i := 3) (j := 4) (Ni := (some 25)) (Nj := (some 7)) #[true, true, true, true, false, false] #[true, true, true, false, true, false] rfl rfl rfl rfl (by kernel_rfl) (by decide) (by decide) (fun K hK => ?_) (fun K hK => ?_)
        · skip
          refine goes_ Tryd.func65 (by kernel_rfl) rfl #[ptV X Y, ptV (stepx (bt s k)) (stepy (bt s k))] (by rfl) rfl rfl (by (try simp only [List.map_toArray, List.map_cons, List.map_nil]); first | done | rfl) ?_
          refine (plus_calls _ _ _ _ _).mono ?_
          rintro e w3 ⟨rfl, hb2⟩
          refine ⟨_, rfl, ?_⟩
          have HS3 := Lib.hid (HS2.out.later hb2)
          clear hb2
          refine hK.out _ _ ⟨hX ▸ HS3.out.pt.p0, hY ▸ HS3.out.pt.p1⟩ (fun hHeld => ?_)
          clear hK K
          refine norm_ (a' := ?_) ?_ ?_
          rotate_left
          · show Act.put _ (some 25) _ = _; simp only [Act.put, List.setIfInBounds_toArray, List.set_cons_zero, List.set_cons_succ, i64_w, i32_w]; rfl
          refine one_ (i := 4) (N := (some 7)) #[true, true, true, true, true, false] rfl rfl (by kernel_rfl) (by decide) (fun K hK => ?_)
          refine alloc_step (cs := #[.int .i64 0, .int .i64 0]) (t := 63) (by rfl) rfl (by go_simp) ?_
          intro g hg w4 hbk hba
          have HQ4 := Lib.hid (StQ.start HS3.out hg hbk hba)
          clear hg hbk hba
          refine hK.out _ _ ⟨hX ▸ HQ4.out.pt.p0, hY ▸ HQ4.out.pt.p1⟩ (fun hHeld => ?_)
          clear hK K
          refine norm_ (a' := ?_) ?_ ?_
          rotate_left
          · show Act.put _ (some 7) _ = _; simp only [Act.put, List.setIfInBounds_toArray, List.set_cons_zero, List.set_cons_succ, i64_w, i32_w]; rfl
          have d0 := HQ4.out.q0
          have d1 := HQ4.out.q1
          have d2 := HQ4.out.qf
          have d3 := HQ4.out.qg
          refine last_ (i := 5) (N := none) #[true, true, true, true, true, true] rfl rfl (by kernel_rfl) (by decide) (fun K hK => ?_)
          refine skip_step (w1 := (w4.setCell ⟨g, 0, none⟩ (.int .i64 (wrap64 (X + stepx (bt s k))))).setCell ⟨g, 1, none⟩ (.int .i64 (wrap64 (Y + stepy (bt s k))))) (by rfl) (by unfold ptV; go_simp) ?_
          refine hK.out _ _ ?_
          clear hK K
          refine norm_ (a' := ?_) ?_ ?_
          rotate_left
          · show Act.put _ none _ = _; simp only [Act.put, List.setIfInBounds_toArray, List.set_cons_zero, List.set_cons_succ, i64_w, i32_w]; rfl
          refine done_ (by kernel_rfl) ?_
          clear d0 d1 d2 d3 hHeld
          have HQ5 := Lib.hid (HQ4.out.set1 (wrap64 (X + stepx (bt s k))) (wrap64 (Y + stepy (bt s k))))
          clear HQ4
          generalize (w4.setCell ⟨g, 0, none⟩ (.int .i64 (wrap64 (X + stepx (bt s k))))).setCell ⟨g, 1, none⟩ (.int .i64 (wrap64 (Y + stepy (bt s k)))) = w5 at HQ5 ⊢
          rw [← hX, ← hY, sumx_succ s k (by omega), sumy_succ s k (by omega)] at HQ5
          have HQ6 : Hid (StQ w s k X Y g (sumx s (k + 1)) (sumy s (k + 1)) w5) := by rw [← hX, ← hY]; exact HQ5
          have by1 := sumy_le s k
          have by2 := sumy_le s (k + 1)
          rw [hY] at by1
          obtain ⟨X2, hX2⟩ : ∃ X2, sumx s (k + 1) = X2 := ⟨_, rfl⟩
          obtain ⟨Y2, hY2⟩ : ∃ Y2, sumy s (k + 1) = Y2 := ⟨_, rfl⟩
          rw [hX2, hY2] at HQ6
          rw [hY2] at by2
          have HX := Lib.hid hX
          have HY := Lib.hid hY
          have HX2 := Lib.hid hX2
          have HY2 := Lib.hid hY2
          clear hX hY hX2 hY2 HQ5
          have e0 := HQ6.out.pt.p0
          have e1 := HQ6.out.pt.p1
          have e2 := HQ6.out.pt.pf
          have e3 := HQ6.out.pt.pg
          have f0 := HQ6.out.q0
          have f1 := HQ6.out.q1
          by_cases hv : Y = Y2
          · have bv : (Y != Y2) = false := by simp [hv]
            have HV := Lib.hid hv
            clear hv
            go_wp2_with fail
            refine ⟨⟨k + 1, by omega, by go_num, Lib.hid ?_⟩, by simp [intOf]; omega⟩
            rw [HX2.out, HY2.out]
            exact (HQ6.out.st.flat (by rw [HY.out, HY2.out, HV.out])).put _ _
          · have bv : (Y != Y2) = true := by simp [hv]
            have HV := Lib.hid hv
            obtain ⟨r, hr⟩ : ∃ r, min Y Y2 = r := ⟨_, rfl⟩
            have hr1 : -9223372036854775808 ≤ r ∧ r ≤ 9223372036854775807 := by omega
            have HR := Lib.hid hr
            obtain ⟨D, val, hWL, hgv⟩ := HQ6.out.wl
            have HWL := Lib.hid hWL
            have HGV := Lib.hid hgv
            have hb6 := below_one (w := w5) (.cells #[.int .i64 X] 3)
            have HO6 := Lib.hid (pw_own_below (hWL.row r) hb6)
            have HB6 := Lib.hid hb6
            have HL := Lib.hid (Nat.le_trans (wallTo_len s r k) (Nat.le_trans hk hs24))
            have HKEY := Lib.hid (Maps.keyOf_int_mk Tryd.underlying3 (WalkArith.wf_i64 hr1))
            have HHI := Lib.hid HQ6.out.hi
            obtain ⟨i0, hi0, hz0, hz1, hz2⟩ := info_parts info3'
            have HI := Lib.hid hi0
            have HZ := Lib.hid (And.intro hz0 (And.intro hz1 hz2))
            clear hi0 hz0 hz1 hz2 hv hr1 hWL hgv hb6
            go_wp2_with (first | (at_lookup; go_loud (refine wpList_lookup_held _ rfl _ _ 100 rfl law3 Tryd.underlying100 zero98 rfl HWL.out.own _ (.int .i64 r) rfl HKEY.out ?_); intro v hvv; have hve := (HWL.out.at_ r).symm.trans hvv; injection hve with hve; subst hve; clear hvv) | (at_builtin; go_loud (refine wpList_append_own_at _ rfl (.tmp 40) (.tmp 43) 98 rfl (w.heap.size + 3) 3 i0 (.int .i64 0) 1 8 Tryd.underlying98 HI.out HZ.out.1 HZ.out.2.1 HZ.out.2.2 rfl (by decide) (val r) _ _ rfl HO6.out ⟨w5.heap.size, 0, none⟩ 1 1 [.int .i64 X] rfl rfl (cell_one_new _ _ _) (ints_oneCell .i64 [X]) (by have := HL.out; unfold maxLen; omega) (by have := HL.out; omega) (Nat.le_trans HHI.out HB6.out.size) ?_); intro v1 w8 hown1 hgrow1 hnil1 hloc1; have HO8 := Lib.hid hown1; have HG8 := Lib.hid hgrow1; have HL8 := Lib.hid hloc1; clear hown1 hgrow1 hnil1 hloc1) | (at_mapUpdate; go_loud (refine wpList_mapUpdate_own _ rfl _ _ _ 100 rfl 3 98 law3 Tryd.underlying100 RV w.heap.size k D rfl ((HWL.out.own.kept (grown_of_below HB6.out) (by simp)).kept HG8.out (fun q => by have := (own_low HO6.out _ q.symm).1; omega)) (by unfold maxLen; omega) _ _ (.int .i64 r) rfl rfl HKEY.out (.held v1) [] rfl ?_); intro w9 hown9 hgrow9; have HQ9 := Lib.hid (HQ6.out.wall HWL.out HGV.out (by rw [HY.out, HY2.out]; exact HV.out) (by rw [HY.out, HY2.out]; exact HR.out) HX.out HB6.out HO8.out HG8.out HL8.out trivial hown9 hgrow9); clear hown9 hgrow9 e0 e1 e2 e3 f0 f1; have e0 := HQ9.out.pt.p0; have e1 := HQ9.out.pt.p1; have e2 := HQ9.out.pt.pf; have e3 := HQ9.out.pt.pg; have f0 := HQ9.out.q0; have f1 := HQ9.out.q1))
            refine ⟨⟨k + 1, by omega, by go_num, Lib.hid ?_⟩, by simp [intOf]; omega⟩
            rw [HX2.out, HY2.out]
            exact HQ9.out.st.put _ _
        · skip
          refine alloc_step (cs := #[.int .i64 0, .int .i64 0]) (t := 63) (by rfl) rfl (by go_simp) ?_
          intro g hg w3 hbk hba
          have HQ3 := Lib.hid (StQ.start HS2.out hg hbk hba)
          clear hg hbk hba
          refine hK.out _ _ ⟨hX ▸ HQ3.out.pt.p0, hY ▸ HQ3.out.pt.p1⟩ (fun hHeld => ?_)
          clear hK K
          refine norm_ (a' := ?_) ?_ ?_
          rotate_left
          · show Act.put _ (some 7) _ = _; simp only [Act.put, List.setIfInBounds_toArray, List.set_cons_zero, List.set_cons_succ, i64_w, i32_w]; rfl
          refine one_ (i := 3) (N := (some 25)) #[true, true, true, true, true, false] rfl rfl (by kernel_rfl) (by decide) (fun K hK => ?_)
          refine goes_ Tryd.func65 (by kernel_rfl) rfl #[ptV X Y, ptV (stepx (bt s k)) (stepy (bt s k))] (by rfl) rfl rfl (by (try simp only [List.map_toArray, List.map_cons, List.map_nil]); first | done | rfl) ?_
          refine (plus_calls _ _ _ _ _).mono ?_
          rintro e w4 ⟨rfl, hb2⟩
          refine ⟨_, rfl, ?_⟩
          have HQ4 := Lib.hid (HQ3.out.later hb2)
          clear hb2
          refine hK.out _ _ ⟨hX ▸ HQ4.out.pt.p0, hY ▸ HQ4.out.pt.p1⟩ (fun hHeld => ?_)
          clear hK K
          refine norm_ (a' := ?_) ?_ ?_
          rotate_left
          · show Act.put _ (some 25) _ = _; simp only [Act.put, List.setIfInBounds_toArray, List.set_cons_zero, List.set_cons_succ, i64_w, i32_w]; rfl
          have d0 := HQ4.out.q0
          have d1 := HQ4.out.q1
          have d2 := HQ4.out.qf
          have d3 := HQ4.out.qg
          refine last_ (i := 5) (N := none) #[true, true, true, true, true, true] rfl rfl (by kernel_rfl) (by decide) (fun K hK => ?_)
          refine skip_step (w1 := (w4.setCell ⟨g, 0, none⟩ (.int .i64 (wrap64 (X + stepx (bt s k))))).setCell ⟨g, 1, none⟩ (.int .i64 (wrap64 (Y + stepy (bt s k))))) (by rfl) (by unfold ptV; go_simp) ?_
          refine hK.out _ _ ?_
          clear hK K
          refine norm_ (a' := ?_) ?_ ?_
          rotate_left
          · show Act.put _ none _ = _; simp only [Act.put, List.setIfInBounds_toArray, List.set_cons_zero, List.set_cons_succ, i64_w, i32_w]; rfl
          refine done_ (by kernel_rfl) ?_
          clear d0 d1 d2 d3 hHeld
          have HQ5 := Lib.hid (HQ4.out.set1 (wrap64 (X + stepx (bt s k))) (wrap64 (Y + stepy (bt s k))))
          clear HQ4
          generalize (w4.setCell ⟨g, 0, none⟩ (.int .i64 (wrap64 (X + stepx (bt s k))))).setCell ⟨g, 1, none⟩ (.int .i64 (wrap64 (Y + stepy (bt s k)))) = w5 at HQ5 ⊢
          rw [← hX, ← hY, sumx_succ s k (by omega), sumy_succ s k (by omega)] at HQ5
          have HQ6 : Hid (StQ w s k X Y g (sumx s (k + 1)) (sumy s (k + 1)) w5) := by rw [← hX, ← hY]; exact HQ5
          have by1 := sumy_le s k
          have by2 := sumy_le s (k + 1)
          rw [hY] at by1
          obtain ⟨X2, hX2⟩ : ∃ X2, sumx s (k + 1) = X2 := ⟨_, rfl⟩
          obtain ⟨Y2, hY2⟩ : ∃ Y2, sumy s (k + 1) = Y2 := ⟨_, rfl⟩
          rw [hX2, hY2] at HQ6
          rw [hY2] at by2
          have HX := Lib.hid hX
          have HY := Lib.hid hY
          have HX2 := Lib.hid hX2
          have HY2 := Lib.hid hY2
          clear hX hY hX2 hY2 HQ5
          have e0 := HQ6.out.pt.p0
          have e1 := HQ6.out.pt.p1
          have e2 := HQ6.out.pt.pf
          have e3 := HQ6.out.pt.pg
          have f0 := HQ6.out.q0
          have f1 := HQ6.out.q1
          by_cases hv : Y = Y2
          · have bv : (Y != Y2) = false := by simp [hv]
            have HV := Lib.hid hv
            clear hv
            go_wp2_with fail
            refine ⟨⟨k + 1, by omega, by go_num, Lib.hid ?_⟩, by simp [intOf]; omega⟩
            rw [HX2.out, HY2.out]
            exact (HQ6.out.st.flat (by rw [HY.out, HY2.out, HV.out])).put _ _
          · have bv : (Y != Y2) = true := by simp [hv]
            have HV := Lib.hid hv
            obtain ⟨r, hr⟩ : ∃ r, min Y Y2 = r := ⟨_, rfl⟩
            have hr1 : -9223372036854775808 ≤ r ∧ r ≤ 9223372036854775807 := by omega
            have HR := Lib.hid hr
            obtain ⟨D, val, hWL, hgv⟩ := HQ6.out.wl
            have HWL := Lib.hid hWL
            have HGV := Lib.hid hgv
            have hb6 := below_one (w := w5) (.cells #[.int .i64 X] 3)
            have HO6 := Lib.hid (pw_own_below (hWL.row r) hb6)
            have HB6 := Lib.hid hb6
            have HL := Lib.hid (Nat.le_trans (wallTo_len s r k) (Nat.le_trans hk hs24))
            have HKEY := Lib.hid (Maps.keyOf_int_mk Tryd.underlying3 (WalkArith.wf_i64 hr1))
            have HHI := Lib.hid HQ6.out.hi
            obtain ⟨i0, hi0, hz0, hz1, hz2⟩ := info_parts info3'
            have HI := Lib.hid hi0
            have HZ := Lib.hid (And.intro hz0 (And.intro hz1 hz2))
            clear hi0 hz0 hz1 hz2 hv hr1 hWL hgv hb6
            go_wp2_with (first | (at_lookup; go_loud (refine wpList_lookup_held _ rfl _ _ 100 rfl law3 Tryd.underlying100 zero98 rfl HWL.out.own _ (.int .i64 r) rfl HKEY.out ?_); intro v hvv; have hve := (HWL.out.at_ r).symm.trans hvv; injection hve with hve; subst hve; clear hvv) | (at_builtin; go_loud (refine wpList_append_own_at _ rfl (.tmp 40) (.tmp 43) 98 rfl (w.heap.size + 3) 3 i0 (.int .i64 0) 1 8 Tryd.underlying98 HI.out HZ.out.1 HZ.out.2.1 HZ.out.2.2 rfl (by decide) (val r) _ _ rfl HO6.out ⟨w5.heap.size, 0, none⟩ 1 1 [.int .i64 X] rfl rfl (cell_one_new _ _ _) (ints_oneCell .i64 [X]) (by have := HL.out; unfold maxLen; omega) (by have := HL.out; omega) (Nat.le_trans HHI.out HB6.out.size) ?_); intro v1 w8 hown1 hgrow1 hnil1 hloc1; have HO8 := Lib.hid hown1; have HG8 := Lib.hid hgrow1; have HL8 := Lib.hid hloc1; clear hown1 hgrow1 hnil1 hloc1) | (at_mapUpdate; go_loud (refine wpList_mapUpdate_own _ rfl _ _ _ 100 rfl 3 98 law3 Tryd.underlying100 RV w.heap.size k D rfl ((HWL.out.own.kept (grown_of_below HB6.out) (by simp)).kept HG8.out (fun q => by have := (own_low HO6.out _ q.symm).1; omega)) (by unfold maxLen; omega) _ _ (.int .i64 r) rfl rfl HKEY.out (.held v1) [] rfl ?_); intro w9 hown9 hgrow9; have HQ9 := Lib.hid (HQ6.out.wall HWL.out HGV.out (by rw [HY.out, HY2.out]; exact HV.out) (by rw [HY.out, HY2.out]; exact HR.out) HX.out HB6.out HO8.out HG8.out HL8.out trivial hown9 hgrow9); clear hown9 hgrow9 e0 e1 e2 e3 f0 f1; have e0 := HQ9.out.pt.p0; have e1 := HQ9.out.pt.p1; have e2 := HQ9.out.pt.pf; have e3 := HQ9.out.pt.pg; have f0 := HQ9.out.q0; have f1 := HQ9.out.q1))
            refine ⟨⟨k + 1, by omega, by go_num, Lib.hid ?_⟩, by simp [intOf]; omega⟩
            rw [HX2.out, HY2.out]
            exact HQ9.out.st.put _ _
      · skip
        refine alloc_step (cs := #[.int .i64 0, .int .i64 0]) (t := 63) (by rfl) rfl (by go_simp) ?_
        intro g hg w2 hbk hba
        have HQ2 := Lib.hid (StQ.start HS.out.draw hg hbk hba)
        clear hg hbk hba
        refine hK.out _ _ ⟨hX ▸ HQ2.out.pt.p0, hY ▸ HQ2.out.pt.p1⟩ (fun hHeld => ?_)
        clear hK K
        refine norm_ (a' := ?_) ?_ ?_
        rotate_left
        · show Act.put _ (some 7) _ = _; simp only [Act.put, List.setIfInBounds_toArray, List.set_cons_zero, List.set_cons_succ, i64_w, i32_w]; rfl
        refine one_ (i := 2) (N := (some 24)) #[true, true, true, false, true, false] rfl rfl (by kernel_rfl) (by decide) (fun K hK => ?_)
        refine goes_ Tryd.func69 (by kernel_rfl) rfl #[.int .u8 (bt s k)] (by rfl) rfl rfl (by (try simp only [List.map_toArray, List.map_cons, List.map_nil]); first | done | rfl) ?_
        refine (step_calls _ _).mono ?_
        rintro e w3 ⟨rfl, hb2⟩
        refine ⟨_, rfl, ?_⟩
        have HQ3 := Lib.hid (HQ2.out.later hb2)
        clear hb2
        refine hK.out _ _ ⟨hX ▸ HQ3.out.pt.p0, hY ▸ HQ3.out.pt.p1⟩ (fun hHeld => ?_)
        clear hK K
        refine norm_ (a' := ?_) ?_ ?_
        rotate_left
        · show Act.put _ (some 24) _ = _; simp only [Act.put, List.setIfInBounds_toArray, List.set_cons_zero, List.set_cons_succ, i64_w, i32_w]; rfl
        refine one_ (i := 3) (N := (some 25)) #[true, true, true, true, true, false] rfl rfl (by kernel_rfl) (by decide) (fun K hK => ?_)
        refine goes_ Tryd.func65 (by kernel_rfl) rfl #[ptV X Y, ptV (stepx (bt s k)) (stepy (bt s k))] (by rfl) rfl rfl (by (try simp only [List.map_toArray, List.map_cons, List.map_nil]); first | done | rfl) ?_
        refine (plus_calls _ _ _ _ _).mono ?_
        rintro e w4 ⟨rfl, hb2⟩
        refine ⟨_, rfl, ?_⟩
        have HQ4 := Lib.hid (HQ3.out.later hb2)
        clear hb2
        refine hK.out _ _ ⟨hX ▸ HQ4.out.pt.p0, hY ▸ HQ4.out.pt.p1⟩ (fun hHeld => ?_)
        clear hK K
        refine norm_ (a' := ?_) ?_ ?_
        rotate_left
        · show Act.put _ (some 25) _ = _; simp only [Act.put, List.setIfInBounds_toArray, List.set_cons_zero, List.set_cons_succ, i64_w, i32_w]; rfl
        have d0 := HQ4.out.q0
        have d1 := HQ4.out.q1
        have d2 := HQ4.out.qf
        have d3 := HQ4.out.qg
        refine last_ (i := 5) (N := none) #[true, true, true, true, true, true] rfl rfl (by kernel_rfl) (by decide) (fun K hK => ?_)
        refine skip_step (w1 := (w4.setCell ⟨g, 0, none⟩ (.int .i64 (wrap64 (X + stepx (bt s k))))).setCell ⟨g, 1, none⟩ (.int .i64 (wrap64 (Y + stepy (bt s k))))) (by rfl) (by unfold ptV; go_simp) ?_
        refine hK.out _ _ ?_
        clear hK K
        refine norm_ (a' := ?_) ?_ ?_
        rotate_left
        · show Act.put _ none _ = _; simp only [Act.put, List.setIfInBounds_toArray, List.set_cons_zero, List.set_cons_succ, i64_w, i32_w]; rfl
        refine done_ (by kernel_rfl) ?_
        clear d0 d1 d2 d3 hHeld
        have HQ5 := Lib.hid (HQ4.out.set1 (wrap64 (X + stepx (bt s k))) (wrap64 (Y + stepy (bt s k))))
        clear HQ4
        generalize (w4.setCell ⟨g, 0, none⟩ (.int .i64 (wrap64 (X + stepx (bt s k))))).setCell ⟨g, 1, none⟩ (.int .i64 (wrap64 (Y + stepy (bt s k)))) = w5 at HQ5 ⊢
        rw [← hX, ← hY, sumx_succ s k (by omega), sumy_succ s k (by omega)] at HQ5
        have HQ6 : Hid (StQ w s k X Y g (sumx s (k + 1)) (sumy s (k + 1)) w5) := by rw [← hX, ← hY]; exact HQ5
        have by1 := sumy_le s k
        have by2 := sumy_le s (k + 1)
        rw [hY] at by1
        obtain ⟨X2, hX2⟩ : ∃ X2, sumx s (k + 1) = X2 := ⟨_, rfl⟩
        obtain ⟨Y2, hY2⟩ : ∃ Y2, sumy s (k + 1) = Y2 := ⟨_, rfl⟩
        rw [hX2, hY2] at HQ6
        rw [hY2] at by2
        have HX := Lib.hid hX
        have HY := Lib.hid hY
        have HX2 := Lib.hid hX2
        have HY2 := Lib.hid hY2
        clear hX hY hX2 hY2 HQ5
        have e0 := HQ6.out.pt.p0
        have e1 := HQ6.out.pt.p1
        have e2 := HQ6.out.pt.pf
        have e3 := HQ6.out.pt.pg
        have f0 := HQ6.out.q0
        have f1 := HQ6.out.q1
        by_cases hv : Y = Y2
        · have bv : (Y != Y2) = false := by simp [hv]
          have HV := Lib.hid hv
          clear hv
          go_wp2_with fail
          refine ⟨⟨k + 1, by omega, by go_num, Lib.hid ?_⟩, by simp [intOf]; omega⟩
          rw [HX2.out, HY2.out]
          exact (HQ6.out.st.flat (by rw [HY.out, HY2.out, HV.out])).put _ _
        · have bv : (Y != Y2) = true := by simp [hv]
          have HV := Lib.hid hv
          obtain ⟨r, hr⟩ : ∃ r, min Y Y2 = r := ⟨_, rfl⟩
          have hr1 : -9223372036854775808 ≤ r ∧ r ≤ 9223372036854775807 := by omega
          have HR := Lib.hid hr
          obtain ⟨D, val, hWL, hgv⟩ := HQ6.out.wl
          have HWL := Lib.hid hWL
          have HGV := Lib.hid hgv
          have hb6 := below_one (w := w5) (.cells #[.int .i64 X] 3)
          have HO6 := Lib.hid (pw_own_below (hWL.row r) hb6)
          have HB6 := Lib.hid hb6
          have HL := Lib.hid (Nat.le_trans (wallTo_len s r k) (Nat.le_trans hk hs24))
          have HKEY := Lib.hid (Maps.keyOf_int_mk Tryd.underlying3 (WalkArith.wf_i64 hr1))
          have HHI := Lib.hid HQ6.out.hi
          obtain ⟨i0, hi0, hz0, hz1, hz2⟩ := info_parts info3'
          have HI := Lib.hid hi0
          have HZ := Lib.hid (And.intro hz0 (And.intro hz1 hz2))
          clear hi0 hz0 hz1 hz2 hv hr1 hWL hgv hb6
          go_wp2_with (first | (at_lookup; go_loud (refine wpList_lookup_held _ rfl _ _ 100 rfl law3 Tryd.underlying100 zero98 rfl HWL.out.own _ (.int .i64 r) rfl HKEY.out ?_); intro v hvv; have hve := (HWL.out.at_ r).symm.trans hvv; injection hve with hve; subst hve; clear hvv) | (at_builtin; go_loud (refine wpList_append_own_at _ rfl (.tmp 40) (.tmp 43) 98 rfl (w.heap.size + 3) 3 i0 (.int .i64 0) 1 8 Tryd.underlying98 HI.out HZ.out.1 HZ.out.2.1 HZ.out.2.2 rfl (by decide) (val r) _ _ rfl HO6.out ⟨w5.heap.size, 0, none⟩ 1 1 [.int .i64 X] rfl rfl (cell_one_new _ _ _) (ints_oneCell .i64 [X]) (by have := HL.out; unfold maxLen; omega) (by have := HL.out; omega) (Nat.le_trans HHI.out HB6.out.size) ?_); intro v1 w8 hown1 hgrow1 hnil1 hloc1; have HO8 := Lib.hid hown1; have HG8 := Lib.hid hgrow1; have HL8 := Lib.hid hloc1; clear hown1 hgrow1 hnil1 hloc1) | (at_mapUpdate; go_loud (refine wpList_mapUpdate_own _ rfl _ _ _ 100 rfl 3 98 law3 Tryd.underlying100 RV w.heap.size k D rfl ((HWL.out.own.kept (grown_of_below HB6.out) (by simp)).kept HG8.out (fun q => by have := (own_low HO6.out _ q.symm).1; omega)) (by unfold maxLen; omega) _ _ (.int .i64 r) rfl rfl HKEY.out (.held v1) [] rfl ?_); intro w9 hown9 hgrow9; have HQ9 := Lib.hid (HQ6.out.wall HWL.out HGV.out (by rw [HY.out, HY2.out]; exact HV.out) (by rw [HY.out, HY2.out]; exact HR.out) HX.out HB6.out HO8.out HG8.out HL8.out trivial hown9 hgrow9); clear hown9 hgrow9 e0 e1 e2 e3 f0 f1; have e0 := HQ9.out.pt.p0; have e1 := HQ9.out.pt.p1; have e2 := HQ9.out.pt.pf; have e3 := HQ9.out.pt.pg; have f0 := HQ9.out.q0; have f1 := HQ9.out.q1))
          refine ⟨⟨k + 1, by omega, by go_num, Lib.hid ?_⟩, by simp [intOf]; omega⟩
          rw [HX2.out, HY2.out]
          exact HQ9.out.st.put _ _
    · have hk2 : k = s.size := by omega
      subst hk2
      obtain ⟨D, val, hWL⟩ := HS.out.wl
      obtain ⟨f, hf⟩ : ∃ f : Int → List Int, f = fun y => wallTo s y s.size := ⟨_, rfl⟩
      rw [← hf] at hWL
      have HAT := Lib.hid hWL.at_
      have HHAS := Lib.hid hWL.has_
      have HOFF := Lib.hid hWL.off
      have HROW : Hid (∀ y, ∃ C w', World.ownsRow w' C 3 1 (val y) (f y).length ((f y).map (Value.int .i64))) := Lib.hid fun y => ⟨_, _, hWL.row y⟩
      have HWL := Lib.hid hWL
      have HBL := Lib.hid HS.out.bl
      have HHI := Lib.hid HS.out.hi
      have HB1 : Hid (∀ y, ∀ x ∈ f y, -24 ≤ x ∧ x ≤ 24) := Lib.hid (by subst hf; exact fun y => wallTo_in hs24 y s.size (Nat.le_refl _))
      have HB2 : Hid (∀ y, (f y).length ≤ 24) := Lib.hid (by subst hf; exact fun y => Nat.le_trans (wallTo_len s y s.size) hs24)
      have HF := Lib.hid hf
      clear hWL hk HS
      go_wp2_with (first | (at_range; go_loud (refine wpList_range_own wr rfl _ 100 rfl 3 98 law3 Tryd.underlying100 RV w.heap.size s.size D rfl HWL.out.own ?_); intro w0 hrg0 hg0 hs0; have HR0 := Lib.hid (RgS.start HWL.out HBL.out HHI.out hrg0 hg0 hs0); clear hrg0 hg0 hs0) | go_in)
      go_frame
      clear hlt hf HWL HBL
      generalize wr.heap.size = C2 at HR0 HHI ⊢
      clear wr
      go_loopw [9] (fun v wr => ∃ vis left cnt, Hid (RgS w C2 f D val s.size C2 vis left cnt v wr)) (fun _ wr => wr.rangeLeft w.heap.size C2)
      case atStart => exact ⟨_, _, _, HR0⟩
      case round =>
        clear HR0
        obtain ⟨vis, left, cnt, HR⟩ := hrel
        obtain ⟨wo, rfl⟩ : ∃ wo : World, wo = wr := ⟨_, rfl⟩
        go_wp2_with (first | (at_next; go_loud (refine wpList_next_rows rfl _ rfl HR.out HHAS.out HOFF.out HHI.out HAT.out rfl ?_ ?_)) | go_in)
        · intro hl0
          have HL0 := Lib.hid hl0
          clear hl0
          go_wp2_with fail
          have hvis := HR.out.all HL0.out HAT.out HROW.out
          have hlen0 : 0 < (outOf f vis).length := List.length_pos_iff.2 (HNE.out vis HR.out.nd (by have e := HF.out; subst e; exact hvis) |> fun h => by have e := HF.out; subst e; exact h)
          have hlen1 : (outOf f vis).length < 4611686018427387904 := by
            have := outOf_small HB1.out HB2.out (vis := vis) (by have := HR.out.cv; omega) 0 (j := 0) (by omega)
            rw [List.length_append] at this
            omega
          refine (sort_pts HR.out.out hlen0 hlen1).mono ?_
          rintro e w3 ⟨rfl, l', hp, hpw, ho, hg⟩
          have HO := Lib.hid ho
          have HP := Lib.hid (And.intro hp (And.intro hpw hvis))
          have HB3 : Hid (Below w.heap.size w w3) := Lib.hid (HR.out.bl.grown hg HR.out.bl.size (fun c hc => by have := (own_low HR.out.out c hc).1; have := HHI.out; omega))
          clear ho hp hpw hg hlen0 hlen1 hvis
          go_wp2
          go_ret
          refine ⟨⟨_, rfl, vis, l', HR.out.nd, ?_, ?_, HP.out.2.1, ?_⟩, HB3.out⟩
          · have e := HF.out; subst e; exact HP.out.2.2
          · have e := HF.out; subst e; exact HP.out.1
          · exact own_lower HO.out (by have := HHI.out; omega)
        · intro x w1 left1 cnt1 hlt hx1 hx2 hcome hen
          have hnot : x ∉ vis := fun q => by
            have := List.nodup_append.1 hcome.nd
            exact this.2.2 x q x (by simp) rfl
          have hpos : 0 < (f x).length := List.length_pos_iff.2 (hcome.ne x (by simp))
          have hb2 := HB2.out x
          have HC := Lib.hid hcome
          have HLT := Lib.hid hlt
          clear hcome hlt
          go_wp2_with fail
          refine (sort_row (HC.out.row x hnot) hpos (by omega)).mono ?_
          rintro e w2 ⟨rfl, hr2, hg2⟩
          have HQ := Lib.hid (HC.out.sorted hr2 hg2)
          clear hr2 hg2 HC hen hnot
          obtain ⟨g, cap, cur, hv, -⟩ := own_block HQ.out.cur hpos
          obtain ⟨L, hL⟩ : ∃ L, (f x).length = L := ⟨_, rfl⟩
          rw [hL] at hv hb2 hpos
          rw [hv]
          have HV := Lib.hid hv
          have HL := Lib.hid hL
          have HQ0 : Hid (RowS w C2 f D val s.size vis x left1 cnt1 (outOf f vis ++ rowTo x (srt (f x)) (0 / 2)) u9 w2) := Lib.hid (by rw [Nat.zero_div, rowTo, List.append_nil]; exact HQ.out)
          clear hv hL HQ
          go_wp2_with fail
          go_loopw [12, 9] (fun i v wr => ∃ i' : Nat, i' % 2 = 0 ∧ i' ≤ L ∧ i = .int .i64 (i' : Int) ∧ Hid (RowS w C2 f D val s.size vis x left1 cnt1 (outOf f vis ++ rowTo x (srt (f x)) (i' / 2)) v wr)) (fun i _ _ => L - (intOf i).toNat)
          case atStart => exact ⟨0, rfl, by omega, rfl, HQ0⟩
          case round =>
            clear HQ0
            obtain ⟨i, hi2, hiL, rfl, HQ⟩ := hrel
            obtain ⟨wp, rfl⟩ : ∃ wp : World, wp = wr := ⟨_, rfl⟩
            by_cases hlt : i + 1 < L
            · obtain ⟨A, hA⟩ : ∃ A, (srt (f x)).getD i 0 = A := ⟨_, rfl⟩
              obtain ⟨B, hB⟩ : ∃ B, (srt (f x)).getD (i + 1) 0 = B := ⟨_, rfl⟩
              have a1 := row_bnd HB1.out x (i := i) (by rw [HL.out]; omega)
              have a2 := row_bnd HB1.out x (i := i + 1) (by rw [HL.out]; omega)
              rw [hA] at a1
              rw [hB] at a2
              have c1 := HQ.out.at_ HV.out HL.out (i := i) (by omega)
              rw [hA] at c1
              have HA := Lib.hid hA
              have HB := Lib.hid hB
              clear hA hB
              go_wp2_with fail
              have HQ0 : Hid (RowS w C2 f D val s.size vis x left1 cnt1 (outOf f vis ++ rowTo x (srt (f x)) (i / 2) ++ spanTo x A 0) u9 wp) := Lib.hid (by rw [spanTo, List.append_nil]; exact HQ.out)
              clear c1
              rw [show decide ((i : Int) + 1 < (L : Int)) = true from decide_eq_true (by omega)]
              go_loopw [13, 9] (fun z v wr => ∃ m : Nat, m ≤ (B - A).toNat ∧ z = .int .i64 (A + m) ∧ Hid (RowS w C2 f D val s.size vis x left1 cnt1 (outOf f vis ++ rowTo x (srt (f x)) (i / 2) ++ spanTo x A m) v wr)) (fun z _ _ => (B - intOf z).toNat)
              case atStart => exact ⟨0, by omega, by simp, HQ0⟩
              case round =>
                clear HQ0 HQ
                obtain ⟨m, hm, rfl, HQ⟩ := hrel
                obtain ⟨wq, rfl⟩ : ∃ wq : World, wq = wr := ⟨_, rfl⟩
                obtain ⟨z, hz⟩ : ∃ z : Int, A + (m : Int) = z := ⟨_, rfl⟩
                rw [hz]
                have c2 := HQ.out.at_ HV.out HL.out (i := i + 1) hlt
                rw [HB.out] at c2
                have hz1 : -24 ≤ z ∧ z ≤ 72 := by omega
                have HZ := Lib.hid hz
                clear hz
                by_cases hzb : z < B
                · have hb7 := below_one (w := wq) (.cells #[.int .i64 z, .int .i64 x] 63)
                  have HQ7 := Lib.hid (HQ.out.later hb7)
                  have hlen : (outOf f vis ++ rowTo x (srt (f x)) (i / 2) ++ spanTo x A m).length ≤ 28848 := by
                    have h1 := outOf_small HB1.out HB2.out (vis := vis) (by have := HQ.out.cv; omega) x (j := i / 2) (by rw [HL.out]; omega)
                    rw [List.length_append, spanTo_len]
                    omega
                  have HLEN := Lib.hid hlen
                  obtain ⟨i0, hi0, hz0, hz1', hz2⟩ := info_parts info63
                  have HI := Lib.hid hi0
                  have HZ2 := Lib.hid (And.intro hz0 (And.intro hz1' hz2))
                  clear hb7 hlen hi0 hz0 hz1' hz2
                  go_wp2_with (first | (at_builtin; go_loud (refine wpList_append_own_at _ rfl (.tmp 76) (.tmp 80) 67 rfl (C2 + 1) 63 i0 _ 2 16 Tryd.underlying67 HI.out HZ2.out.1 HZ2.out.2.1 HZ2.out.2.2 rfl (by decide) u9 _ _ rfl HQ7.out.out ⟨wq.heap.size, 0, none⟩ 1 1 [.int .i64 z, .int .i64 x] rfl rfl (two_new _ _ _ _) (by simp [Value.oneCell']) (by have := HLEN.out; unfold maxLen; omega) (by have := HLEN.out; omega) HQ7.out.hi ?_); intro v1 w8 hown1 hgrow1 _ _; have HQ8 := Lib.hid (HQ7.out.put (p := (z, x)) hown1 hgrow1); clear hown1 hgrow1))
                  refine ⟨⟨m + 1, by have := HZ.out; omega, by have := HZ.out; go_num, Lib.hid ?_⟩, by simp [intOf]; omega⟩
                  rw [spanTo, HZ.out, ← List.append_assoc]
                  exact HQ8.out
                · go_wp2_with fail
                  have hm2 : m = (B - A).toNat := by have := HZ.out; omega
                  refine ⟨⟨i + 2, by omega, by omega, by go_num, Lib.hid ?_⟩, by simp [intOf]; omega⟩
                  rw [show (i + 2) / 2 = i / 2 + 1 by omega, rowTo, show 2 * (i / 2) = i by omega, HA.out, HB.out, ← hm2, ← List.append_assoc]
                  exact HQ.out
            · go_wp2_with fail
              refine ⟨⟨vis ++ [x], left1, cnt1, Lib.hid (RowS.done ?_)⟩, ?_⟩
              · rw [rowAll, HL.out, show L / 2 = i / 2 by omega]
                exact HQ.out
              · rw [HQ.out.rg.left_eq, HR.out.rg.left_eq]
                exact HLT.out
end Go.Proofs.YtpfenoioeajkmaaDoor.X
end

section
set_option linter.unusedVariables false
set_option linter.unusedSimpArgs false
namespace Go.Proofs.YtpfenoioeajkmaaDoor.L
open Go.RowKit Go.Proofs.YtpfenoioeajkmaaDoorW.PrintWords Go.Proofs.YtpfenoioeajkmaaDoorW.PrintLast Go.Proofs.YtpfenoioeajkmaaDoorW.PrintMore Go.Proofs.YtpfenoioeajkmaaDoor.X Go.Proofs.YtpfenoioeajkmaaDoor.G
theorem spanTo_mem (y a : Int) (p : Int × Int) : ∀ m, p ∈ spanTo y a m ↔ p.2 = y ∧ a ≤ p.1 ∧ p.1 < a + m
  | 0 => ⟨fun h => (by cases h), fun ⟨_, h1, h2⟩ => (by omega)⟩
  | m + 1 => by
    rw [spanTo, List.mem_append, spanTo_mem y a p m, List.mem_singleton]
    constructor
    · rintro (⟨h1, h2, h3⟩ | rfl)
      · exact ⟨h1, h2, by omega⟩
      · exact ⟨rfl, by show a ≤ a + m; omega, by show a + (m : Int) < a + ((m + 1 : Nat) : Int); omega⟩
    · rintro ⟨h1, h2, h3⟩
      by_cases e : p.1 = a + m
      · right
        rw [← e, ← h1]
      · exact .inl ⟨h1, h2, by omega⟩
theorem spanTo_pw (y a : Int) : ∀ m, (spanTo y a m).Pairwise fun p q => p.1 < q.1
  | 0 => List.Pairwise.nil
  | m + 1 => by
    rw [spanTo, List.pairwise_append]
    refine ⟨spanTo_pw y a m, by simp, fun p hp q hq => ?_⟩
    have h1 := ((spanTo_mem y a p m).1 hp).2.2
    rw [List.mem_singleton] at hq
    rw [hq]
    exact h1
def rows (y : Int) : List Int → List (Int × Int)
  | a :: b :: t => spanTo y a (b - a).toNat ++ rows y t
  | _ => []
theorem rowTo_cons (y a b : Int) (t : List Int) : ∀ j, rowTo y (a :: b :: t) (j + 1) = spanTo y a (b - a).toNat ++ rowTo y t j
  | 0 => by simp [rowTo]
  | j + 1 => by
    rw [rowTo, rowTo_cons y a b t j, rowTo, List.append_assoc]
    rw [show 2 * (j + 1) = 2 * j + 1 + 1 by omega]
    simp only [List.getD_cons_succ]
theorem rowTo_rows (y : Int) : ∀ l : List Int, rowTo y l (l.length / 2) = rows y l
  | [] => rfl
  | [a] => by simp [rowTo, rows]
  | a :: b :: t => by
    rw [show (a :: b :: t).length / 2 = t.length / 2 + 1 by simp only [List.length_cons]; omega, rowTo_cons, rowTo_rows y t]
    rfl
theorem still {g : Int → Int} {p : Int} : ∀ m : Nat, (∀ x, p < x → x ≤ p + m → g (x - 1) = g x) → g (p + m) = g p
  | 0, _ => by simp
  | m + 1, h => by
    have ih := still (g := g) (p := p) m fun x h1 h2 => h x h1 (by omega)
    have := h (p + m + 1) (by omega) (by omega)
    rw [show p + (m : Int) + 1 - 1 = p + m by omega] at this
    rw [show p + ((m + 1 : Nat) : Int) = p + m + 1 by omega, ← this, ih]
theorem still' {g : Int → Int} {p q : Int} (hpq : p ≤ q) (h : ∀ x, p < x → x ≤ q → g (x - 1) = g x) : g q = g p := by
  have := still (g := g) (p := p) (q - p).toNat fun x h1 h2 => h x h1 (by omega)
  rw [show p + ((q - p).toNat : Int) = q by omega] at this
  exact this
theorem rows_spec {g : Int → Int} (hz : ∀ x, g x = 0 ∨ g x = 1) {M : Int} (hM : ∀ x, M ≤ x → g x = 0) (y : Int) : ∀ (l : List Int) (lo : Int), l.Pairwise (· < ·) → (∀ x ∈ l, lo < x) → g lo = 0 → (∀ x, lo < x → (x ∈ l ↔ g (x - 1) ≠ g x)) →
    (∀ p, p ∈ rows y l ↔ p.2 = y ∧ lo < p.1 ∧ g p.1 = 1) ∧ (rows y l).Pairwise fun p q => p.1 < q.1
  | [], lo, _, _, h0, hw => by
    refine ⟨fun p => ⟨fun h => (by cases h), fun ⟨_, h1, h2⟩ => ?_⟩, List.Pairwise.nil⟩
    have := still' (g := g) (p := lo) (q := p.1) (by omega) fun x h3 _ => Classical.byContradiction fun q => by
      have := (hw x h3).2 q
      cases this
    omega
  | [a], lo, _, hl, h0, hw => by
    exfalso
    have ha := hl a (by simp)
    have h1 := still' (g := g) (p := lo) (q := a - 1) (by omega) fun x h3 h4 => Classical.byContradiction fun q => by
      have := (hw x h3).2 q
      rw [List.mem_singleton] at this
      omega
    have h2 := (hw a ha).1 (by simp)
    have h5 := still' (g := g) (p := a) (q := max a M) (by omega) fun x h3 h4 => Classical.byContradiction fun q => by
      have := (hw x (by omega)).2 q
      rw [List.mem_singleton] at this
      omega
    have h6 := hM (max a M) (by omega)
    omega
  | a :: b :: t, lo, hp, hl, h0, hw => by
    have ha := hl a (by simp)
    rw [List.pairwise_cons, List.pairwise_cons] at hp
    obtain ⟨p1, p2, p3⟩ := hp
    have hab := p1 b (by simp)
    have h1 : ∀ q, lo ≤ q → q < a → g q = 0 := fun q q1 q2 => by
      rw [still' (g := g) (p := lo) (q := q) q1 fun x h3 h4 => Classical.byContradiction fun c => by
        have := (hw x h3).2 c
        rw [List.mem_cons, List.mem_cons] at this
        rcases this with e | e | e
        · omega
        · omega
        · have := p2 x e; omega]
      exact h0
    have h2 := (hw a ha).1 (by simp)
    rw [h1 (a - 1) (by omega) (by omega)] at h2
    have h3 : g a = 1 := by rcases hz a with e | e <;> omega
    have h4 : ∀ q, a ≤ q → q < b → g q = 1 := fun q q1 q2 => by
      rw [still' (g := g) (p := a) (q := q) q1 fun x h3 h4 => Classical.byContradiction fun c => by
        have := (hw x (by omega)).2 c
        rw [List.mem_cons, List.mem_cons] at this
        rcases this with e | e | e
        · omega
        · omega
        · have := p2 x e; omega]
      exact h3
    have h5 := (hw b (by omega)).1 (by simp)
    rw [h4 (b - 1) (by omega) (by omega)] at h5
    have h6 : g b = 0 := by rcases hz b with e | e <;> omega
    obtain ⟨r1, r2⟩ := rows_spec hz hM y t b p3 p2 h6 fun x hx => by
      rw [← hw x (by omega), List.mem_cons, List.mem_cons]
      constructor
      · exact fun h => .inr (.inr h)
      · rintro (e | e | e)
        · omega
        · omega
        · exact e
    refine ⟨fun p => ?_, ?_⟩
    · rw [rows, List.mem_append, spanTo_mem, r1]
      constructor
      · rintro (⟨q1, q2, q3⟩ | ⟨q1, q2, q3⟩)
        · exact ⟨q1, by omega, h4 _ q2 (by omega)⟩
        · exact ⟨q1, by omega, q3⟩
      · rintro ⟨q1, q2, q3⟩
        by_cases c1 : p.1 < a
        · have := h1 p.1 (by omega) c1; omega
        · by_cases c2 : p.1 < b
          · exact .inl ⟨q1, by omega, by omega⟩
          · refine .inr ⟨q1, ?_, q3⟩
            by_cases c3 : p.1 = b
            · rw [c3] at q3; omega
            · omega
    · rw [rows, List.pairwise_append]
      refine ⟨spanTo_pw _ _ _, r2, fun p hp q hq => ?_⟩
      have := ((spanTo_mem _ _ _ _).1 hp).2.2
      have := ((r1 q).1 hq).2.1
      omega
def isWall (s : ByteArray) (x y : Int) (i : Nat) : Prop := ((gD s i = 1 ∧ gY s i = y) ∨ (gD s i = 3 ∧ gY s i = y + 1)) ∧ gX s i = x
theorem once {s : ByteArray} (h : isO s = true) {x y : Int} {i j : Nat} (hi : i < s.size) (hj : j < s.size) (a : isWall s x y i) (b : isWall s x y j) : i = j := by
  have L := loop_of h
  have same : gX s i = gX s j → gY s i = gY s j → i = j := fun e1 e2 => by
    have := L.inj i j e1 e2
    rwa [Nat.mod_eq_of_lt hi, Nat.mod_eq_of_lt hj] at this
  have cross : ∀ {i j : Nat}, gD s i = 1 → gY s i = y → gX s i = x → gD s j = 3 → gY s j = y + 1 → gX s j = x → False := fun {i j} d1 y1 x1 d2 y2 x2 => by
    have e := L.inj (i + 1) j (by rw [L.sx, d1, x1, x2]; simp [ux]) (by rw [L.sy, d1, y1, y2]; simp [uy])
    have e1 := L.mod_d (i + 1)
    rw [e, L.mod_d j, d2] at e1
    exact L.no_u i (by rw [← e1, d1])
  obtain ⟨a1, a2⟩ := a
  obtain ⟨b1, b2⟩ := b
  rcases a1 with ⟨a1, a3⟩ | ⟨a1, a3⟩ <;> rcases b1 with ⟨b1, b3⟩ | ⟨b1, b3⟩
  · exact same (by omega) (by omega)
  · exact (cross a1 a3 a2 b1 b3 b2).elim
  · exact (cross b1 b3 b2 a1 a3 a2).elim
  · exact same (by omega) (by omega)
theorem wallTo_step {s : ByteArray} (h : isO s = true) (y : Int) {k : Nat} (hk : k < s.size) (x : Int) : (x ∈ if sumy s k ≠ sumy s (k + 1) ∧ min (sumy s k) (sumy s (k + 1)) = y then [sumx s k] else []) ↔ isWall s x y k := by
  obtain ⟨hw, h4, -, -, -⟩ := isO_parts h
  have hl := ((isW_iff s).1 hw).2
  have hk' : k % s.size = k := Nat.mod_eq_of_lt hk
  have hs := (cd_step (hl k hk)).2
  have e0 : sumy s (k + 1) = sumy s k + stepy (bt s (k : Int)) := rfl
  unfold isWall gD gX gY
  rw [hk', e0, hs]
  have := cd_lt (bt s (k : Int))
  rcases d_cases this with e | e | e | e <;> rw [e] <;> simp [uy] <;> omega
theorem wallTo_mem {s : ByteArray} (h : isO s = true) (x y : Int) : ∀ k, k ≤ s.size → (x ∈ wallTo s y k ↔ ∃ i, i < k ∧ isWall s x y i)
  | 0, _ => ⟨fun h => (by cases h), fun ⟨i, h, _⟩ => (by omega)⟩
  | k + 1, hk => by
    rw [wallTo, List.mem_append, wallTo_mem h x y k (by omega), wallTo_step h y (by omega)]
    constructor
    · rintro (⟨i, h1, h2⟩ | h)
      · exact ⟨i, by omega, h2⟩
      · exact ⟨k, by omega, h⟩
    · rintro ⟨i, h1, h2⟩
      by_cases e : i = k
      · subst e; exact .inr h2
      · exact .inl ⟨i, by omega, h2⟩
theorem wallTo_nodup {s : ByteArray} (h : isO s = true) (y : Int) : ∀ k, k ≤ s.size → (wallTo s y k).Nodup
  | 0, _ => List.nodup_nil
  | k + 1, hk => by
    rw [wallTo, List.nodup_append]
    refine ⟨wallTo_nodup h y k (by omega), by split <;> simp, fun a ha b hb => ?_⟩
    obtain ⟨i, hi, h1⟩ := (wallTo_mem h a y k (by omega)).1 ha
    have h2 := (wallTo_step h y (by omega) b).1 hb
    intro e
    subst e
    have := once h (by omega) (by omega) h1 h2
    omega
theorem wall_cross {s : ByteArray} (h : isO s = true) (x y : Int) : x ∈ wallTo s y s.size ↔ gW s (x - 1) y ≠ gW s x y := by
  have L := loop_of h
  have hc := cross_v L x y
  rw [wallTo_mem h x y s.size (Nat.le_refl _)]
  have off : ∀ i, ¬ isWall s x y i → (if gD s i = 1 ∧ gX s i = x ∧ gY s i = y then (1 : Int) else 0) - (if gD s i = 3 ∧ gX s i = x ∧ gY s i = y + 1 then 1 else 0) = 0 := fun i hi => by
    unfold isWall at hi
    rw [if_neg (fun c => hi ⟨.inl ⟨c.1, c.2.2⟩, c.2.1⟩), if_neg (fun c => hi ⟨.inr ⟨c.1, c.2.2⟩, c.2.1⟩)]
    rfl
  constructor
  · rintro ⟨i, hi, hw⟩ e
    unfold gW at e
    rw [e, Int.sub_self, S_one (k := i) hi fun j hj hne => off j fun hj2 => hne (once h hj hi hj2 hw)] at hc
    obtain ⟨a, b⟩ := hw
    rcases a with ⟨a, c⟩ | ⟨a, c⟩
    · rw [if_pos ⟨a, b, c⟩, if_neg (fun q => by rw [a] at q; omega)] at hc
      omega
    · rw [if_neg (fun q => by rw [a] at q; omega), if_pos ⟨a, b, c⟩] at hc
      omega
  · intro hne
    refine Classical.byContradiction fun q => hne ?_
    rw [S_zero fun i hi => off i fun c => q ⟨i, hi, c⟩] at hc
    unfold gW
    omega
theorem row_spec {s : ByteArray} (h : isO s = true) (y : Int) : (∀ p, p ∈ rowAll (fun y => wallTo s y s.size) y ↔ p.2 = y ∧ gW s p.1 y = 1) ∧ (rowAll (fun y => wallTo s y s.size) y).Pairwise fun p q => p.1 < q.1 := by
  have h24 := isW_le (isO_W h)
  have e0 : rowAll (fun y => wallTo s y s.size) y = rows y (srt (wallTo s y s.size)) := by
    rw [← rowTo_rows, srt_len]
    rfl
  have zero : ∀ x, ¬ (-24 ≤ x ∧ x ≤ 23) → gW s x y = 0 := fun x hx => by
    rcases gW_zo h x y with e | e
    · exact e
    · have := gW_in h e; omega
  have hnd : (srt (wallTo s y s.size)).Nodup := (List.Perm.nodup_iff (List.mergeSort_perm _ _)).2 (wallTo_nodup h y _ (Nat.le_refl _))
  have hpw : (srt (wallTo s y s.size)).Pairwise (· < ·) := by
    have h1 := List.pairwise_mergeSort (le := fun x y : Int => decide (x ≤ y)) (fun a b c h1 h2 => by simp at *; omega) (fun a b => by simp; omega) (wallTo s y s.size)
    have h2 : (srt (wallTo s y s.size)).Pairwise (fun a b => a ≠ b) := hnd
    exact (List.pairwise_and_iff.2 ⟨h1, h2⟩).imp fun {a b} q => by
      have := q.1
      have := q.2
      simp at *
      omega
  rw [e0]
  obtain ⟨r1, r2⟩ := rows_spec (g := fun x => gW s x y) (fun x => gW_zo h x y) (M := 24) (fun x hx => zero x (by omega)) y (srt (wallTo s y s.size)) (-25) hpw (fun x hx => by
    have := wallTo_in h24 y s.size (Nat.le_refl _) x ((srt_mem _ _).1 hx); omega) (zero _ (by omega)) (fun x _ => by rw [srt_mem]; exact wall_cross h x y)
  refine ⟨fun p => ?_, r2⟩
  rw [r1]
  constructor
  · rintro ⟨a, -, b⟩; exact ⟨a, b⟩
  · rintro ⟨a, b⟩
    have := gW_in h b
    exact ⟨a, by omega, b⟩
end Go.Proofs.YtpfenoioeajkmaaDoor.L
end

section
set_option linter.unusedVariables false
set_option linter.unusedSimpArgs false
namespace Go.Proofs.YtpfenoioeajkmaaDoor.L
open Go.RowKit Go.Proofs.YtpfenoioeajkmaaDoorW.PrintWords Go.Proofs.YtpfenoioeajkmaaDoorW.PrintLast Go.Proofs.YtpfenoioeajkmaaDoorW.PrintMore Go.Proofs.YtpfenoioeajkmaaDoor.X Go.Proofs.YtpfenoioeajkmaaDoor.G
theorem out_mem {s : ByteArray} (h : isO s = true) {vis : List Int} (hv : ∀ y, y ∈ vis ↔ wallTo s y s.size ≠ []) (x y : Int) : (x, y) ∈ outOf (fun y => wallTo s y s.size) vis ↔ gW s x y = 1 := by
  unfold outOf
  rw [List.mem_flatMap]
  constructor
  · rintro ⟨z, h1, h2⟩
    obtain ⟨e, h3⟩ := ((row_spec h z).1 (x, y)).1 h2
    have e : y = z := e
    subst e
    exact h3
  · intro hw
    refine ⟨y, (hv y).2 fun q => ?_, ((row_spec h y).1 (x, y)).2 ⟨rfl, hw⟩⟩
    have := ((row_spec h y).1 (x, y)).2 ⟨rfl, hw⟩
    unfold rowAll at this
    simp only [q] at this
    simp [rowTo] at this
theorem out_nodup {s : ByteArray} (h : isO s = true) : ∀ vis : List Int, vis.Nodup → (outOf (fun y => wallTo s y s.size) vis).Nodup
  | [], _ => List.nodup_nil
  | y :: vis, hn => by
    rw [List.nodup_cons] at hn
    show (rowAll (fun y => wallTo s y s.size) y ++ outOf (fun y => wallTo s y s.size) vis).Nodup
    rw [List.nodup_append]
    refine ⟨(row_spec h y).2.imp fun q e => by rw [e] at q; omega, out_nodup h vis hn.2, fun a ha b hb e => ?_⟩
    subst e
    have h1 := (((row_spec h y).1 a).1 ha).1
    unfold outOf at hb
    rw [List.mem_flatMap] at hb
    obtain ⟨z, h2, h3⟩ := hb
    have h4 := (((row_spec h z).1 a).1 h3).1
    rw [h1] at h4
    exact hn.1 (h4 ▸ h2)
theorem col_pw (s : ByteArray) (x : Int) : ∀ m, (colTo s x m).Pairwise fun p q => ltP q p = false
  | 0 => List.Pairwise.nil
  | m + 1 => by
    rw [colTo, List.pairwise_append]
    refine ⟨col_pw s x m, by split <;> simp, fun p hp q hq => ?_⟩
    obtain ⟨j, hj, -, rfl⟩ := (mem_col s x p m).1 hp
    split at hq
    · rw [List.mem_singleton] at hq
      subst hq
      unfold ltP
      simp
      omega
    · cases hq
theorem cells_pw' (s : ByteArray) : ∀ m, (cellsTo s m).Pairwise fun p q => ltP q p = false
  | 0 => List.Pairwise.nil
  | m + 1 => by
    rw [cellsTo, List.pairwise_append]
    refine ⟨cells_pw' s m, col_pw s _ _, fun p hp q hq => ?_⟩
    obtain ⟨i, hi, h1⟩ := (mem_cells' s p m).1 hp
    obtain ⟨j, hj, -, rfl⟩ := (mem_col s _ p _).1 h1
    obtain ⟨j2, hj2, -, rfl⟩ := (mem_col s _ q _).1 hq
    unfold ltP
    simp
    omega
theorem rcl_pw (s : ByteArray) : (rcl s).Pairwise fun p q => ltP q p = false := by
  unfold rcl
  exact cells_pw' s 49
theorem sorted_rcl {s : ByteArray} (h : isO s = true) {vis : List Int} {l : List (Int × Int)} (hn : vis.Nodup) (hv : ∀ y, y ∈ vis ↔ wallTo s y s.size ≠ []) (hp : l.Perm (outOf (fun y => wallTo s y s.size) vis)) (hs : l.Pairwise fun p q => ltP q p = false) : l = rcl s := by
  have h1 : (outOf (fun y => wallTo s y s.size) vis).Perm (rcl s) := (List.perm_ext_iff_of_nodup (out_nodup h vis hn) (cells_nodup s)).2 fun ⟨x, y⟩ => by rw [out_mem h hv, mem_cells h]
  refine List.Perm.eq_of_pairwise (le := fun p q => ltP q p = false) (fun a b _ _ e1 e2 => ?_) hs (rcl_pw s) (hp.trans h1)
  unfold ltP at e1 e2
  simp at e1 e2
  have e3 : a.1 = b.1 := by omega
  have e4 : a.2 = b.2 := by omega
  exact Prod.ext e3 e4
theorem some_cell {s : ByteArray} (h : isO s = true) : ∃ x y, gW s x y = 1 := by
  have hp := area_pos h
  rw [← (loop_of h).area (box_of h)] at hp
  obtain ⟨x, -, -, h1⟩ := Z_pos hp
  obtain ⟨y, -, -, h2⟩ := Z_pos h1
  have := gW_zo h x y
  unfold gW at this
  exact ⟨x, y, by unfold gW; omega⟩
theorem cells_ok {s : ByteArray} (h : isO s = true) (w : World) : Calls Tryd.prog 73 #[.string s] w fun e w' => (∃ v, e = .returned v ∧ OwnP w.heap.size 63 w' v (rcl s)) ∧ Below w.heap.size w w' := by
  refine (cells_calls s (isO_W h) (fun vis _ hv e => ?_) w).mono ?_
  · obtain ⟨x, y, hxy⟩ := some_cell h
    have := (out_mem h hv x y).2 hxy
    rw [e] at this
    cases this
  · rintro e w' ⟨⟨v, rfl, vis, l, h1, h2, h3, h4, h5⟩, hb⟩
    rw [sorted_rcl h h1 h2 h3 h4] at h5
    exact ⟨⟨v, rfl, h5⟩, hb⟩
end Go.Proofs.YtpfenoioeajkmaaDoor.L
end

section
set_option linter.unusedVariables false
set_option linter.unusedSimpArgs false
namespace Go.Proofs.YtpfenoioeajkmaaDoor.X
open Go.RowKit Go.Proofs.YtpfenoioeajkmaaDoorW.PrintWords Go.Proofs.YtpfenoioeajkmaaDoorW.PrintLast Go.Proofs.YtpfenoioeajkmaaDoorW.PrintMore Go.Proofs.YtpfenoioeajkmaaDoor.L
theorem take_p (l : List (Int × Int)) {k : Nat} (h : k < l.length) : l.take (k + 1) = l.take k ++ [(pX l k, pY l k)] := by
  rw [List.take_add_one, List.getElem?_eq_getElem h]
  unfold pX pY
  rw [List.getD_eq_getElem?_getD, List.getElem?_eq_getElem h]
  rfl
set_option maxHeartbeats 4000000 in
set_option maxRecDepth 100000 in
theorem told_calls {C : Nat} {w : World} {v : Value} {l : List (Int × Int)} (h : OwnP C 63 w v l) (hl : l.length ≤ 100) : Calls Tryd.prog 72 #[v] w fun e w' => (∃ u, e = .returned u ∧ OwnP w.heap.size 29 w' u l) ∧ Below w.heap.size w w' := by
  obtain ⟨A, c, rfl, hA⟩ := sl_list h
  obtain ⟨n, hn⟩ : ∃ n, l.length = n := ⟨_, rfl⟩
  rw [hn] at hA hl
  have HP := Lib.hid (show 0 < n → ∃ b off, A = some ⟨b, off, none⟩ ∧ n ≤ c ∧ Pts w b off n (pX l) (pY l) from fun h => by
    rcases hA with ⟨_, h2, _⟩ | ⟨b, off, h1, h4, h3⟩ | ⟨_, _, h2⟩
    · omega
    · exact ⟨b, off, h1, h4, h3⟩
    · omega)
  rw [hn]
  have HN := Lib.hid hn
  clear h hA hn
  go_enter Tryd.func72, Tryd.ntmps72
  go_wp2_with fail
  have HB := Lib.hid (Below.refl w.heap.size w)
  have HO : Hid (OwnP w.heap.size 29 w (.slice none 0 0) (l.take 0)) := Lib.hid (World.ownsRow_nil w w.heap.size 29 2)
  go_loopw [8, 3] (fun i v wr => ∃ k : Nat, k ≤ n ∧ i = .int .i64 k ∧ Hid (OwnP w.heap.size 29 wr v (l.take k)) ∧ Hid (Below w.heap.size w wr)) (fun i _ _ => n - (intOf i).toNat)
  case atStart => exact ⟨0, by omega, rfl, HO, HB⟩
  case round =>
    clear HB HO
    obtain ⟨k, hk, rfl, HO, HB⟩ := hrel
    by_cases hlt : k < n
    · obtain ⟨b', off, rfl, hnc, hP0⟩ := HP.out (by omega)
      have hp := hP0.later HB.out
      have q0 := hp.c0 k hlt
      have q1 := hp.c1 k hlt
      have hkc : k ≤ c := by omega
      have htk := take_p l (k := k) (by rw [HN.out]; exact hlt)
      have HTK := Lib.hid htk
      clear htk
      generalize hx : pX l k = x at q0 HTK
      generalize hy : pY l k = y at q1 HTK
      have hb1 := below_one (w := wr) (.cells #[.int .i64 x, .int .i64 y] 63)
      have hb2 := below_one (w := wr.alloc (.cells #[.int .i64 x, .int .i64 y] 63)) (.cells #[.int .i64 x, .int .i64 y] 29)
      have HO2 : Hid (OwnP w.heap.size 29 ((wr.alloc (.cells #[.int .i64 x, .int .i64 y] 63)).alloc (.cells #[.int .i64 x, .int .i64 y] 29)) u3 (l.take k)) := Lib.hid (pw_own_below (pw_own_below HO.out hb1) hb2)
      have HBA := Lib.hid (HB.out.trans ((hb1.trans (hb2.mono hb1.size)).mono HB.out.size))
      have HNW : Hid (∀ j u, [Value.int .i64 x, .int .i64 y][j]? = some u → ((wr.alloc (.cells #[.int .i64 x, .int .i64 y] 63)).alloc (.cells #[.int .i64 x, .int .i64 y] 29)).cell? ((⟨wr.heap.size + 1, 0, none⟩ : Addr).add j) = some u) := Lib.hid (by
        have e : (wr.alloc (.cells #[.int .i64 x, .int .i64 y] 63)).heap.size = wr.heap.size + 1 := by simp
        rw [← e]
        exact two_new _ _ _ _)
      have HLEN := Lib.hid (show (l.take k).length ≤ 100 by rw [List.length_take]; omega)
      obtain ⟨c0, c1⟩ := two_cells wr 63 (.int .i64 x) (.int .i64 y)
      obtain ⟨i0, hi0, hz0, hz1', hz2⟩ := info_parts info29
      have HI := Lib.hid hi0
      have HZ2 := Lib.hid (And.intro hz0 (And.intro hz1' hz2))
      clear hp hP0 HB hb1 hb2 hx hy hi0 hz0 hz1' hz2 HP
      go_wp2_with (first | (at_builtin; go_loud (refine wpList_append_own_at _ rfl (.tmp 12) (.tmp 14) 45 rfl w.heap.size 29 i0 _ 2 16 Tryd.underlying45 HI.out HZ2.out.1 HZ2.out.2.1 HZ2.out.2.2 rfl (by decide) u3 _ _ rfl HO2.out ⟨wr.heap.size + 1, 0, none⟩ 1 1 [.int .i64 x, .int .i64 y] rfl rfl HNW.out (by simp [Value.oneCell']) (by have := HLEN.out; unfold maxLen; omega) (by have := HLEN.out; omega) HBA.out.size ?_); intro v1 w8 hown1 hgrow1 _ _; have HO8 := Lib.hid hown1; have HB8 := Lib.hid (own_growS HBA.out HO2.out hgrow1); clear hown1 hgrow1))
      refine ⟨⟨k + 1, by omega, by go_num, Lib.hid ?_, HB8⟩, by simp [intOf]; omega⟩
      rw [HTK.out]
      unfold OwnP
      rw [List.length_append, flatP_app, flatP_one]
      exact HO8.out
    · obtain rfl : k = n := by omega
      clear HP
      go_wp2
      go_ret
      refine ⟨⟨_, rfl, ?_⟩, HB.out⟩
      have := HO.out
      rw [← HN.out, List.take_length] at this
      exact this
end Go.Proofs.YtpfenoioeajkmaaDoor.X
end

section
set_option linter.unusedVariables false
set_option linter.unusedSimpArgs false
namespace Go.Proofs.YtpfenoioeajkmaaDoor.X
open Go.RowKit Go.Proofs.YtpfenoioeajkmaaDoorW.PrintWords Go.Proofs.YtpfenoioeajkmaaDoorW.PrintLast Go.Proofs.YtpfenoioeajkmaaDoorW.PrintMore Go.Proofs.YtpfenoioeajkmaaDoor.L
set_option maxHeartbeats 4000000 in
set_option maxRecDepth 100000 in
theorem Cells_yes {s : ByteArray} (h : isO s = true) (w : World) : Calls Tryd.prog 48 #[.string s] w fun e w' => (∃ v, e = .returned (.tuple #[v, .int .i64 0]) ∧ OwnP w.heap.size 29 w' v (rcl s)) ∧ Below w.heap.size w w' := by
  have HI := Lib.hid (Is_any (s := s) (by have := isW_le (isO_W h); omega))
  rw [h] at HI
  have HC := Lib.hid (cells_ok h)
  have HL := Lib.hid (cells_le h)
  clear h
  go_enter Tryd.func48, Tryd.ntmps48
  go_wp2_with fail
  refine (HI.out _).mono ?_
  rintro e w1 ⟨rfl, hb1⟩
  have H1 := Lib.hid ((Below.refl w.heap.size w).trans (hb1.mono (Below.refl w.heap.size w).size))
  clear hb1
  go_wp2_with fail
  refine (HC.out _).mono ?_
  rintro e w2 ⟨⟨v, rfl, hv⟩, hb2⟩
  have H2 := Lib.hid (H1.out.trans (hb2.mono H1.out.size))
  have HV := Lib.hid hv
  clear hv hb2
  go_wp2_with fail
  refine (told_calls HV.out (by have := HL.out; omega)).mono ?_
  rintro e w3 ⟨⟨u, rfl, hu⟩, hb3⟩
  have H3 := Lib.hid (H2.out.trans (hb3.mono H2.out.size))
  have HU := Lib.hid (own_lower hu H2.out.size)
  clear hu hb3
  go_wp2
  go_ret2
  exact ⟨⟨_, rfl, HU.out⟩, H3.out⟩
end Go.Proofs.YtpfenoioeajkmaaDoor.X
end

section
set_option linter.unusedVariables false
set_option linter.unusedSimpArgs false
namespace Go.Proofs.YtpfenoioeajkmaaDoor.X
open Go.RowKit Go.Proofs.YtpfenoioeajkmaaDoorW.PrintWords Go.Proofs.YtpfenoioeajkmaaDoorW.PrintLast Go.Proofs.YtpfenoioeajkmaaDoorW.PrintMore Go.Proofs.YtpfenoioeajkmaaDoor.L
theorem Area_no {s : ByteArray} (hs : s.size ≤ 1000) (h : isO s = false) (w : World) : Calls Tryd.prog 39 #[.string s] w fun e w' => e = .returned (.tuple #[.int .i64 0, .int .i64 2]) ∧ Below w.heap.size w w' := PB.moulds_Area.calls s _ _ w (by
  unfold PB.moulds_Area.f
  rw [Is_f hs, h]
  rfl)
theorem area_len {s : ByteArray} (h : isO s = true) : wrap64 (Int.tdiv (dbl s s.size) 2) = ((rcl s).length : Int) := by
  have e : Int.tdiv (dbl s s.size) 2 = ((rcl s).length : Int) := by
    rw [dbl_Q h, ← (loop_of h).area (box_of h)]
    have hc := cells_count h
    unfold gW at hc
    rw [← hc]
    exact Int.mul_tdiv_cancel_left _ (by decide)
  have hl := cells_le h
  rw [e]
  unfold wrap64
  omega
theorem Area_yes {s : ByteArray} (h : isO s = true) (w : World) : Calls Tryd.prog 39 #[.string s] w fun e w' => e = .returned (.tuple #[.int .i64 ((rcl s).length : Int), .int .i64 0]) ∧ Below w.heap.size w w' := by
  rw [← area_len h]
  exact PB.moulds_Area.calls s _ _ w (by
    have h24 := isW_le (isO_W h)
    unfold PB.moulds_Area.f moulds_double.f
    rw [Is_f (by omega), h, if_pos (by omega)]
    rfl)
end Go.Proofs.YtpfenoioeajkmaaDoor.X
end

section
set_option linter.unusedVariables false
set_option linter.unusedSimpArgs false
namespace Go.Proofs.YtpfenoioeajkmaaDoor.L
open Go.RowKit Go.Proofs.YtpfenoioeajkmaaDoorW.PrintWords Go.Proofs.YtpfenoioeajkmaaDoorW.PrintLast Go.Proofs.YtpfenoioeajkmaaDoorW.PrintMore Go.Proofs.YtpfenoioeajkmaaDoor.X Go.Proofs.YtpfenoioeajkmaaDoor.G
theorem mem_at (l : List (Int × Int)) (a b : Int) : (∃ k, k < l.length ∧ pX l k = a ∧ pY l k = b) ↔ (a, b) ∈ l := by
  unfold pX pY
  constructor
  · rintro ⟨k, hk, h1, h2⟩
    rw [List.getD_eq_getElem?_getD, List.getElem?_eq_getElem hk] at h1 h2
    have : l[k] = (a, b) := Prod.ext h1 h2
    rw [← this]
    exact List.getElem_mem _
  · intro h
    obtain ⟨k, hk, e⟩ := List.getElem_of_mem h
    refine ⟨k, hk, ?_, ?_⟩ <;> rw [List.getD_eq_getElem?_getD, List.getElem?_eq_getElem hk, e] <;> rfl
def ind (s : ByteArray) (p : Int × Int) : Int := if gW s (p.1 + 1) p.2 = 1 ∧ gW s p.1 (p.2 + 1) = 1 ∧ gW s (p.1 + 1) (p.2 + 1) = 1 then 1 else 0
def indTo (s : ByteArray) (k : Nat) : Int := (((rcl s).take k).map (ind s)).sum
theorem sum_app (l m : List (Int × Int)) (f : Int × Int → Int) : ((l ++ m).map f).sum = (l.map f).sum + (m.map f).sum := by
  rw [List.map_append, List.sum_append]
theorem sum_col {s : ByteArray} (h : isO s = true) (f : Int × Int → Int) (x : Int) : ∀ m, ((colTo s x m).map f).sum = S m fun j => if gW s x ((j : Int) - 24) = 1 then f (x, (j : Int) - 24) else 0
  | 0 => rfl
  | m + 1 => by
    rw [colTo, sum_app, sum_col h f x m, S_succ, cnt_W h]
    split <;> simp
theorem sum_cells {s : ByteArray} (h : isO s = true) (f : Int × Int → Int) : ∀ m, ((cellsTo s m).map f).sum = S m fun i => S 49 fun j => if gW s ((i : Int) - 24) ((j : Int) - 24) = 1 then f ((i : Int) - 24, (j : Int) - 24) else 0
  | 0 => rfl
  | m + 1 => by rw [cellsTo, sum_app, sum_cells h f m, S_succ, sum_col h]
theorem sum_rcl {s : ByteArray} (h : isO s = true) (f : Int × Int → Int) : ((rcl s).map f).sum = Z 25 fun x => Z 25 fun y => if gW s x y = 1 then f (x, y) else 0 := by
  unfold rcl
  rw [sum_cells h]
  have R := rim_of h
  have zl : ∀ x y, ¬ (-24 ≤ x ∧ -24 ≤ y) → (if gW s x y = 1 then f (x, y) else 0) = 0 := fun x y q => if_neg fun e => by have := gW_in h e; omega
  rw [Z25 (fun x => Z 25 fun y => if gW s x y = 1 then f (x, y) else 0) (Z_zero fun y _ _ => zl _ _ (by omega))]
  exact S_congr fun i _ => (Z25 (fun y => if gW s ((i : Int) - 24) y = 1 then f ((i : Int) - 24, y) else 0) (zl _ _ (by omega))).symm
theorem ind_all {s : ByteArray} (h : isO s = true) : ((rcl s).map (ind s)).sum = Z 25 fun a => Z 25 fun b => inn s.size (gX s) (gY s) (gD s) a b := by
  rw [sum_rcl h]
  have zo : ∀ x y, ¬ (-24 ≤ x ∧ x ≤ 23 ∧ -24 ≤ y ∧ y ≤ 23) → (if gW s x y = 1 then ind s (x, y) else 0) = 0 := fun x y q => if_neg fun e => q (gW_in h e)
  have e : ∀ a b, inn s.size (gX s) (gY s) (gD s) a b = if gW s (a - 1) (b - 1) = 1 then ind s (a - 1, b - 1) else 0 := fun a b => by
    unfold inn ind gW
    dsimp only
    rw [Int.sub_add_cancel, Int.sub_add_cancel]
    (repeat' split) <;> first | rfl | omega
  rw [Z_congr fun a _ _ => Z_congr fun b _ _ => e a b]
  have s1 := Z_shift (K := 25) (f := fun x => Z 25 fun b => if gW s x (b - 1) = 1 then ind s (x, b - 1) else 0) (Z_zero fun y _ _ => zo _ _ (by omega)) (Z_zero fun y _ _ => zo _ _ (by omega))
  rw [s1]
  exact Z_congr fun x _ _ => (Z_shift (K := 25) (f := fun y => if gW s x y = 1 then ind s (x, y) else 0) (zo _ _ (by omega)) (zo _ _ (by omega))).symm
theorem pick_O {s : ByteArray} (h : isO s = true) : 2 * ((rcl s).length : Int) = s.size - 2 + 2 * indTo s (rcl s).length := by
  have := (loop_of h).pick (box_of h) (left_one h)
  have hc := cells_count h
  unfold gW at hc
  rw [← hc, ← ind_all h] at this
  unfold indTo
  rw [List.take_length]
  exact this
theorem iso_O {s : ByteArray} (h : isO s = true) : 16 * ((rcl s).length : Int) ≤ (s.size : Int) * s.size := by
  have := (loop_of h).iso (box_of h) (left_one h)
  have hc := cells_count h
  unfold gW at hc
  rwa [← hc] at this
theorem even_O {s : ByteArray} (h : isO s = true) : s.size % 2 = 0 := (loop_of h).even
theorem indTo_succ (s : ByteArray) {k : Nat} (hk : k < (rcl s).length) : indTo s (k + 1) = indTo s k + ind s (pX (rcl s) k, pY (rcl s) k) := by
  unfold indTo
  rw [take_p _ hk, sum_app]
  simp
theorem indTo_le (s : ByteArray) : ∀ k, k ≤ (rcl s).length → 0 ≤ indTo s k ∧ indTo s k ≤ k
  | 0, _ => by unfold indTo; simp
  | k + 1, hk => by
    have := indTo_le s k (by omega)
    rw [indTo_succ s (by omega)]
    unfold ind
    split <;> omega
end Go.Proofs.YtpfenoioeajkmaaDoor.L
end

section
set_option linter.unusedVariables false
set_option linter.unusedSimpArgs false
namespace Go.Proofs.YtpfenoioeajkmaaDoor.X
open Go.RowKit Go.Proofs.YtpfenoioeajkmaaDoorW.PrintWords Go.Proofs.YtpfenoioeajkmaaDoorW.PrintLast Go.Proofs.YtpfenoioeajkmaaDoorW.PrintMore
set_option maxHeartbeats 4000000 in
set_option maxRecDepth 100000 in
theorem In_calls (A : Option Addr) (n c : Nat) (x y : Nat → Int) (a b : Int) (w : World) (hA : Sl w A n c x y) (hn : n ≤ 9223372036854775807) (r : Bool) (hr : r = true ↔ ∃ k, k < n ∧ x k = a ∧ y k = b) :
    Calls Tryd.prog 45 #[.slice A n c, .int .i64 a, .int .i64 b] w fun e w' => e = .returned (.bool r) ∧ Below w.heap.size w w' := by
  have HP := Lib.hid (show 0 < n → ∃ b off, A = some ⟨b, off, none⟩ ∧ n ≤ c ∧ Pts w b off n x y from fun h => by
    rcases hA with ⟨_, h2, _⟩ | ⟨b, off, h1, h4, h3⟩ | ⟨_, _, h2⟩
    · omega
    · exact ⟨b, off, h1, h4, h3⟩
    · omega)
  have HR := Lib.hid hr
  clear hA hr
  go_enter Tryd.func45, Tryd.ntmps45
  go_wp2_with fail
  have HB := Lib.hid (Below.refl w.heap.size w)
  go_loopw [11] (fun i wr => ∃ k : Nat, k ≤ n ∧ i = .int .i64 k ∧ Hid (∀ j, j < k → ¬ (x j = a ∧ y j = b)) ∧ Hid (Below w.heap.size w wr)) (fun i _ => n - (intOf i).toNat)
  case atStart => exact ⟨0, by omega, rfl, Lib.hid (fun j h => by omega), HB⟩
  case round =>
    clear HB
    obtain ⟨k, hk, rfl, HK, HB⟩ := hrel
    by_cases hlt : k < n
    · obtain ⟨b', off, rfl, hnc, hP0⟩ := HP.out (by omega)
      have hp := hP0.later HB.out
      have q0 := hp.c0 k hlt
      have q1 := hp.c1 k hlt
      have hkc : k ≤ c := by omega
      have hm29 : Tryd.prog.eqGuardType Tryd.prog.depth 29 = false := by kernel_rfl
      have he := fun w => pair_eq29 (x k) (y k) a b w
      have HBA := Lib.hid (HB.out.trans ((below_one (w := wr) (.cells #[.int .i64 (x k), .int .i64 (y k)] 29)).mono HB.out.size))
      obtain ⟨c0, c1⟩ := two_cells wr 29 (.int .i64 (x k)) (.int .i64 (y k))
      clear hp hP0 HB
      cases hh : (x k == a && y k == b) with
      | true =>
        rw [hh] at he
        obtain rfl : r = true := HR.out.2 ⟨k, hlt, by simpa using hh⟩
        clear HR HK hh HP
        go_wp2
        go_ret
        exact ⟨rfl, HBA.out⟩
      | false =>
        rw [hh] at he
        have HH := Lib.hid hh
        clear hh
        go_wp2_with fail
        refine ⟨⟨k + 1, by omega, by go_num, Lib.hid (fun j h1 => ?_), HBA⟩, by simp [intOf]; omega⟩
        by_cases e : j = k
        · rw [e]
          have := HH.out
          rw [Bool.eq_false_iff] at this
          exact fun q => this (by simpa using q)
        · exact HK.out j (by omega)
    · obtain rfl : k = n := by omega
      obtain rfl : r = false := by
        rw [Bool.eq_false_iff]
        intro q
        obtain ⟨j, h1, h2⟩ := HR.out.1 q
        exact HK.out j h1 h2
      clear HR HK HP
      go_wp2
      go_ret
      exact ⟨rfl, HB.out⟩
end Go.Proofs.YtpfenoioeajkmaaDoor.X
end

section
set_option linter.unusedVariables false
set_option linter.unusedSimpArgs false
namespace Go.Proofs.YtpfenoioeajkmaaDoor.X
open Go.RowKit Go.Proofs.YtpfenoioeajkmaaDoorW.PrintWords Go.Proofs.YtpfenoioeajkmaaDoorW.PrintLast Go.Proofs.YtpfenoioeajkmaaDoorW.PrintMore Go.Proofs.YtpfenoioeajkmaaDoor.L
set_option maxHeartbeats 4000000 in
set_option maxRecDepth 100000 in
theorem LongLaw_no (a s : ByteArray) (w : World) (hs : s.size ≤ 1000) (ht : ∀ w, Calls Tryd.prog 18 #[.string a] w fun e w' => e = .returned (.string s) ∧ Below w.heap.size w w') (h : isO s = false) :
    Calls Tryd.prog 13 #[.string a] w fun e w' => e = .returned (.bool true) ∧ Below w.heap.size w w' := by
  have HT := Lib.hid ht
  have HA := Lib.hid (Area_no hs h)
  clear ht h hs
  go_enter Tryd.func13, Tryd.ntmps13
  go_wp2_with fail
  refine (HT.out _).mono ?_
  rintro e w1 ⟨rfl, hb1⟩
  have H1 := Lib.hid ((Below.refl w.heap.size w).trans (hb1.mono (Below.refl w.heap.size w).size))
  clear hb1
  go_wp2_with fail
  refine (HA.out _).mono ?_
  rintro e w2 ⟨rfl, hb2⟩
  have H2 := Lib.hid (H1.out.trans (hb2.mono H1.out.size))
  clear hb2
  go_wp2_with fail
  refine (awake_ok _).mono ?_
  rintro e w3 ⟨rfl, hb3⟩
  have H3 := Lib.hid (H2.out.trans (hb3.mono H2.out.size))
  clear hb3
  go_wp2
  go_ret
  exact ⟨rfl, H3.out⟩
theorem ind_val (s : ByteArray) (x y : Int) : ind s (x, y) = if decide (gW s (x + 1) y = 1) && (decide (gW s x (y + 1) = 1) && decide (gW s (x + 1) (y + 1) = 1)) then 1 else 0 := by
  unfold ind
  simp
set_option maxHeartbeats 8000000 in
set_option maxRecDepth 100000 in
theorem LongLaw_yes (s : ByteArray) (w : World) (h : isO s = true) :
    Calls Tryd.prog 13 #[.string s] w fun e w' => e = .returned (.bool true) ∧ Below w.heap.size w w' := by
  have hs24 := isW_le (isO_W h)
  have HT := Lib.hid (text_ok (isO_W h))
  have HC := Lib.hid (Cells_yes h)
  have HA := Lib.hid (Area_yes h)
  have HI := Lib.hid (ris_calls s (by omega))
  rw [h] at HI
  have hl := cells_le h
  have HO := Lib.hid h
  clear h
  obtain ⟨n, hn⟩ : ∃ n, (rcl s).length = n := ⟨_, rfl⟩
  rw [hn] at HA hl
  go_enter Tryd.func13, Tryd.ntmps13
  go_wp2_with fail
  refine (HT.out _).mono ?_
  rintro e w1 ⟨rfl, hb1⟩
  have H1 := Lib.hid ((Below.refl w.heap.size w).trans (hb1.mono (Below.refl w.heap.size w).size))
  clear hb1
  go_wp2_with fail
  refine (HA.out _).mono ?_
  rintro e w2 ⟨rfl, hb2⟩
  have H2 := Lib.hid (H1.out.trans (hb2.mono H1.out.size))
  clear hb2
  go_wp2_with fail
  refine (HI.out _).mono ?_
  rintro e w3 ⟨rfl, hb3⟩
  have H3 := Lib.hid (H2.out.trans (hb3.mono H2.out.size))
  clear hb3
  go_wp2_with fail
  refine (HC.out _).mono ?_
  rintro e w4 ⟨⟨v, rfl, hv⟩, hb4⟩
  have H4 := Lib.hid (H3.out.trans (hb4.mono H3.out.size))
  obtain ⟨A, c, rfl, hA⟩ := sl_list hv
  rw [hn] at hA ⊢
  have S4 := Lib.hid hA
  have HN := Lib.hid hn
  clear hb4 hv hA hn HC HT HA HI
  go_wp2_with fail
  have HB0 := Lib.hid (Below.refl w4.heap.size w4)
  go_loopw [35, 7] (fun i v wr => ∃ k : Nat, k ≤ n ∧ i = .int .i64 k ∧ v = .int .i64 (indTo s k) ∧ Hid (Below w4.heap.size w4 wr)) (fun i _ _ => n - (intOf i).toNat)
  case atStart => exact ⟨0, by omega, rfl, rfl, HB0⟩
  case round =>
    clear HB0
    obtain ⟨k, hk, rfl, rfl, HB⟩ := hrel
    by_cases hlt : k < n
    · have hS := S4.out.later HB.out
      have hP : ∃ b off, A = some ⟨b, off, none⟩ ∧ n ≤ c ∧ Pts wr b off n (pX (rcl s)) (pY (rcl s)) := by
        rcases hS with ⟨_, h2, _⟩ | ⟨b, off, h1, h4, h3⟩ | ⟨_, _, h2⟩
        · omega
        · exact ⟨b, off, h1, h4, h3⟩
        · omega
      have HS := Lib.hid hS
      obtain ⟨b', off, rfl, hnc, hp⟩ := hP
      have q0 := hp.c0 k hlt
      have q1 := hp.c1 k hlt
      have hkc : k ≤ c := by omega
      have hst := indTo_succ s (k := k) (by rw [HN.out]; exact hlt)
      have hbx := gW_in HO.out ((mem_cells HO.out _ _).1 ((mem_at (rcl s) (pX (rcl s) k) (pY (rcl s) k)).1 ⟨k, by rw [HN.out]; exact hlt, rfl, rfl⟩))
      have hbi := indTo_le s k (by rw [HN.out]; omega)
      generalize pX (rcl s) k = x at q0 hst hbx
      generalize pY (rcl s) k = y at q1 hst hbx
      generalize hq : indTo s k = q at hst hbi ⊢
      rw [ind_val] at hst
      have hin : ∀ a b : Int, ∀ (w' : World), Sl w' (some ⟨b', off, none⟩) n c (pX (rcl s)) (pY (rcl s)) → Calls Tryd.prog 45 #[.slice (some ⟨b', off, none⟩) n c, .int .i64 a, .int .i64 b] w' fun e w2 => e = .returned (.bool (decide (gW s a b = 1))) ∧ Below w'.heap.size w' w2 := fun a b w' hs' =>
        In_calls _ n c _ _ a b w' hs' (by omega) _ (by rw [decide_eq_true_eq, ← mem_cells HO.out, ← mem_at, HN.out])
      have hb1 := below_one (w := wr) (.cells #[.int .i64 x, .int .i64 y] 29)
      have HB1 := Lib.hid (HB.out.trans (hb1.mono HB.out.size))
      have HS1 := Lib.hid (HS.out.later hb1)
      obtain ⟨c0, c1⟩ := two_cells wr 29 (.int .i64 x) (.int .i64 y)
      obtain ⟨r1, hr1⟩ : ∃ r, decide (gW s (x + 1) y = 1) = r := ⟨_, rfl⟩
      obtain ⟨r2, hr2⟩ : ∃ r, decide (gW s x (y + 1) = 1) = r := ⟨_, rfl⟩
      obtain ⟨r3, hr3⟩ : ∃ r, decide (gW s (x + 1) (y + 1) = 1) = r := ⟨_, rfl⟩
      rw [hr1, hr2, hr3] at hst
      have HST := Lib.hid hst
      have C1 := Lib.hid (hin (x + 1) y)
      have C2 := Lib.hid (hin x (y + 1))
      have C3 := Lib.hid (hin (x + 1) (y + 1))
      rw [hr1] at C1
      rw [hr2] at C2
      rw [hr3] at C3
      clear hS hp hin hst hb1 hq HB HS hr1 hr2 hr3
      go_wp2_with fail
      generalize wr.alloc (.cells #[.int .i64 x, .int .i64 y] 29) = w5 at c0 c1 HB1 HS1 ⊢
      generalize wr.heap.size = g at c0 c1 ⊢
      refine (C1.out _ HS1.out).mono ?_
      rintro e w6 ⟨rfl, hb⟩
      have HB6 := Lib.hid (HB1.out.trans (hb.mono HB1.out.size))
      have HS6 := Lib.hid (HS1.out.later hb)
      have d0 := (hb.cell (p := ⟨g, 0, none⟩) (World.block_lt_of_cell? _ _ c0)).trans c0
      have d1 := (hb.cell (p := ⟨g, 1, none⟩) (World.block_lt_of_cell? _ _ c1)).trans c1
      clear hb c0 c1 HB1 HS1
      have c0 := d0
      have c1 := d1
      clear d0 d1
      cases r1
      · go_wp2_with fail
        refine ⟨⟨k + 1, by omega, by go_num, by rw [HST.out]; simp, HB6⟩, by simp [intOf]; omega⟩
      · go_wp2_with fail
        refine (C2.out _ HS6.out).mono ?_
        rintro e w7 ⟨rfl, hb⟩
        have HB7 := Lib.hid (HB6.out.trans (hb.mono HB6.out.size))
        have HS7 := Lib.hid (HS6.out.later hb)
        have d0 := (hb.cell (p := ⟨g, 0, none⟩) (World.block_lt_of_cell? _ _ c0)).trans c0
        have d1 := (hb.cell (p := ⟨g, 1, none⟩) (World.block_lt_of_cell? _ _ c1)).trans c1
        clear hb c0 c1 HB6 HS6
        have c0 := d0
        have c1 := d1
        clear d0 d1
        cases r2
        · go_wp2_with fail
          refine ⟨⟨k + 1, by omega, by go_num, by rw [HST.out]; simp, HB7⟩, by simp [intOf]; omega⟩
        · go_wp2_with fail
          refine (C3.out _ HS7.out).mono ?_
          rintro e w8 ⟨rfl, hb⟩
          have HB8 := Lib.hid (HB7.out.trans (hb.mono HB7.out.size))
          have HS8 := Lib.hid (HS7.out.later hb)
          have d0 := (hb.cell (p := ⟨g, 0, none⟩) (World.block_lt_of_cell? _ _ c0)).trans c0
          have d1 := (hb.cell (p := ⟨g, 1, none⟩) (World.block_lt_of_cell? _ _ c1)).trans c1
          clear hb c0 c1 HB7 HS7
          have c0 := d0
          have c1 := d1
          clear d0 d1
          cases r3
          · go_wp2_with fail
            refine ⟨⟨k + 1, by omega, by go_num, by rw [HST.out]; simp, HB8⟩, by simp [intOf]; omega⟩
          · go_wp2_with fail
            refine ⟨⟨k + 1, by omega, by go_num, by rw [HST.out]; simp, HB8⟩, by simp [intOf]; omega⟩
    · obtain rfl : k = n := by omega
      have f1 := pick_O HO.out
      have f2 := iso_O HO.out
      have f3 := even_O HO.out
      have f5 := indTo_le s k (Nat.le_of_eq HN.out.symm)
      rw [HN.out] at f1 f2
      generalize indTo s k = q at f1 f5 ⊢
      obtain ⟨m, hm⟩ : ∃ m : Int, (s.size : Int) * s.size = m := ⟨_, rfl⟩
      have hm1 : 0 ≤ m ∧ m ≤ 576 := by
        rw [← hm]
        exact ⟨Int.mul_nonneg (by omega) (by omega), Int.le_trans (Int.mul_le_mul (show (s.size : Int) ≤ 24 by omega) (show (s.size : Int) ≤ 24 by omega) (by omega) (by omega)) (by decide)⟩
      rw [hm] at f2
      have hw : wrap64 ((s.size : Int) * (s.size : Int)) = m := by rw [hm]; unfold wrap64; omega
      have hr : Int.tmod (s.size : Int) 2 = 0 := by rw [Int.tmod_eq_emod_of_nonneg (by omega)]; omega
      clear f3
      go_wp2_with fail
      refine (awake_ok _).mono ?_
      rintro e w9 ⟨rfl, hb9⟩
      have H9 := Lib.hid (H4.out.trans ((HB.out.trans (hb9.mono HB.out.size)).mono H4.out.size))
      clear hb9
      go_wp2
      go_ret
      exact ⟨rfl, H9.out⟩
theorem MouldsLong.calls (s : ByteArray) (w : World) (hs : s.size ≤ 140737488351232) :
    Calls Tryd.prog 13 #[.string s] w fun e w' => e = .returned (.bool true) ∧ Below w.heap.size w w' := by
  cases h : isO s with
  | false => exact LongLaw_no s (txt s) w (by have := txt_le s; omega) (text_any s) (by rw [txt_O]; exact h)
  | true => exact LongLaw_yes s w h
end Go.Proofs.YtpfenoioeajkmaaDoor.X
end
