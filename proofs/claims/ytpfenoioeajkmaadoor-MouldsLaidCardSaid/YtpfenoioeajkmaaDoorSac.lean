/- Texts of this claim, merged by a program (wip/tools/shake.py); what nothing names is left out. -/
import Derived.Shelf.Sort.Plain
import Derived.Shelf.SlSortCmp.WholeK
import Derived.Ground.SlsfProg
import Derived.Ground.Names2Prog
import Derived.Test.YtpfenoioeajkmaaDoorProg
import Derived.Maps.OwnOps
import Derived.Maps.OwnSet
import Derived.Maps.Views
import Derived.Maps.RangeWalk
import Derived.Test.YtpfenoioeajkmaaDoorSab
section
set_option linter.unusedVariables false
set_option linter.unusedSimpArgs false
namespace Go.Proofs.YtpfenoioeajkmaaDoor.G
section
variable {n : Nat} {X Y : Nat → Int} {D : Nat → Nat}
theorem Loop.W_rot (L : Loop n X Y D) (b : Nat) (x y : Int) : W n (fun i => X (b + i)) (fun i => Y (b + i)) (fun i => D (b + i)) x y = W n X Y D x y := by
  unfold W
  exact S_rot (f := wi X Y D x y) (fun i => by unfold wi; rw [L.px, L.py, L.pd]) b
def inn (n : Nat) (X Y : Nat → Int) (D : Nat → Nat) (a b : Int) : Int := if W n X Y D a b = 1 ∧ W n X Y D (a - 1) b = 1 ∧ W n X Y D (a - 1) (b - 1) = 1 ∧ W n X Y D a (b - 1) = 1 then 1 else 0
def on (X Y : Nat → Int) (D : Nat → Nat) (a b : Int) (i : Nat) : Int := if X (i + 1) = a ∧ Y (i + 1) = b then 2 - turn (D i) (D (i + 1)) else 0
theorem Loop.point (L : Loop n X Y D) (h1 : LW n X Y D 0 = 1) (a b : Int) :
    W n X Y D a b + W n X Y D (a - 1) b + W n X Y D (a - 1) (b - 1) + W n X Y D a (b - 1) = 4 * inn n X Y D a b + S n (on X Y D a b) := by
  have h4 := L.n4
  by_cases hp : ∃ j, j < n ∧ X (j + 1) = a ∧ Y (j + 1) = b
  · obtain ⟨j, hj, rfl, rfl⟩ := hp
    obtain ⟨-, -, h, -, hr⟩ := L.around j
    rw [L.LW_eq, h1] at h hr
    have hs : S n (on X Y D (X (j + 1)) (Y (j + 1))) = 2 - turn (D j) (D (j + 1)) := by
      rw [S_one (k := j) hj]
      · unfold on
        rw [if_pos ⟨rfl, rfl⟩]
      · intro i hi hne
        unfold on
        rw [if_neg]
        rintro ⟨hx, hy⟩
        have := mod_add_cancel (b := 1) (i := i) (j := j) (by rw [Nat.add_comm 1, Nat.add_comm 1]; exact L.inj _ _ hx hy)
        rw [Nat.mod_eq_of_lt hi, Nat.mod_eq_of_lt hj] at this
        exact hne this
    rw [hs]
    have hin : inn n X Y D (X (j + 1)) (Y (j + 1)) = 0 := by
      unfold inn
      rw [if_neg]
      rintro ⟨q0, q1, q2, q3⟩
      have hd := L.d4 (j + 1)
      rcases d_cases hd with e | e | e | e <;> rw [e] at hr <;> simp [cx, cy] at hr <;> omega
    rw [hin]
    simp [cx, cy] at h
    omega
  · have hs : S n (on X Y D a b) = 0 := S_zero fun i hi => by
      unfold on
      rw [if_neg fun q => hp ⟨i, hi, q⟩]
    have ht : ∀ k, S n (ti X Y D a b k) = 0 := fun k => S_zero fun i hi => by
      unfold ti
      rw [if_neg fun q => hp ⟨(i + n - 1) % n, Nat.mod_lt _ (by omega), by
          have e : X ((i + n - 1) % n + 1) = X i := by rw [L.sx, L.mod_x, L.mod_d, ← L.sx, show i + n - 1 + 1 = i + n by omega, L.px]
          have e2 : Y ((i + n - 1) % n + 1) = Y i := by rw [L.sy, L.mod_y, L.mod_d, ← L.sy, show i + n - 1 + 1 = i + n by omega, L.py]
          rw [e, e2]; exact q.2⟩, if_neg fun q => hp ⟨i, hi, q.2⟩]
      rfl
    have c1 := cross L a b (k := 1) (by omega)
    have c2 := cross L a b (k := 2) (by omega)
    have c3 := cross L a b (k := 3) (by omega)
    rw [ht] at c1 c2 c3
    simp [cx, cy] at c1 c2 c3
    rw [hs]
    have := L.zo h1 a b
    unfold inn
    split <;> omega
theorem Loop.even (L : Loop n X Y D) : n % 2 = 0 := by
  have h : ∀ i : Nat, (X i + Y i - X 0 - Y 0 - i) % 2 = 0 := by
    intro i
    induction i with
    | zero => simp; omega
    | succ i ih =>
      rw [L.sx, L.sy]
      rcases unit_of _ (L.d4 i) with ⟨e, f⟩ | ⟨e, f⟩ | ⟨e, f⟩ | ⟨e, f⟩ <;> rw [e, f] <;> omega
  have := h n
  have hx := L.px 0
  have hy := L.py 0
  rw [Nat.zero_add] at hx hy
  rw [hx, hy] at this
  omega
def ab (x : Int) : Int := if 0 ≤ x then x else -x
theorem span (f : Nat → Int) (m : Nat) : f m - f 0 ≤ S m (fun i => ab (f (i + 1) - f i)) ∧ f 0 - f m ≤ S m (fun i => ab (f (i + 1) - f i)) := by
  have h := S_tel m f
  have h1 : S m (fun i => f (i + 1) - f i) ≤ S m (fun i => ab (f (i + 1) - f i)) := S_le fun i _ => by unfold ab; split <;> omega
  have h2 : S m (fun i => -(f (i + 1) - f i)) ≤ S m (fun i => ab (f (i + 1) - f i)) := S_le fun i _ => by unfold ab; split <;> omega
  rw [S_neg] at h2
  omega
theorem span2 (f : Nat → Int) {n : Nat} (hp : ∀ i, f (i + n) = f i) (hn : 0 < n) (i j : Nat) : 2 * (f i - f j) ≤ S n (fun i => ab (f (i + 1) - f i)) := by
  have hmod : ∀ i, f (i % n) = f i := by
    have : ∀ q r, f (r + q * n) = f r := fun q r => by
      induction q with
      | zero => rw [Nat.zero_mul, Nat.add_zero]
      | succ q ih => rw [Nat.succ_mul, ← Nat.add_assoc, hp, ih]
    intro i
    rw [← this (i / n) (i % n), Nat.mul_comm, Nat.mod_add_div]
  have hg : ∃ m, m < n ∧ f (i + m) = f j := by
    refine ⟨(j + n - i % n) % n, Nat.mod_lt _ hn, ?_⟩
    have hi := Nat.mod_lt i hn
    have e : (i + (j + n - i % n) % n) % n = j % n := by
      rw [Nat.add_mod, Nat.mod_mod, ← Nat.add_mod]
      have h3 := Nat.mod_add_div i n
      have : i + (j + n - i % n) = j + n + n * (i / n) := by omega
      rw [this, Nat.add_mul_mod_self_left, Nat.add_mod_right]
    rw [← hmod (i + _), e, hmod]
  obtain ⟨m, hm, e⟩ := hg
  have hr := S_rot (n := n) (f := fun i => ab (f (i + 1) - f i)) (fun k => by rw [hp, show k + n + 1 = k + 1 + n by omega, hp]) i
  rw [← hr]
  have hs := S_split m (n - m) (fun k => ab (f (i + k + 1) - f (i + k)))
  rw [show m + (n - m) = n by omega] at hs
  rw [hs]
  have s1 := (span (fun k => f (i + k)) m).2
  have s2 := (span (fun k => f (i + m + k)) (n - m)).1
  simp only [Nat.add_zero, Nat.add_assoc] at s1 s2 ⊢
  rw [show i + (m + (n - m)) = i + n by omega, hp] at s2
  rw [e] at s1 s2
  omega
theorem Loop.iso (L : Loop n X Y D) {K : Nat} (hB : Box K X Y) (h1 : LW n X Y D 0 = 1) : 16 * (Z K fun x => Z K fun y => W n X Y D x y) ≤ (n : Int) * n := by
  have h4 := L.n4
  obtain ⟨i1, a1⟩ := L.maxX
  obtain ⟨i2, hi2, a2⟩ := max_of (fun i => -X i) n (by omega)
  obtain ⟨i3, hi3, a3⟩ := max_of Y n (by omega)
  obtain ⟨i4, hi4, a4⟩ := max_of (fun i => -Y i) n (by omega)
  have b2 : ∀ j, X i2 ≤ X j := fun j => by have := a2 _ (Nat.mod_lt j (show 0 < n by omega)); rw [L.mod_x] at this; omega
  have b3 : ∀ j, Y j ≤ Y i3 := fun j => by have := a3 _ (Nat.mod_lt j (show 0 < n by omega)); rw [L.mod_y] at this; omega
  have b4 : ∀ j, Y i4 ≤ Y j := fun j => by have := a4 _ (Nat.mod_lt j (show 0 < n by omega)); rw [L.mod_y] at this; omega
  have sx := span2 X L.px (by omega) i1 i2
  have sy := span2 Y L.py (by omega) i3 i4
  have hs : S n (fun i => ab (X (i + 1) - X i)) + S n (fun i => ab (Y (i + 1) - Y i)) = n := by
    rw [← S_add, S_congr (g := fun _ => 1), S_const]
    · omega
    · intro i _
      rw [L.sx, L.sy, show X i + ux (D i) - X i = ux (D i) by omega, show Y i + uy (D i) - Y i = uy (D i) by omega]
      rcases unit_of _ (L.d4 i) with ⟨e, f⟩ | ⟨e, f⟩ | ⟨e, f⟩ | ⟨e, f⟩ <;> rw [e, f] <;> rfl
  have hx := a1 i2
  have hy := b3 i4
  have q1 := hB i1
  have q2 := hB i2
  have q3 := hB i3
  have q4 := hB i4
  have cnt : ∀ {lo hi : Int}, -(K : Int) ≤ lo → lo ≤ hi → hi ≤ K → Z K (fun x => if lo ≤ x ∧ x < hi then 1 else 0) = hi - lo := fun {lo hi} h1 h2 h3 => by
    have : ∀ x, (if lo ≤ x ∧ x < hi then (1 : Int) else 0) = (if x < hi then 1 else 0) - (if x < lo then 1 else 0) := fun x => by (repeat' split) <;> omega
    rw [Z_congr fun x _ _ => this x, Z_sub, Z_count (by omega) h3, Z_count h1 (by omega)]
    omega
  have hle : (Z K fun x => Z K fun y => W n X Y D x y) ≤ Z K fun x => Z K fun y => (if X i2 ≤ x ∧ x < X i1 then 1 else 0) * (if Y i4 ≤ y ∧ y < Y i3 then 1 else 0) := Z_le fun x _ _ => Z_le fun y _ _ => by
    by_cases c1 : X i2 ≤ x ∧ x < X i1
    · by_cases c2 : Y i4 ≤ y ∧ y < Y i3
      · rw [if_pos c1, if_pos c2]
        have := L.zo h1 x y
        omega
      · rw [if_neg c2, Int.mul_zero]
        by_cases c3 : Y i4 ≤ y
        · rw [L.W_up x fun i => by have := b3 i; omega]; exact Int.le_refl _
        · rw [L.W_down x fun i => by have := b4 i; omega]; exact Int.le_refl _
    · rw [if_neg c1, Int.zero_mul]
      by_cases c3 : X i2 ≤ x
      · rw [W_right y fun i => by have := a1 i; omega]; exact Int.le_refl _
      · rw [L.W_left y fun i => by have := b2 i; omega]; exact Int.le_refl _
  have e1 : (Z K fun x => Z K fun y => (if X i2 ≤ x ∧ x < X i1 then (1 : Int) else 0) * (if Y i4 ≤ y ∧ y < Y i3 then 1 else 0)) = (X i1 - X i2) * (Y i3 - Y i4) := by
    have : ∀ x, (Z K fun y => (if X i2 ≤ x ∧ x < X i1 then (1 : Int) else 0) * (if Y i4 ≤ y ∧ y < Y i3 then 1 else 0)) = (Y i3 - Y i4) * (if X i2 ≤ x ∧ x < X i1 then 1 else 0) := fun x => by
      rw [Z_mul, cnt (by omega) (by omega) (by omega), Int.mul_comm]
    rw [Z_congr fun x _ _ => this x, Z_mul, cnt (by omega) (by omega) (by omega), Int.mul_comm]
  rw [e1] at hle
  have hp : 0 ≤ X i1 - X i2 := by omega
  have hq : 0 ≤ Y i3 - Y i4 := by omega
  generalize X i1 - X i2 = p at *
  generalize Y i3 - Y i4 = q at *
  have hpq : 2 * p + 2 * q ≤ n := by omega
  have hmul : (2 * p + 2 * q) * (2 * p + 2 * q) ≤ (n : Int) * n := Int.mul_le_mul hpq hpq (by omega) (by omega)
  have hsq : 0 ≤ (p - q) * (p - q) := by
    rcases Int.le_total 0 (p - q) with h | h
    · exact Int.mul_nonneg h h
    · exact Int.mul_nonneg_of_nonpos_of_nonpos h h
  have e2 : (2 * p + 2 * q) * (2 * p + 2 * q) = 4 * ((p - q) * (p - q)) + 16 * (p * q) := by
    have m1 : 2 * p * (2 * p) = 4 * (p * p) := by rw [Int.mul_assoc, Int.mul_left_comm p 2 p]; omega
    have m2 : 2 * p * (2 * q) = 4 * (p * q) := by rw [Int.mul_assoc, Int.mul_left_comm p 2 q]; omega
    have m3 : 2 * q * (2 * p) = 4 * (p * q) := by rw [Int.mul_assoc, Int.mul_left_comm q 2 p, Int.mul_comm q p]; omega
    have m4 : 2 * q * (2 * q) = 4 * (q * q) := by rw [Int.mul_assoc, Int.mul_left_comm q 2 q]; omega
    have m5 := Int.mul_comm q p
    simp only [Int.sub_mul, Int.mul_sub, Int.add_mul, Int.mul_add, m1, m2, m3, m4]
    omega
  omega
end
end Go.Proofs.YtpfenoioeajkmaaDoor.G
end

section
set_option linter.unusedVariables false
set_option linter.unusedSimpArgs false
namespace Go.Proofs.YtpfenoioeajkmaaDoor.G
def Lat (v0 v1 u0 u1 x y : Int) : Prop := ∃ i j : Int, x = i * v0 + j * u0 ∧ y = i * v1 + j * u1
theorem lat_iff {v0 v1 u0 u1 : Int} (hD : v0 * u1 - v1 * u0 ≠ 0) (x y : Int) : Lat v0 v1 u0 u1 x y ↔ (v0 * u1 - v1 * u0) ∣ (x * u1 - y * u0) ∧ (v0 * u1 - v1 * u0) ∣ (v0 * y - v1 * x) := by
  constructor
  · rintro ⟨i, j, rfl, rfl⟩
    refine ⟨⟨i, ?_⟩, ⟨j, ?_⟩⟩
    · grind
    · grind
  · rintro ⟨⟨i, hi⟩, ⟨j, hj⟩⟩
    refine ⟨i, j, ?_, ?_⟩
    · apply Int.eq_of_mul_eq_mul_left hD
      grind
    · apply Int.eq_of_mul_eq_mul_left hD
      grind
theorem lat_swap {v0 v1 u0 u1 x y : Int} : Lat v0 v1 u0 u1 x y ↔ Lat u0 u1 v0 v1 x y :=
  ⟨fun ⟨i, j, h, k⟩ => ⟨j, i, by omega, by omega⟩, fun ⟨i, j, h, k⟩ => ⟨j, i, by omega, by omega⟩⟩
theorem lat_sub {v0 v1 u0 u1 x y : Int} (q : Int) : Lat v0 v1 u0 u1 x y ↔ Lat (u0 - q * v0) (u1 - q * v1) v0 v1 x y := by
  constructor
  · rintro ⟨i, j, rfl, rfl⟩
    refine ⟨j, i + j * q, ?_, ?_⟩ <;> rw [Int.mul_sub, Int.add_mul, Int.mul_assoc] <;> omega
  · rintro ⟨i, j, rfl, rfl⟩
    refine ⟨j - i * q, i, ?_, ?_⟩ <;> rw [Int.mul_sub, Int.sub_mul, Int.mul_assoc] <;> omega
theorem lat_neg1 {v0 v1 u0 u1 x y : Int} : Lat v0 v1 u0 u1 x y ↔ Lat (-v0) (-v1) u0 u1 x y := by
  constructor
  · rintro ⟨i, j, rfl, rfl⟩
    exact ⟨-i, j, by rw [Int.neg_mul_neg], by rw [Int.neg_mul_neg]⟩
  · rintro ⟨i, j, rfl, rfl⟩
    exact ⟨-i, j, by rw [Int.neg_mul, Int.mul_neg], by rw [Int.neg_mul, Int.mul_neg]⟩
theorem lat_neg2 {v0 v1 u0 u1 x y : Int} : Lat v0 v1 u0 u1 x y ↔ Lat v0 v1 (-u0) (-u1) x y := by
  rw [lat_swap, lat_neg1, lat_swap]
theorem lat_form : ∀ (m : Nat) (v0 v1 u0 u1 : Int), v1.natAbs ≤ m → v0 * u1 - v1 * u0 ≠ 0 →
    ∃ wd h : Nat, ∃ s : Int, ((wd * h : Nat) : Int) = (v0 * u1 - v1 * u0).natAbs ∧ 0 < wd ∧ 0 < h ∧ 0 ≤ s ∧ s < wd ∧ ∀ x y, Lat v0 v1 u0 u1 x y ↔ Lat wd 0 s h x y
  | 0, v0, v1, u0, u1, hm, hD => by
    obtain rfl : v1 = 0 := by omega
    rw [Int.zero_mul, Int.sub_zero] at hD ⊢
    have h0 : v0 ≠ 0 := fun e => hD (by rw [e, Int.zero_mul])
    have h1 : u1 ≠ 0 := fun e => hD (by rw [e, Int.mul_zero])
    have key : ∀ (v0 u0 u1 : Int), 0 < v0 → 0 < u1 → ∃ wd h : Nat, ∃ s : Int, ((wd * h : Nat) : Int) = (v0 * u1).natAbs ∧ 0 < wd ∧ 0 < h ∧ 0 ≤ s ∧ s < wd ∧ ∀ x y, Lat v0 0 u0 u1 x y ↔ Lat wd 0 s h x y := fun v0 u0 u1 h0 h1 => by
      have hv : ((v0.toNat : Nat) : Int) = v0 := Int.toNat_of_nonneg (by omega)
      have hu : ((u1.toNat : Nat) : Int) = u1 := Int.toNat_of_nonneg (by omega)
      refine ⟨v0.toNat, u1.toNat, u0 % v0, ?_, by omega, by omega, Int.emod_nonneg _ (by omega), by rw [hv]; exact Int.emod_lt_of_pos _ h0, fun x y => ?_⟩
      · rw [Int.natCast_mul, hv, hu]
        have := Int.mul_pos h0 h1
        omega
      · rw [hv, hu]
        have hq := Int.emod_add_mul_ediv u0 v0
        constructor
        · rintro ⟨i, j, rfl, rfl⟩
          refine ⟨i + j * (u0 / v0), j, ?_, ?_⟩
          · have : j * u0 = j * (u0 % v0) + j * (u0 / v0) * v0 := by
              rw [Int.mul_assoc, Int.mul_comm (u0 / v0) v0, ← Int.mul_add, hq]
            rw [this, Int.add_mul]
            omega
          · simp
        · rintro ⟨i, j, rfl, rfl⟩
          refine ⟨i - j * (u0 / v0), j, ?_, ?_⟩
          · have : j * u0 = j * (u0 % v0) + j * (u0 / v0) * v0 := by
              rw [Int.mul_assoc, Int.mul_comm (u0 / v0) v0, ← Int.mul_add, hq]
            rw [this, Int.sub_mul]
            omega
          · simp
    by_cases p0 : 0 < v0 <;> by_cases p1 : 0 < u1
    · exact key v0 u0 u1 p0 p1
    · obtain ⟨wd, h, s, e, a, b, c, d, k⟩ := key v0 (-u0) (-u1) p0 (by omega)
      exact ⟨wd, h, s, by rw [e, Int.mul_neg, Int.natAbs_neg], a, b, c, d, fun x y => by rw [lat_neg2]; exact k x y⟩
    · obtain ⟨wd, h, s, e, a, b, c, d, k⟩ := key (-v0) u0 u1 (by omega) p1
      exact ⟨wd, h, s, by rw [e, Int.neg_mul, Int.natAbs_neg], a, b, c, d, fun x y => by rw [lat_neg1, Int.neg_zero]; exact k x y⟩
    · obtain ⟨wd, h, s, e, a, b, c, d, k⟩ := key (-v0) (-u0) (-u1) (by omega) (by omega)
      exact ⟨wd, h, s, by rw [e, Int.neg_mul_neg], a, b, c, d, fun x y => by rw [lat_neg1, lat_neg2, Int.neg_zero]; exact k x y⟩
  | m + 1, v0, v1, u0, u1, hm, hD => by
    by_cases hz : v1 = 0
    · exact lat_form 0 v0 v1 u0 u1 (by omega) hD
    · have e1 : u1 - u1 / v1 * v1 = u1 % v1 := by
        have := Int.emod_add_mul_ediv u1 v1
        rw [Int.mul_comm (u1 / v1)]
        omega
      have b1 := Int.emod_nonneg u1 hz
      have b2 := Int.emod_lt u1 hz
      have eD : (u0 - u1 / v1 * v0) * v1 - (u1 % v1) * v0 = -(v0 * u1 - v1 * u0) := by
        rw [← e1]
        grind
      obtain ⟨wd, h, s, e, a, b, c, d, k⟩ := lat_form m (u0 - u1 / v1 * v0) (u1 % v1) v0 v1 (by omega) (by rw [eD]; omega)
      refine ⟨wd, h, s, by rw [e, eD, Int.natAbs_neg], a, b, c, d, fun x y => ?_⟩
      rw [lat_sub (u1 / v1), e1]
      exact k x y
def latB (wd h s x y : Int) : Bool := decide (y % h = 0 ∧ (x - y / h * s) % wd = 0)
theorem latB_iff {wd h s : Int} (hw : 0 < wd) (hh : 0 < h) (x y : Int) : latB wd h s x y = true ↔ Lat wd 0 s h x y := by
  unfold latB
  rw [decide_eq_true_eq]
  constructor
  · rintro ⟨h1, h2⟩
    refine ⟨(x - y / h * s) / wd, y / h, ?_, ?_⟩
    · have := Int.emod_add_mul_ediv (x - y / h * s) wd
      rw [h2] at this
      rw [Int.mul_comm _ wd]
      omega
    · have := Int.emod_add_mul_ediv y h
      rw [h1] at this
      rw [Int.mul_comm _ h]
      omega
  · rintro ⟨i, j, rfl, rfl⟩
    have e : (i * 0 + j * h) = j * h := by omega
    rw [e, Int.mul_emod_left, Int.mul_ediv_cancel _ (by omega), show i * wd + j * s - j * s = i * wd by omega, Int.mul_emod_left]
    exact ⟨rfl, rfl⟩
structure Grid (l : Int → Int → Bool) : Prop where
  zero : l 0 0 = true
  add : ∀ a b c d, l a b = true → l c d = true → l (a + c) (b + d) = true
  neg : ∀ a b, l a b = true → l (-a) (-b) = true
theorem grid_of {l : Int → Int → Bool} {v0 v1 u0 u1 : Int} (h : ∀ x y, l x y = true ↔ Lat v0 v1 u0 u1 x y) : Grid l where
  zero := (h 0 0).2 ⟨0, 0, by simp, by simp⟩
  add a b c d p q := by
    obtain ⟨i, j, rfl, rfl⟩ := (h _ _).1 p
    obtain ⟨i2, j2, rfl, rfl⟩ := (h _ _).1 q
    exact (h _ _).2 ⟨i + i2, j + j2, by rw [Int.add_mul, Int.add_mul]; omega, by rw [Int.add_mul, Int.add_mul]; omega⟩
  neg a b p := by
    obtain ⟨i, j, rfl, rfl⟩ := (h _ _).1 p
    exact (h _ _).2 ⟨-i, -j, by rw [Int.neg_mul, Int.neg_mul]; omega, by rw [Int.neg_mul, Int.neg_mul]; omega⟩
theorem Grid.move {l : Int → Int → Bool} (g : Grid l) {a b : Int} (h : l a b = true) (x y : Int) : l (x + a) (y + b) = l x y := by
  rw [Bool.eq_iff_iff]
  constructor
  · intro q
    have := g.add _ _ _ _ q (g.neg _ _ h)
    rwa [show x + a + -a = x by omega, show y + b + -b = y by omega] at this
  · intro q
    exact g.add _ _ _ _ q h
def bi (b : Bool) : Int := if b then 1 else 0
theorem bi_range (b : Bool) : 0 ≤ bi b ∧ bi b ≤ 1 := by cases b <;> decide
theorem latB_dom {wd h : Nat} {s : Int} (hw : 0 < wd) (hh : 0 < h) (x y : Int) : S wd (fun p => S h fun q => bi (latB wd h s (x - p) (y - q))) = 1 := by
  have hh' : (0 : Int) < h := by omega
  have hw' : (0 : Int) < wd := by omega
  have y0 := Int.emod_nonneg y (show (h : Int) ≠ 0 by omega)
  have y1 := Int.emod_lt_of_pos y hh'
  have ye := Int.emod_add_mul_ediv y h
  have hr : ∀ p : Nat, S h (fun q => bi (latB wd h s (x - p) (y - q))) = bi (latB wd h s (x - p) (y - (y % h).toNat)) := fun p => by
    refine S_one (k := (y % h).toNat) (by omega) fun q hq hne => ?_
    unfold latB bi
    rw [if_neg]
    simp only [decide_eq_true_eq]
    rintro ⟨a, -⟩
    apply hne
    have : (y - q) % h = 0 := a
    have h2 : y % h = (q : Int) % h := by
      rw [Int.emod_eq_emod_iff_emod_sub_eq_zero]
      exact this
    rw [Int.emod_eq_of_lt (a := (q : Int)) (by omega) (by omega)] at h2
    omega
  rw [S_congr fun p _ => hr p]
  have hy : (y - ((y % h).toNat : Nat)) = y / h * h := by rw [Int.mul_comm]; omega
  rw [S_congr (g := fun p : Nat => bi (decide ((x - y / h * s - p) % wd = 0))) fun p _ => by
    unfold latB
    rw [hy, Int.mul_emod_left, Int.mul_ediv_cancel _ (by omega)]
    congr 2
    rw [show x - (p : Int) - y / h * s = x - y / h * s - p by omega]
    simp]
  generalize x - y / h * s = z
  have z0 := Int.emod_nonneg z (show (wd : Int) ≠ 0 by omega)
  have z1 := Int.emod_lt_of_pos z hw'
  have ze := Int.emod_add_mul_ediv z wd
  rw [S_one (k := (z % wd).toNat) (by omega)]
  · have : (z - ((z % wd).toNat : Nat)) = z / wd * wd := by rw [Int.mul_comm]; omega
    rw [this, Int.mul_emod_left]
    rfl
  · intro p hp hne
    unfold bi
    rw [if_neg]
    simp only [decide_eq_true_eq]
    intro a
    apply hne
    have h2 : z % wd = (p : Int) % wd := by
      rw [Int.emod_eq_emod_iff_emod_sub_eq_zero]
      exact a
    rw [Int.emod_eq_of_lt (a := (p : Int)) (by omega) (by omega)] at h2
    omega
end Go.Proofs.YtpfenoioeajkmaaDoor.G
end

section
set_option linter.unusedVariables false
set_option linter.unusedSimpArgs false
namespace Go.Proofs.YtpfenoioeajkmaaDoor.G
theorem Z2_one {K : Nat} {p q : Int} {F : Int → Int → Int} (h1 : -(K : Int) ≤ p) (h2 : p < K) (h3 : -(K : Int) ≤ q) (h4 : q < K) (h : ∀ x y, ¬ (x = p ∧ y = q) → F x y = 0) : (Z K fun x => Z K fun y => F x y) = F p q := by
  rw [Z_one h1 h2, Z_one h3 h4]
  · exact fun y hy => h _ _ fun e => hy e.2
  · exact fun x hx => Z_zero fun y _ _ => h _ _ fun e => hx e.1
section
variable {n : Nat} {X Y : Nat → Int} {D : Nat → Nat}
def fC (n : Nat) (X Y : Nat → Int) (D : Nat → Nat) (l : Int → Int → Bool) (K : Nat) (a b : Int) : Int := Z K fun x => Z K fun y => bi (l (x - a) (y - b)) * W n X Y D x y
def E (n : Nat) (X Y : Nat → Int) (D : Nat → Nat) (l : Int → Int → Bool) (k : Nat) (a b : Int) : Int := S n fun i => if D i = k then bi (l (X i - a) (Y i - b)) else 0
structure Rim (n : Nat) (X Y : Nat → Int) (D : Nat → Nat) (K : Nat) : Prop where
  l : ∀ x y, x ≤ -(K : Int) → W n X Y D x y = 0
  r : ∀ x y, (K : Int) - 1 ≤ x → W n X Y D x y = 0
  d : ∀ x y, y ≤ -(K : Int) → W n X Y D x y = 0
  u : ∀ x y, (K : Int) - 1 ≤ y → W n X Y D x y = 0
theorem Loop.rim (L : Loop n X Y D) {K : Nat} (hB : Box K X Y) : Rim n X Y D K where
  l x y h := L.W_left y fun i => by have := hB i; omega
  r x y h := W_right y fun i => by have := hB i; omega
  d x y h := L.W_down x fun i => by have := hB i; omega
  u x y h := L.W_up x fun i => by have := hB i; omega
theorem Rim.sum_x {K : Nat} (R : Rim n X Y D K) (c : Int → Int → Int) : (Z K fun x => Z K fun y => c x y * W n X Y D (x - 1) y) = Z K fun x => Z K fun y => c (x + 1) y * W n X Y D x y := by
  rw [← Z_shift (f := fun x => Z K fun y => c (x + 1) y * W n X Y D x y)]
  · exact Z_congr fun x _ _ => by rw [show x - 1 + 1 = x by omega]
  · exact Z_zero fun y _ _ => by rw [R.l _ _ (by omega), Int.mul_zero]
  · exact Z_zero fun y _ _ => by rw [R.r _ _ (by omega), Int.mul_zero]
theorem Rim.sum_y {K : Nat} (R : Rim n X Y D K) (c : Int → Int → Int) (k : Int) : (Z K fun x => Z K fun y => c x y * W n X Y D (x - k) (y - 1)) = Z K fun x => Z K fun y => c x (y + 1) * W n X Y D (x - k) y := by
  refine Z_congr fun x _ _ => ?_
  rw [← Z_shift (f := fun y => c x (y + 1) * W n X Y D (x - k) y)]
  · exact Z_congr fun y _ _ => by rw [show y - 1 + 1 = y by omega]
  · rw [R.d _ _ (by omega), Int.mul_zero]
  · rw [R.u _ _ (by omega), Int.mul_zero]
theorem Loop.f_v (L : Loop n X Y D) {K : Nat} (hB : Box K X Y) (l : Int → Int → Bool) (a b : Int) : fC n X Y D l K (a - 1) b - fC n X Y D l K a b = E n X Y D l 1 a b - E n X Y D l 3 a (b + 1) := by
  have R := L.rim hB
  have e1 : fC n X Y D l K (a - 1) b = Z K fun x => Z K fun y => bi (l (x - a) (y - b)) * W n X Y D (x - 1) y := by
    rw [R.sum_x]
    exact Z_congr fun x _ _ => Z_congr fun y _ _ => by rw [show x - (a - 1) = x + 1 - a by omega]
  rw [e1]
  unfold fC E
  rw [← Z_sub, ← S_sub]
  have e2 : ∀ x, ((Z K fun y => bi (l (x - a) (y - b)) * W n X Y D (x - 1) y) - Z K fun y => bi (l (x - a) (y - b)) * W n X Y D x y) = S n fun i => Z K fun y => bi (l (x - a) (y - b)) * ((if D i = 1 ∧ X i = x ∧ Y i = y then 1 else 0) - (if D i = 3 ∧ X i = x ∧ Y i = y + 1 then 1 else 0)) := fun x => by
    rw [← Z_sub, ← Z_S]
    refine Z_congr fun y _ _ => ?_
    rw [← Int.mul_sub, cross_v L, S_mul]
  rw [Z_congr fun x _ _ => e2 x, Z_S]
  refine S_congr fun i _ => ?_
  obtain ⟨b1, b2, b3, b4⟩ := hB i
  have hn := hB (i + 1)
  rw [L.sy i] at hn
  rcases d_cases (L.d4 i) with e | e | e | e
  · rw [e, Z_zero fun x _ _ => Z_zero fun y _ _ => by simp]; simp
  · rw [e, Z2_one (p := X i) (q := Y i) (by omega) (by omega) (by omega) (by omega)]
    · simp
    · intro x y h
      rw [if_neg (fun q => h ⟨q.2.1.symm, q.2.2.symm⟩)]
      simp
  · rw [e, Z_zero fun x _ _ => Z_zero fun y _ _ => by simp]; simp
  · rw [e] at hn
    simp [uy] at hn
    rw [e, Z2_one (p := X i) (q := Y i - 1) (by omega) (by omega) (by omega) (by omega)]
    · have : Y i = Y i - 1 + 1 := by omega
      simp [← this]
      rw [show Y i - 1 - b = Y i - (b + 1) by omega]
    · intro x y h
      rw [if_neg (fun q => absurd q.1 (by decide)), if_neg (fun q => h ⟨q.2.1.symm, by omega⟩)]
      simp
theorem Loop.f_h (L : Loop n X Y D) {K : Nat} (hB : Box K X Y) (l : Int → Int → Bool) (a b : Int) : fC n X Y D l K a b - fC n X Y D l K a (b - 1) = E n X Y D l 0 a b - E n X Y D l 2 (a + 1) b := by
  have R := L.rim hB
  have e1 : fC n X Y D l K a (b - 1) = Z K fun x => Z K fun y => bi (l (x - a) (y - b)) * W n X Y D x (y - 1) := by
    have := R.sum_y (fun x y => bi (l (x - a) (y - b))) 0
    simp only [Int.sub_zero] at this
    rw [this]
    exact Z_congr fun x _ _ => Z_congr fun y _ _ => by rw [show y - (b - 1) = y + 1 - b by omega]
  rw [e1]
  unfold fC E
  rw [← Z_sub, ← S_sub]
  have e2 : ∀ x, ((Z K fun y => bi (l (x - a) (y - b)) * W n X Y D x y) - Z K fun y => bi (l (x - a) (y - b)) * W n X Y D x (y - 1)) = S n fun i => Z K fun y => bi (l (x - a) (y - b)) * ((if D i = 0 ∧ X i = x ∧ Y i = y then 1 else 0) - (if D i = 2 ∧ X i = x + 1 ∧ Y i = y then 1 else 0)) := fun x => by
    rw [← Z_sub, ← Z_S]
    refine Z_congr fun y _ _ => ?_
    rw [← Int.mul_sub, cross_h L, S_mul]
  rw [Z_congr fun x _ _ => e2 x, Z_S]
  refine S_congr fun i _ => ?_
  obtain ⟨b1, b2, b3, b4⟩ := hB i
  have hn := hB (i + 1)
  rw [L.sx i] at hn
  rcases d_cases (L.d4 i) with e | e | e | e
  · rw [e, Z2_one (p := X i) (q := Y i) (by omega) (by omega) (by omega) (by omega)]
    · simp
    · intro x y h
      rw [if_neg (fun q => h ⟨q.2.1.symm, q.2.2.symm⟩)]
      simp
  · rw [e, Z_zero fun x _ _ => Z_zero fun y _ _ => by simp]; simp
  · rw [e] at hn
    simp [ux] at hn
    rw [e, Z2_one (p := X i - 1) (q := Y i) (by omega) (by omega) (by omega) (by omega)]
    · have : X i = X i - 1 + 1 := by omega
      simp [← this]
      rw [show X i - 1 - a = X i - (a + 1) by omega]
    · intro x y h
      rw [if_neg (fun q => absurd q.1 (by decide)), if_neg (fun q => h ⟨by omega, q.2.2.symm⟩)]
      simp
  · rw [e, Z_zero fun x _ _ => Z_zero fun y _ _ => by simp]; simp
theorem fC_total {wd h K : Nat} {s : Int} (hw : 0 < wd) (hh : 0 < h) : (S wd fun p => S h fun q => fC n X Y D (latB wd h s) K p q) = Z K fun x => Z K fun y => W n X Y D x y := by
  have e1 : ∀ p : Nat, (S h fun q : Nat => fC n X Y D (latB wd h s) K p q) = Z K fun x => Z K fun y => S h fun q => bi (latB wd h s (x - p) (y - q)) * W n X Y D x y := fun p => by
    unfold fC
    rw [← Z_S]
    exact Z_congr fun x _ _ => by rw [← Z_S]
  rw [S_congr fun p _ => e1 p, ← Z_S]
  refine Z_congr fun x _ _ => ?_
  rw [← Z_S]
  refine Z_congr fun y _ _ => ?_
  have hd := latB_dom (s := s) hw hh x y
  have e2 : ∀ p : Nat, (S h fun q => bi (latB wd h s (x - p) (y - q)) * W n X Y D x y) = W n X Y D x y * S h fun q => bi (latB wd h s (x - p) (y - q)) := fun p => by
    rw [← S_mul]
    exact S_congr fun q _ => Int.mul_comm _ _
  rw [S_congr fun p _ => e2 p, S_mul, hd, Int.mul_one]
theorem const2 {g : Int → Int → Int} (h1 : ∀ a b, g (a - 1) b = g a b) (h2 : ∀ a b, g a b = g a (b - 1)) (a b : Int) : g a b = g 0 0 := by
  have x1 : ∀ (m : Nat) a b, g (a - m) b = g a b := fun m => by
    induction m with
    | zero => intro a b; rw [show a - ((0 : Nat) : Int) = a by omega]
    | succ m ih => intro a b; rw [show a - ((m + 1 : Nat) : Int) = a - m - 1 by omega, h1, ih]
  have y1 : ∀ (m : Nat) a b, g a (b - m) = g a b := fun m => by
    induction m with
    | zero => intro a b; rw [show b - ((0 : Nat) : Int) = b by omega]
    | succ m ih => intro a b; rw [show b - ((m + 1 : Nat) : Int) = b - m - 1 by omega, ← h2, ih]
  have xa : g a b = g 0 b := by
    rcases Int.le_total 0 a with h | h
    · have := x1 a.toNat a b
      rw [show a - (a.toNat : Int) = 0 by omega] at this
      exact this.symm
    · have := x1 (-a).toNat 0 b
      rw [show 0 - ((-a).toNat : Int) = a by omega] at this
      exact this
  rw [xa]
  rcases Int.le_total 0 b with h | h
  · have := y1 b.toNat 0 b
    rw [show b - (b.toNat : Int) = 0 by omega] at this
    exact this.symm
  · have := y1 (-b).toNat 0 0
    rw [show 0 - ((-b).toNat : Int) = b by omega] at this
    exact this
theorem fC_two (L : Loop n X Y D) (h1 : LW n X Y D 0 = 1) {l : Int → Int → Bool} (g : Grid l) {K : Nat} (R : Rim n X Y D K) {x y x' y' : Int} (hw : W n X Y D x y = 1) (hw' : W n X Y D x' y' = 1) (hne : ¬ (x = x' ∧ y = y')) (hl : l (x' - x) (y' - y) = true) : 2 ≤ fC n X Y D l K x y := by
  have box : ∀ {x y}, W n X Y D x y = 1 → -(K : Int) ≤ x ∧ x < K ∧ -(K : Int) ≤ y ∧ y < K := fun {x y} h => by
    have a1 := R.l x y
    have a2 := R.r x y
    have a3 := R.d x y
    have a4 := R.u x y
    refine ⟨?_, ?_, ?_, ?_⟩
    · exact Classical.byContradiction fun q => by rw [a1 (by omega)] at h; omega
    · exact Classical.byContradiction fun q => by rw [a2 (by omega)] at h; omega
    · exact Classical.byContradiction fun q => by rw [a3 (by omega)] at h; omega
    · exact Classical.byContradiction fun q => by rw [a4 (by omega)] at h; omega
  obtain ⟨b1, b2, b3, b4⟩ := box hw
  obtain ⟨c1, c2, c3, c4⟩ := box hw'
  have hle : (Z K fun u => Z K fun v => (if u = x ∧ v = y then (1 : Int) else 0) + (if u = x' ∧ v = y' then 1 else 0)) ≤ fC n X Y D l K x y := Z_le fun u _ _ => Z_le fun v _ _ => by
    by_cases e1 : u = x ∧ v = y
    · obtain ⟨rfl, rfl⟩ := e1
      rw [if_pos ⟨rfl, rfl⟩, if_neg hne, hw, Int.sub_self, Int.sub_self, g.zero]
      decide
    · rw [if_neg e1]
      by_cases e2 : u = x' ∧ v = y'
      · obtain ⟨rfl, rfl⟩ := e2
        rw [if_pos ⟨rfl, rfl⟩, hw', hl]
        decide
      · rw [if_neg e2]
        have r := bi_range (l (u - x) (v - y))
        rcases L.zo h1 u v with e | e <;> rw [e] <;> omega
  simp only [Z_add] at hle
  rw [Z2_one (p := x) (q := y) b1 b2 b3 b4 (fun u v h => if_neg h), Z2_one (p := x') (q := y') c1 c2 c3 c4 (fun u v h => if_neg h), if_pos ⟨rfl, rfl⟩, if_pos ⟨rfl, rfl⟩] at hle
  exact hle
end
end Go.Proofs.YtpfenoioeajkmaaDoor.G
end

section
set_option linter.unusedVariables false
set_option linter.unusedSimpArgs false
namespace Go.Proofs.YtpfenoioeajkmaaDoor.G
theorem S_rev (m : Nat) (f : Nat → Int) : S m f = S m fun t => f (m - 1 - t) := by
  induction m generalizing f with
  | zero => rfl
  | succ m ih =>
    rw [S_succ, S_head, ih]
    have : S m (fun t => f (m - 1 - t)) = S m (fun i => f (m + 1 - 1 - (i + 1))) := S_congr fun t ht => by congr 1; omega
    rw [this, show m + 1 - 1 - 0 = m by omega]
    omega
def Opp (D : Nat → Nat) (i m j : Nat) : Prop := ∀ t, t < m → D (j + t) = (D (i + m - 1 - t) + 2) % 4
theorem Opp.symm {D : Nat → Nat} (h4 : ∀ i, D i < 4) {i m j : Nat} (h : Opp D i m j) : Opp D j m i := fun t ht => by
  have := h (m - 1 - t) (by omega)
  rw [show i + m - 1 - (m - 1 - t) = i + t by omega, show j + (m - 1 - t) = j + m - 1 - t by omega] at this
  rw [this]
  have := h4 (i + t)
  omega
theorem ux_opp {d : Nat} (h : d < 4) : ux ((d + 2) % 4) = -ux d ∧ uy ((d + 2) % 4) = -uy d := by
  rcases d_cases h with e | e | e | e <;> subst e <;> decide
theorem uxy (d : Nat) : ux d * uy d = 0 := by
  unfold ux uy
  (repeat' split) <;> omega
section
variable {n : Nat} {X Y : Nat → Int} {D : Nat → Nat}
theorem Loop.opp_pos (L : Loop n X Y D) {i m j : Nat} (h : Opp D i m j) : ∀ t, t ≤ m → X (j + t) = X (i + m - t) + (X j - X (i + m)) ∧ Y (j + t) = Y (i + m - t) + (Y j - Y (i + m)) := by
  intro t
  induction t with
  | zero => intro _; rw [Nat.add_zero, Nat.sub_zero]; omega
  | succ t ih =>
    intro ht
    obtain ⟨a, b⟩ := ih (by omega)
    have e := h t (by omega)
    have sx := L.sx (j + t)
    have sy := L.sy (j + t)
    have tx := L.sx (i + m - 1 - t)
    have ty := L.sy (i + m - 1 - t)
    rw [e, (ux_opp (L.d4 _)).1] at sx
    rw [e, (ux_opp (L.d4 _)).2] at sy
    rw [show i + m - 1 - t + 1 = i + m - t by omega] at tx ty
    rw [show j + (t + 1) = j + t + 1 by omega, show i + m - (t + 1) = i + m - 1 - t by omega]
    omega
theorem Loop.opp_E (L : Loop n X Y D) {l : Int → Int → Bool} (g : Grid l) {i m j : Nat} (h : Opp D i m j) (hl : l (X j - X (i + m)) (Y j - Y (i + m)) = true) {k : Nat} (hk : k < 4) (a b : Int) :
    S m (fun t => if D (i + t) = k then bi (l (X (i + t) - a) (Y (i + t) - b)) else 0) = S m (fun t => if D (j + t) = (k + 2) % 4 then bi (l (X (j + t) - (a + ux k)) (Y (j + t) - (b + uy k))) else 0) := by
  rw [S_rev]
  refine S_congr fun t ht => ?_
  have e := h t ht
  obtain ⟨p1, p2⟩ := L.opp_pos h t (by omega)
  have sx := L.sx (i + m - 1 - t)
  have sy := L.sy (i + m - 1 - t)
  have d4 := L.d4 (i + m - 1 - t)
  rw [show i + m - 1 - t + 1 = i + m - t by omega] at sx sy
  rw [show i + (m - 1 - t) = i + m - 1 - t by omega]
  by_cases hc : D (i + m - 1 - t) = k
  · rw [if_pos hc, if_pos (by rw [e, hc])]
    rw [hc] at sx sy
    congr 1
    rw [← g.move hl]
    congr 1 <;> omega
  · rw [if_neg hc, if_neg (by rw [e]; omega)]
theorem Loop.opp_E2 (L : Loop n X Y D) {l : Int → Int → Bool} (g : Grid l) {i m j : Nat} (h : Opp D i m j) (hl : l (X j - X (i + m)) (Y j - Y (i + m)) = true) {k : Nat} (hk : k < 4) (a b : Int) :
    S m (fun t => if D (j + t) = k then bi (l (X (j + t) - a) (Y (j + t) - b)) else 0) = S m (fun t => if D (i + t) = (k + 2) % 4 then bi (l (X (i + t) - (a + ux k)) (Y (i + t) - (b + uy k))) else 0) := by
  obtain ⟨p1, p2⟩ := L.opp_pos h m (Nat.le_refl _)
  rw [Nat.add_sub_cancel] at p1 p2
  refine L.opp_E g (h.symm L.d4) ?_ hk a b
  have := g.neg _ _ hl
  rw [show X i - X (j + m) = -(X j - X (i + m)) by omega, show Y i - Y (j + m) = -(Y j - Y (i + m)) by omega]
  exact this
def Q (X Y : Nat → Int) (D : Nat → Nat) (i m : Nat) : Int := S m fun t => X (i + t) * uy (D (i + t)) - Y (i + t) * ux (D (i + t))
theorem Loop.opp_Q (L : Loop n X Y D) {j : Nat} : ∀ (m i : Nat), Opp D i m j → Q X Y D j m + Q X Y D i m = (X (i + m) - X i) * (Y j - Y (i + m)) - (Y (i + m) - Y i) * (X j - X (i + m))
  | 0, i, h => by show (0 : Int) + 0 = _; rw [Nat.add_zero, Int.sub_self, Int.sub_self]; simp
  | m + 1, i, h => by
    have h' : Opp D (i + 1) m j := fun t ht => by
      have := h t (by omega)
      rwa [show i + (m + 1) - 1 - t = i + 1 + m - 1 - t by omega] at this
    have ih := L.opp_Q m (i + 1) h'
    obtain ⟨p1, p2⟩ := L.opp_pos h m (by omega)
    have e := h m (by omega)
    have d4 := L.d4 i
    rw [show i + (m + 1) - 1 - m = i by omega] at e
    rw [show i + (m + 1) - m = i + 1 by omega] at p1 p2
    have q1 : Q X Y D j (m + 1) = Q X Y D j m + (X (j + m) * uy (D (j + m)) - Y (j + m) * ux (D (j + m))) := rfl
    have q2 : Q X Y D i (m + 1) = (X i * uy (D i) - Y i * ux (D i)) + Q X Y D (i + 1) m := by
      unfold Q
      rw [S_head, Nat.add_zero]
      congr 1
      exact S_congr fun t _ => by rw [show i + (t + 1) = i + 1 + t by omega]
    have sx := L.sx i
    have sy := L.sy i
    have hz := uxy (D i)
    rw [q1, q2, e, (ux_opp d4).1, (ux_opp d4).2, p1, p2]
    rw [show i + 1 + m = i + (m + 1) by omega] at ih
    grind
theorem Loop.Q_area (L : Loop n X Y D) : Q X Y D 0 n = 2 * S n fun i => X i * uy (D i) := by
  have ht := S_tel n fun i => X i * Y i
  have hx := L.px 0
  have hy := L.py 0
  rw [Nat.zero_add] at hx hy
  rw [hx, hy, Int.sub_self] at ht
  have e : (S n fun i => X (i + 1) * Y (i + 1) - X i * Y i) = S n fun i => X i * uy (D i) + Y i * ux (D i) := S_congr fun i _ => by
    have := uxy (D i)
    rw [L.sx, L.sy]
    grind
  rw [e, S_add] at ht
  unfold Q
  simp only [Nat.zero_add]
  rw [S_sub]
  omega
structure Fac (n : Nat) (D : Nat → Nat) (a b c : Nat) : Prop where
  n2 : n = a + b + c + a + b + c
  A : Opp D 0 a (a + b + c)
  B : Opp D a b (a + b + c + a)
  C : Opp D (a + b) c (a + b + c + a + b)
theorem S_six (a b c : Nat) (f : Nat → Int) : S (a + b + c + a + b + c) f = S a (fun t => f (0 + t)) + S b (fun t => f (a + t)) + S c (fun t => f (a + b + t)) + S a (fun t => f (a + b + c + t)) + S b (fun t => f (a + b + c + a + t)) + S c (fun t => f (a + b + c + a + b + t)) := by
  rw [S_split (a + b + c + a + b) c, S_split (a + b + c + a) b, S_split (a + b + c) a, S_split (a + b) c, S_split a b]
  congr 5
  exact S_congr fun t _ => by rw [Nat.zero_add]
theorem Loop.fac_area (L : Loop n X Y D) {a b c : Nat} (F : Fac n D a b c) : (X (a + b) - X 0) * (Y (a + b + c) - Y a) - (Y (a + b) - Y 0) * (X (a + b + c) - X a) = S n fun i => X i * uy (D i) := by
  have h := L.Q_area
  have q1 := L.opp_Q _ _ F.A
  have q2 := L.opp_Q _ _ F.B
  have q3 := L.opp_Q _ _ F.C
  obtain ⟨a1, a2⟩ := L.opp_pos F.A a (Nat.le_refl _)
  obtain ⟨b1, b2⟩ := L.opp_pos F.B b (Nat.le_refl _)
  have hs : Q X Y D 0 n = Q X Y D 0 a + Q X Y D a b + Q X Y D (a + b) c + Q X Y D (a + b + c) a + Q X Y D (a + b + c + a) b + Q X Y D (a + b + c + a + b) c := by
    unfold Q
    simp only [Nat.zero_add]
    rw [F.n2, S_six a b c]
    simp only [Nat.zero_add]
  rw [Nat.zero_add] at q1 a1 a2
  rw [Nat.sub_self] at a1 a2
  rw [Nat.add_sub_cancel] at b1 b2
  rw [a1, a2] at q2
  rw [b1, b2, a1, a2] at q3
  generalize S n (fun i => X i * uy (D i)) = A at h ⊢
  have : 2 * ((X (a + b) - X 0) * (Y (a + b + c) - Y a) - (Y (a + b) - Y 0) * (X (a + b + c) - X a)) = 2 * A := by grind
  omega
theorem Loop.fac_E (L : Loop n X Y D) {a b c : Nat} (F : Fac n D a b c) {l : Int → Int → Bool} (g : Grid l)
    (h1 : l (X (a + b) - X 0) (Y (a + b) - Y 0) = true) (h2 : l (X (a + b + c) - X a) (Y (a + b + c) - Y a) = true) {k : Nat} (hk : k < 4) (p q : Int) :
    E n X Y D l k p q = E n X Y D l ((k + 2) % 4) (p + ux k) (q + uy k) := by
  obtain ⟨a1, a2⟩ := L.opp_pos F.A a (Nat.le_refl _)
  obtain ⟨b1, b2⟩ := L.opp_pos F.B b (Nat.le_refl _)
  have t1 : l (X (a + b + c) - X (0 + a)) (Y (a + b + c) - Y (0 + a)) = true := by rw [Nat.zero_add]; exact h2
  have t2 : l (X (a + b + c + a) - X (a + b)) (Y (a + b + c + a) - Y (a + b)) = true := by
    have := g.add _ _ _ _ h2 (g.neg _ _ h1)
    rw [a1, a2, Nat.zero_add, Nat.sub_self]
    rw [show X 0 + (X (a + b + c) - X a) - X (a + b) = X (a + b + c) - X a + -(X (a + b) - X 0) by omega, show Y 0 + (Y (a + b + c) - Y a) - Y (a + b) = Y (a + b + c) - Y a + -(Y (a + b) - Y 0) by omega]
    exact this
  have t3 : l (X (a + b + c + a + b) - X (a + b + c)) (Y (a + b + c + a + b) - Y (a + b + c)) = true := by
    have := g.neg _ _ h1
    rw [b1, b2, a1, a2, Nat.zero_add, Nat.sub_self, Nat.add_sub_cancel]
    rw [show X a + (X 0 + (X (a + b + c) - X a) - X (a + b)) - X (a + b + c) = -(X (a + b) - X 0) by omega, show Y a + (Y 0 + (Y (a + b + c) - Y a) - Y (a + b)) - Y (a + b + c) = -(Y (a + b) - Y 0) by omega]
    exact this
  have e1 := L.opp_E g F.A t1 hk p q
  have e2 := L.opp_E g F.B t2 hk p q
  have e3 := L.opp_E g F.C t3 hk p q
  have e4 := L.opp_E2 g F.A t1 hk p q
  have e5 := L.opp_E2 g F.B t2 hk p q
  have e6 := L.opp_E2 g F.C t3 hk p q
  unfold E
  rw [F.n2, S_six a b c, S_six a b c]
  omega
theorem Loop.easy (L : Loop n X Y D) {K : Nat} (hB : Box K X Y) (hA : 0 < S n fun i => X i * uy (D i)) {a b c : Nat} (F : Fac n D a b c) :
    ∀ x y x' y', W n X Y D x y = 1 → W n X Y D x' y' = 1 → Lat (X (a + b) - X 0) (Y (a + b) - Y 0) (X (a + b + c) - X a) (Y (a + b + c) - Y a) (x' - x) (y' - y) → x = x' ∧ y = y' := by
  have h1 := L.pos hB hA
  have hd := L.fac_area F
  have har := L.area hB
  obtain ⟨wd, h, s, hwh, hw, hh, -, -, hlat⟩ := lat_form _ (X (a + b) - X 0) (Y (a + b) - Y 0) (X (a + b + c) - X a) (Y (a + b + c) - Y a) (Nat.le_refl _) (by rw [hd]; omega)
  rw [hd] at hwh
  have hl : ∀ x y, latB wd h s x y = true ↔ Lat (X (a + b) - X 0) (Y (a + b) - Y 0) (X (a + b + c) - X a) (Y (a + b + c) - Y a) x y := fun x y => by
    rw [hlat]
    exact latB_iff (by omega) (by omega) x y
  have g := grid_of hl
  have p1 : latB wd h s (X (a + b) - X 0) (Y (a + b) - Y 0) = true := (hl _ _).2 ⟨1, 0, by simp, by simp⟩
  have p2 : latB wd h s (X (a + b + c) - X a) (Y (a + b + c) - Y a) = true := (hl _ _).2 ⟨0, 1, by simp, by simp⟩
  have c0 := const2 (g := fC n X Y D (latB wd h s) K) (fun p q => by
      have e := L.f_v hB (latB wd h s) p q
      have := L.fac_E F g p1 p2 (k := 1) (by omega) p q
      rw [show ux 1 = 0 from rfl, show uy 1 = 1 from rfl, Int.add_zero, show (1 + 2) % 4 = 3 from rfl] at this
      omega) (fun p q => by
      have e := L.f_h hB (latB wd h s) p q
      have := L.fac_E F g p1 p2 (k := 0) (by omega) p q
      rw [show ux 0 = 1 from rfl, show uy 0 = 0 from rfl, Int.add_zero, show (0 + 2) % 4 = 2 from rfl] at this
      omega)
  have ht := fC_total (n := n) (X := X) (Y := Y) (D := D) (K := K) (s := s) hw hh
  rw [S_congr (g := fun _ => (h : Int) * fC n X Y D (latB wd h s) K 0 0) fun p _ => by rw [S_congr (g := fun _ => fC n X Y D (latB wd h s) K 0 0) fun q _ => c0 p q, S_const], S_const, har] at ht
  have hone : fC n X Y D (latB wd h s) K 0 0 = 1 := by
    have e : ((wd * h : Nat) : Int) * fC n X Y D (latB wd h s) K 0 0 = ((wd * h : Nat) : Int) * 1 := by
      rw [Int.natCast_mul, Int.mul_assoc, ht, Int.mul_one, ← Int.natCast_mul, hwh]
      omega
    refine Int.eq_of_mul_eq_mul_left ?_ e
    rw [hwh]
    omega
  intro x y x' y' hx hx' hlt
  refine Classical.byContradiction fun hne => ?_
  have := fC_two L h1 g (L.rim hB) hx hx' hne ((hl _ _).2 hlt)
  rw [c0, hone] at this
  omega
end
end Go.Proofs.YtpfenoioeajkmaaDoor.G
end

section
set_option linter.unusedVariables false
set_option linter.unusedSimpArgs false
namespace Go.Proofs.YtpfenoioeajkmaaDoor.G
section
variable {n : Nat} {X Y : Nat → Int} {D : Nat → Nat}
def R (X Y : Nat → Int) (l : Int → Int → Bool) (i j : Nat) : Bool := l (X i - X j) (Y i - Y j)
end
end Go.Proofs.YtpfenoioeajkmaaDoor.G
end

section
set_option linter.unusedVariables false
set_option linter.unusedSimpArgs false
namespace Go.Proofs.YtpfenoioeajkmaaDoor.L
open Go.RowKit Go.Proofs.YtpfenoioeajkmaaDoorW.PrintWords Go.Proofs.YtpfenoioeajkmaaDoorW.PrintLast Go.Proofs.YtpfenoioeajkmaaDoorW.PrintMore Go.Proofs.YtpfenoioeajkmaaDoor.X Go.Proofs.YtpfenoioeajkmaaDoor.G
def cd (c : Int) : Nat := if c = 114 then 0 else if c = 117 then 1 else if c = 108 then 2 else 3
theorem cd_lt (c : Int) : cd c < 4 := by
  unfold cd
  (repeat' split) <;> omega
theorem cd_step {c : Int} (h : isL c) : stepx c = ux (cd c) ∧ stepy c = uy (cd c) := by
  rcases h with rfl | rfl | rfl | rfl <;> decide
theorem cd_inj {c d : Int} (h : isL c) (h2 : isL d) (e : cd c = cd d) : c = d := by
  rcases h with rfl | rfl | rfl | rfl <;> rcases h2 with rfl | rfl | rfl | rfl <;> first | rfl | (exact absurd e (by decide))
theorem cd_back {c : Int} (h : isL c) : cd (exb ruld ldru c) = (cd c + 2) % 4 := by
  rcases h with rfl | rfl | rfl | rfl <;> decide +kernel
def gX (s : ByteArray) (i : Nat) : Int := sumx s (i % s.size)
def gY (s : ByteArray) (i : Nat) : Int := sumy s (i % s.size)
def gD (s : ByteArray) (i : Nat) : Nat := cd (bt s ((i % s.size : Nat) : Int))
theorem isO_parts {s : ByteArray} (h : isO s = true) : isW s = true ∧ 4 ≤ s.size ∧ (sumx s s.size = 0 ∧ sumy s s.size = 0) ∧ 0 < dbl s s.size ∧ apart s s.size := by
  have hw := isO_W h
  unfold isO at h
  simp only [Bool.and_eq_true, decide_eq_true_eq] at h
  exact ⟨hw, h.2.1, h.2.2.1, h.2.2.2.1, (apart_iff hw).2 h.2.2.2.2⟩
theorem loop_of {s : ByteArray} (h : isO s = true) : G.Loop s.size (gX s) (gY s) (gD s) := by
  obtain ⟨hw, h4, ⟨zx, zy⟩, -, hap⟩ := isO_parts h
  have hl := ((isW_iff s).1 hw).2
  have hn : 0 < s.size := by omega
  have nx : ∀ i, ((i + 1) % s.size = i % s.size + 1 ∧ i % s.size + 1 < s.size) ∨ ((i + 1) % s.size = 0 ∧ i % s.size + 1 = s.size) := fun i => by
    have hi := Nat.mod_lt i hn
    by_cases e : i % s.size + 1 < s.size
    · left
      refine ⟨?_, e⟩
      rw [Nat.add_mod, Nat.mod_eq_of_lt (a := 1) (by omega), Nat.mod_eq_of_lt e]
    · right
      have e2 : i % s.size + 1 = s.size := by omega
      refine ⟨?_, e2⟩
      rw [Nat.add_mod, Nat.mod_eq_of_lt (a := 1) (by omega), e2, Nat.mod_self]
  refine ⟨h4, fun i => cd_lt _, fun i => ?_, fun i => ?_, fun i => ?_, fun i => ?_, fun i => ?_, fun i j hx hy => ?_⟩
  · unfold gX gD
    have hi := Nat.mod_lt i hn
    rw [← (cd_step (hl _ hi)).1]
    rcases nx i with ⟨e, _⟩ | ⟨e, e2⟩
    · rw [e, sumx]
    · rw [e]
      have : sumx s (i % s.size + 1) = 0 := by rw [e2]; exact zx
      rw [sumx] at this
      show (0 : Int) = _
      omega
  · unfold gY gD
    have hi := Nat.mod_lt i hn
    rw [← (cd_step (hl _ hi)).2]
    rcases nx i with ⟨e, _⟩ | ⟨e, e2⟩
    · rw [e, sumy]
    · rw [e]
      have : sumy s (i % s.size + 1) = 0 := by rw [e2]; exact zy
      rw [sumy] at this
      show (0 : Int) = _
      omega
  · unfold gX; rw [Nat.add_mod_right]
  · unfold gY; rw [Nat.add_mod_right]
  · unfold gD; rw [Nat.add_mod_right]
  · unfold gX at hx
    unfold gY at hy
    have hi := Nat.mod_lt i hn
    have hj := Nat.mod_lt j hn
    generalize i % s.size = p at *
    generalize j % s.size = q at *
    rcases Nat.lt_trichotomy p q with e | e | e
    · have := hap p q (by omega) e hj
      rw [(same_iff hw (by omega) (by omega)).2 (by rw [hx, hy])] at this
      cases this
    · exact e
    · have := hap q p (by omega) e hi
      rw [(same_iff hw (by omega) (by omega)).2 (by rw [hx, hy])] at this
      cases this
theorem box_of {s : ByteArray} (h : isO s = true) : Box 25 (gX s) (gY s) := fun i => by
  have h24 := isW_le (isO_W h)
  have h4 := isO_4 h
  have hi := Nat.mod_lt i (show 0 < s.size by omega)
  have a := sumx_le s (i % s.size)
  have b := sumy_le s (i % s.size)
  unfold gX gY
  omega
theorem dbl_Q {s : ByteArray} (h : isO s = true) : dbl s s.size = 2 * S s.size fun i => gX s i * uy (gD s i) := by
  obtain ⟨hw, h4, ⟨zx, zy⟩, -, hap⟩ := isO_parts h
  have hl := ((isW_iff s).1 hw).2
  rw [← (loop_of h).Q_area]
  have key : ∀ k, k ≤ s.size → dbl s k = Q (gX s) (gY s) (gD s) 0 k := fun k => by
    induction k with
    | zero => intro _; rfl
    | succ k ih =>
      intro hk
      have e : Q (gX s) (gY s) (gD s) 0 (k + 1) = Q (gX s) (gY s) (gD s) 0 k + (gX s (0 + k) * uy (gD s (0 + k)) - gY s (0 + k) * ux (gD s (0 + k))) := rfl
      rw [dbl, ih (by omega), e, Nat.zero_add]
      have hk' : k % s.size = k := Nat.mod_eq_of_lt (by omega)
      have hs := cd_step (hl k (by omega))
      have e1 : gX s k = sumx s k := by unfold gX; rw [hk']
      have e2 : gY s k = sumy s k := by unfold gY; rw [hk']
      have e3 : gD s k = cd (bt s (k : Int)) := by unfold gD; rw [hk']
      rw [e1, e2, e3, ← hs.1, ← hs.2, sumx, sumy]
      generalize sumx s k = a
      generalize sumy s k = b
      generalize stepx (bt s k) = u
      generalize stepy (bt s k) = v
      grind
  exact key _ (Nat.le_refl _)
theorem area_pos {s : ByteArray} (h : isO s = true) : 0 < S s.size fun i => gX s i * uy (gD s i) := by
  have := (isO_parts h).2.2.2.1
  rw [dbl_Q h] at this
  omega
theorem left_one {s : ByteArray} (h : isO s = true) : LW s.size (gX s) (gY s) (gD s) 0 = 1 := (loop_of h).pos (box_of h) (area_pos h)
def gW (s : ByteArray) (x y : Int) : Int := W s.size (gX s) (gY s) (gD s) x y
theorem gW_zo {s : ByteArray} (h : isO s = true) (x y : Int) : gW s x y = 0 ∨ gW s x y = 1 := (loop_of h).zo (left_one h) x y
theorem cnt_W {s : ByteArray} (h : isO s = true) (x y : Int) : cntTo s x y s.size = gW s x y := by
  obtain ⟨hw, h4, -, -, -⟩ := isO_parts h
  have hl := ((isW_iff s).1 hw).2
  have key : ∀ k, k ≤ s.size → cntTo s x y k = S k (wi (gX s) (gY s) (gD s) x y) := fun k => by
    induction k with
    | zero => intro _; rfl
    | succ k ih =>
      intro hk
      rw [cntTo, ih (by omega), S_succ]
      congr 1
      have hk' : k % s.size = k := Nat.mod_eq_of_lt (by omega)
      unfold rcb wi gX gY gD
      rw [hk', rsumy_eq hw k (by omega)]
      rcases hl k (by omega) with e | e | e | e <;> rw [e] <;> simp [cd]
  exact key _ (Nat.le_refl _)
theorem rim_of {s : ByteArray} (h : isO s = true) : Rim s.size (gX s) (gY s) (gD s) 25 := (loop_of h).rim (box_of h)
theorem gW_in {s : ByteArray} (h : isO s = true) {x y : Int} (hw : gW s x y = 1) : -24 ≤ x ∧ x ≤ 23 ∧ -24 ≤ y ∧ y ≤ 23 := by
  have R := rim_of h
  have a1 := R.l x y
  have a2 := R.r x y
  have a3 := R.d x y
  have a4 := R.u x y
  unfold gW at hw
  refine ⟨?_, ?_, ?_, ?_⟩
  · exact Classical.byContradiction fun q => by rw [a1 (by omega)] at hw; omega
  · exact Classical.byContradiction fun q => by rw [a2 (by omega)] at hw; omega
  · exact Classical.byContradiction fun q => by rw [a3 (by omega)] at hw; omega
  · exact Classical.byContradiction fun q => by rw [a4 (by omega)] at hw; omega
theorem mem_col (s : ByteArray) (x : Int) (p : Int × Int) : ∀ m, p ∈ colTo s x m ↔ ∃ j : Nat, j < m ∧ cntTo s x ((j : Int) - 24) s.size = 1 ∧ p = (x, (j : Int) - 24)
  | 0 => ⟨fun h => (by cases h), fun ⟨j, h, _⟩ => (by omega)⟩
  | m + 1 => by
    rw [colTo, List.mem_append, mem_col s x p m]
    constructor
    · rintro (⟨j, h1, h2⟩ | h)
      · exact ⟨j, by omega, h2⟩
      · by_cases e : cntTo s x ((m : Int) - 24) s.size = 1
        · rw [if_pos e, List.mem_singleton] at h
          exact ⟨m, by omega, e, h⟩
        · rw [if_neg e] at h
          cases h
    · rintro ⟨j, h1, h2, h3⟩
      by_cases e : j = m
      · subst e
        right
        rw [if_pos h2, h3]
        exact List.mem_singleton.2 rfl
      · exact .inl ⟨j, by omega, h2, h3⟩
theorem mem_cells' (s : ByteArray) (p : Int × Int) : ∀ m, p ∈ cellsTo s m ↔ ∃ i : Nat, i < m ∧ p ∈ colTo s ((i : Int) - 24) 49
  | 0 => ⟨fun h => (by cases h), fun ⟨j, h, _⟩ => (by omega)⟩
  | m + 1 => by
    rw [cellsTo, List.mem_append, mem_cells' s p m]
    constructor
    · rintro (⟨j, h1, h2⟩ | h)
      · exact ⟨j, by omega, h2⟩
      · exact ⟨m, by omega, h⟩
    · rintro ⟨j, h1, h2⟩
      by_cases e : j = m
      · subst e
        exact .inr h2
      · exact .inl ⟨j, by omega, h2⟩
def rcl (s : ByteArray) : List (Int × Int) := cellsTo s 49
theorem mem_cells {s : ByteArray} (h : isO s = true) (x y : Int) : (x, y) ∈ rcl s ↔ gW s x y = 1 := by
  unfold rcl
  rw [mem_cells']
  constructor
  · rintro ⟨i, hi, hm⟩
    rw [mem_col] at hm
    obtain ⟨j, hj, h1, h2⟩ := hm
    injection h2 with e1 e2
    rw [cnt_W h] at h1
    rw [e1, e2]
    exact h1
  · intro hw
    have hb := gW_in h hw
    refine ⟨(x + 24).toNat, by omega, (mem_col _ _ _ _).2 ⟨(y + 24).toNat, by omega, ?_, ?_⟩⟩
    · rw [cnt_W h, show (((x + 24).toNat : Nat) : Int) - 24 = x by omega, show (((y + 24).toNat : Nat) : Int) - 24 = y by omega]
      exact hw
    · rw [show (((x + 24).toNat : Nat) : Int) - 24 = x by omega, show (((y + 24).toNat : Nat) : Int) - 24 = y by omega]
theorem col_count {s : ByteArray} (h : isO s = true) (x : Int) : ∀ m, ((colTo s x m).length : Int) = S m fun j => gW s x ((j : Int) - 24)
  | 0 => rfl
  | m + 1 => by
    rw [colTo, List.length_append, S_succ, ← col_count h x m, cnt_W h]
    rcases gW_zo h x ((m : Int) - 24) with e | e <;> rw [e] <;> simp
theorem cells_count' {s : ByteArray} (h : isO s = true) : ∀ m, ((cellsTo s m).length : Int) = S m fun i => S 49 fun j => gW s ((i : Int) - 24) ((j : Int) - 24)
  | 0 => rfl
  | m + 1 => by
    rw [cellsTo, List.length_append, S_succ, ← cells_count' h m, ← col_count h]
    omega
theorem Z25 (f : Int → Int) (h : f (-25) = 0) : Z 25 f = S 49 fun j => f ((j : Int) - 24) := by
  show S (49 + 1) _ = _
  rw [S_head]
  show f (((0 : Nat) : Int) - 25) + _ = _
  rw [show (((0 : Nat) : Int) - 25) = -25 from rfl, h, Int.zero_add]
  exact S_congr fun i _ => by congr 1; omega
theorem cells_count {s : ByteArray} (h : isO s = true) : ((rcl s).length : Int) = Z 25 fun x => Z 25 fun y => gW s x y := by
  unfold rcl
  rw [cells_count' h]
  have R := rim_of h
  rw [Z25 (fun x => Z 25 fun y => gW s x y) (Z_zero fun y _ _ => R.l _ _ (by omega))]
  exact S_congr fun i _ => (Z25 (fun y => gW s ((i : Int) - 24) y) (R.d _ _ (by omega))).symm
theorem col_nodup (s : ByteArray) (x : Int) : ∀ m, (colTo s x m).Nodup
  | 0 => List.nodup_nil
  | m + 1 => by
    rw [colTo, List.nodup_append]
    refine ⟨col_nodup s x m, ?_, ?_⟩
    · split <;> simp
    · intro a ha b hb
      rw [mem_col] at ha
      obtain ⟨j, hj, -, rfl⟩ := ha
      split at hb
      · rw [List.mem_singleton] at hb
        subst hb
        intro q
        injection q with q1 q2
        omega
      · cases hb
theorem cells_nodup' (s : ByteArray) : ∀ m, (cellsTo s m).Nodup
  | 0 => List.nodup_nil
  | m + 1 => by
    rw [cellsTo, List.nodup_append]
    refine ⟨cells_nodup' s m, col_nodup s _ _, ?_⟩
    intro a ha b hb
    rw [mem_cells'] at ha
    obtain ⟨i, hi, hm⟩ := ha
    rw [mem_col] at hm hb
    obtain ⟨j, hj, -, rfl⟩ := hm
    obtain ⟨j2, hj2, -, rfl⟩ := hb
    intro q
    injection q with q1 q2
    omega
theorem cells_nodup (s : ByteArray) : (rcl s).Nodup := cells_nodup' s 49
theorem cells_le {s : ByteArray} (h : isO s = true) : (rcl s).length ≤ 36 := by
  have h24 := isW_le (isO_W h)
  have hi := (loop_of h).iso (box_of h) (left_one h)
  have hc := cells_count h
  unfold gW at hc
  rw [← hc] at hi
  have : (s.size : Int) * s.size ≤ 24 * 24 := Int.mul_le_mul (by omega) (by omega) (by omega) (by omega)
  omega
attribute [irreducible] rcl
end Go.Proofs.YtpfenoioeajkmaaDoor.L
end

section
set_option linter.unusedVariables false
set_option linter.unusedSimpArgs false
namespace Go.Proofs.YtpfenoioeajkmaaDoor.L
open Go.RowKit Go.Proofs.YtpfenoioeajkmaaDoorW.PrintWords Go.Proofs.YtpfenoioeajkmaaDoorW.PrintLast Go.Proofs.YtpfenoioeajkmaaDoorW.PrintMore Go.Proofs.YtpfenoioeajkmaaDoor.X Go.Proofs.YtpfenoioeajkmaaDoor.G
theorem bytes_ext {a b : ByteArray} (hs : a.size = b.size) (h : ∀ i : Nat, i < a.size → bt a i = bt b i) : a = b := by
  rw [← strN_self a, ← strN_self b, ← hs]
  exact strN_congr fun i hi => h i hi
theorem size_even {s : ByteArray} (h : isO s = true) : s.size = s.size / 2 + s.size / 2 := by
  have := (loop_of h).even
  omega
theorem gD_rot {s : ByteArray} (h : isO s = true) {k : Nat} (hk : k < s.size) {i : Nat} (hi : i < s.size) : gD s (k + i) = cd (bt (rotF s k) i) ∧ isL (bt (rotF s k) i) := by
  have hl := ((isW_iff s).1 (isO_W h)).2
  have e : (k + i) % s.size = if i < s.size - k then k + i else i - (s.size - k) := by
    by_cases q : i < s.size - k
    · rw [if_pos q, Nat.mod_eq_of_lt (by omega)]
    · rw [if_neg q, show k + i = (i - (s.size - k)) + s.size by omega, Nat.add_mod_right, Nat.mod_eq_of_lt (by omega)]
  have hr := rot_bt s (Nat.le_of_lt hk) i hi
  rw [← e] at hr
  unfold gD
  rw [hr]
  exact ⟨rfl, hl _ (Nat.mod_lt _ (by omega))⟩
theorem back3_bt {t : ByteArray} (hw : isW t = true) {a b c h : Nat} (habc : a + b + c = h) (hh : h ≤ t.size) {i : Nat} (hi : i < h) :
    bt (backF (t.extract 0 a) ++ backF (t.extract a (a + b)) ++ backF (t.extract (a + b) h)) i = exb ruld ldru (bt t ((if i < a then a - 1 - i else if i < a + b then a + b - 1 - (i - a) else h - 1 - (i - a - b) : Nat) : Int)) := by
  have s1 : (t.extract 0 a).size = a := by rw [ByteArray.size_extract]; omega
  have s2 : (t.extract a (a + b)).size = b := by rw [ByteArray.size_extract]; omega
  have s3 : (t.extract (a + b) h).size = c := by rw [ByteArray.size_extract]; omega
  have z1 : (backF (t.extract 0 a)).size = a := by rw [back_size, s1]
  have z2 : (backF (t.extract a (a + b))).size = b := by rw [back_size, s2]
  have z3 : (backF (t.extract (a + b) h)).size = c := by rw [back_size, s3]
  have w1 := cut_W hw 0 a (by omega)
  have w2 := cut_W hw a (a + b) (by omega)
  have w3 := cut_W hw (a + b) h hh
  rw [bt_app _ _ i (by rw [ByteArray.size_append, ByteArray.size_append, z1, z2, z3]; omega), ByteArray.size_append, z1, z2]
  by_cases h1 : i < a
  · rw [if_pos (by omega), bt_app _ _ i (by rw [ByteArray.size_append, z1, z2]; omega), z1, if_pos h1, if_pos h1, back_bt w1 (by rw [s1]; exact h1), s1, bt_cut t 0 a _ (by omega) (by omega), Nat.zero_add]
  · rw [if_neg h1]
    by_cases h2 : i < a + b
    · rw [if_pos h2, if_pos h2, bt_app _ _ i (by rw [ByteArray.size_append, z1, z2]; omega), z1, if_neg h1, back_bt w2 (by rw [s2]; omega), s2, bt_cut t a (a + b) _ (by omega) (by omega), show a + (b - 1 - (i - a)) = a + b - 1 - (i - a) by omega]
    · rw [if_neg h2, if_neg h2, back_bt w3 (by rw [s3]; omega), s3, bt_cut t (a + b) h _ (by omega) hh, show a + b + (c - 1 - (i - (a + b))) = h - 1 - (i - a - b) by omega]
theorem fac_point {D : Nat → Nat} {n H a b c : Nat} (hc : a + b + c = H) (hn : n = H + H) :
    (∀ i, i < H → D (H + i) = (D (if i < a then a - 1 - i else if i < a + b then a + b - 1 - (i - a) else H - 1 - (i - a - b)) + 2) % 4) ↔ Fac n D a b c := by
  constructor
  · intro all
    refine ⟨by omega, fun d hd => ?_, fun d hd => ?_, fun d hd => ?_⟩
    · have := all d (by omega)
      rw [if_pos hd] at this
      rw [hc, this, Nat.zero_add]
    · have := all (a + d) (by omega)
      rw [if_neg (by omega), if_pos (by omega), show a + b - 1 - (a + d - a) = a + b - 1 - d by omega] at this
      rw [hc, show H + a + d = H + (a + d) by omega, this]
    · have := all (a + b + d) (by omega)
      rw [if_neg (by omega), if_neg (by omega), show H - 1 - (a + b + d - a - b) = a + b + c - 1 - d by omega] at this
      rw [hc, show H + a + b + d = H + (a + b + d) by omega, this, hc]
  · intro F i hi
    have fa := F.A
    have fb := F.B
    have fc := F.C
    rw [hc] at fa fb fc
    by_cases h1 : i < a
    · rw [if_pos h1]
      have := fa i h1
      rwa [Nat.zero_add] at this
    · rw [if_neg h1]
      by_cases h2 : i < a + b
      · rw [if_pos h2]
        have := fb (i - a) (by omega)
        rwa [show H + a + (i - a) = H + i by omega] at this
      · rw [if_neg h2]
        have := fc (i - a - b) (by omega)
        rwa [show H + a + b + (i - a - b) = H + i by omega, show a + b + c - 1 - (i - a - b) = H - 1 - (i - a - b) by omega] at this
theorem fT_fac {s : ByteArray} (h : isO s = true) {k a b : Nat} (hk : k < s.size) (hab : a + b ≤ s.size / 2) :
    fT (rotF s k) (s.size / 2) a b = true ↔ Fac s.size (fun i => gD s (k + i)) a b (s.size / 2 - a - b) := by
  have hev := size_even h
  have hw := rot_W (isO_W h) (Nat.le_of_lt hk)
  have hts := rot_size s (Nat.le_of_lt hk)
  have hg := fun {i : Nat} (hi : i < s.size) => gD_rot h hk hi
  generalize hh : s.size / 2 = H at *
  obtain ⟨c, hc⟩ : ∃ c, a + b + c = H := ⟨H - a - b, by omega⟩
  rw [show H - a - b = c by omega, ← fac_point hc hev]
  generalize rotF s k = t at *
  have hHt : H ≤ t.size := by omega
  have hsz : (t.extract H t.size).size = H := by rw [ByteArray.size_extract]; omega
  have hsz2 : (backF (t.extract 0 a) ++ backF (t.extract a (a + b)) ++ backF (t.extract (a + b) H)).size = H := by
    rw [ByteArray.size_append, ByteArray.size_append, back_size, back_size, back_size, ByteArray.size_extract, ByteArray.size_extract, ByteArray.size_extract]
    omega
  have point : ∀ i, i < H → (bt (t.extract H t.size) i = bt (backF (t.extract 0 a) ++ backF (t.extract a (a + b)) ++ backF (t.extract (a + b) H)) i ↔
      gD s (k + (H + i)) = (gD s (k + (if i < a then a - 1 - i else if i < a + b then a + b - 1 - (i - a) else H - 1 - (i - a - b))) + 2) % 4) := fun i hi => by
    have hb3 := back3_bt hw hc hHt hi
    have hq : (if i < a then a - 1 - i else if i < a + b then a + b - 1 - (i - a) else H - 1 - (i - a - b)) < s.size := by clear hb3 hg; (repeat' split) <;> omega
    generalize (if i < a then a - 1 - i else if i < a + b then a + b - 1 - (i - a) else H - 1 - (i - a - b)) = q at hb3 hq ⊢
    have hHi : H + i < s.size := by clear hb3 hg; omega
    have hHi2 : H + i < t.size := by rw [hts]; exact hHi
    obtain ⟨e1, l1⟩ := hg hHi
    obtain ⟨e2, l2⟩ := hg hq
    rw [hb3, bt_cut t H t.size i hHi2 (Nat.le_refl _), e1, e2, ← cd_back l2]
    exact ⟨fun q => by rw [q], fun q => cd_inj l1 (ex_back l2).2 q⟩
  unfold fT
  rw [decide_eq_true_eq]
  constructor
  · intro e i hi
    exact (point i hi).1 (by rw [e])
  · intro F
    refine bytes_ext (by rw [hsz, hsz2]) fun i hi => ?_
    rw [hsz] at hi
    exact (point i hi).2 (F i hi)
theorem tmod_iff (z D : Int) : Int.tmod z D = 0 ↔ D ∣ z := ⟨Int.dvd_of_tmod_eq_zero, Int.tmod_eq_zero_of_dvd⟩
theorem hits_lat {x y : Nat → Int} {v0 v1 u0 u1 D : Int} (hD : v0 * u1 - v1 * u0 = D) (h0 : D ≠ 0) (i j : Nat) : hits x y v0 v1 u0 u1 D i j = true ↔ Lat v0 v1 u0 u1 (x i - x j) (y i - y j) := by
  rw [lat_iff (by rw [hD]; exact h0), hD]
  unfold hits
  rw [Bool.and_eq_true, beq_iff_eq, beq_iff_eq, tmod_iff, tmod_iff]
theorem pt_mem {l : List (Int × Int)} {i : Nat} (hi : i < l.length) : (pX l i, pY l i) = l[i] := by
  unfold pX pY
  rw [List.getD_eq_getElem?_getD, List.getElem?_eq_getElem hi]
  rfl
theorem cell_at {s : ByteArray} (h : isO s = true) {i : Nat} (hi : i < (rcl s).length) : gW s (pX (rcl s) i) (pY (rcl s) i) = 1 := by
  rw [← mem_cells h, pt_mem hi]
  exact List.getElem_mem _
theorem cell_ne {s : ByteArray} {i j : Nat} (hi : i < (rcl s).length) (hj : j < i) : ¬ (pX (rcl s) i = pX (rcl s) j ∧ pY (rcl s) i = pY (rcl s) j) := by
  rintro ⟨a, b⟩
  have hn := cells_nodup s
  have e : (rcl s)[i] = (rcl s)[j] := by rw [← pt_mem hi, ← pt_mem (Nat.lt_trans hj hi), a, b]
  have := (List.pairwise_iff_getElem.1 hn) j i (by omega) hi hj
  exact this e.symm
theorem fac_fills {s : ByteArray} (h : isO s = true) {k a b c : Nat} (F : Fac s.size (fun i => gD s (k + i)) a b c) :
    (gX s (k + (a + b)) - gX s (k + 0)) * (gY s (k + (a + b + c)) - gY s (k + a)) - (gY s (k + (a + b)) - gY s (k + 0)) * (gX s (k + (a + b + c)) - gX s (k + a)) = (rcl s).length ∧
    ∀ x y x' y', gW s x y = 1 → gW s x' y' = 1 → Lat (gX s (k + (a + b)) - gX s (k + 0)) (gY s (k + (a + b)) - gY s (k + 0)) (gX s (k + (a + b + c)) - gX s (k + a)) (gY s (k + (a + b + c)) - gY s (k + a)) (x' - x) (y' - y) → x = x' ∧ y = y' := by
  have Lp := loop_of h
  have Ls := Lp.shift k
  have hB : Box 25 (fun i => gX s (k + i)) (fun i => gY s (k + i)) := fun i => box_of h _
  have har : (S s.size fun i => gX s (k + i) * uy (gD s (k + i))) = S s.size fun i => gX s i * uy (gD s i) := S_rot (f := fun i => gX s i * uy (gD s i)) (fun i => by rw [Lp.px, Lp.pd]) k
  have hA : 0 < S s.size fun i => (fun i => gX s (k + i)) i * uy ((fun i => gD s (k + i)) i) := by
    show 0 < S s.size fun i => gX s (k + i) * uy (gD s (k + i))
    rw [har]
    exact area_pos h
  have e := Ls.easy hB hA F
  have d := Ls.fac_area F
  refine ⟨?_, fun x y x' y' h1 h2 h3 => e x y x' y' ?_ ?_ h3⟩
  · rw [cells_count h]
    refine Eq.trans (b := S s.size fun i => gX s (k + i) * uy (gD s (k + i))) d ?_
    rw [har]
    exact (Lp.area (box_of h)).symm
  · rw [Lp.W_rot]; exact h1
  · rw [Lp.W_rot]; exact h2
theorem cells_pos {s : ByteArray} (h : isO s = true) : 0 < (rcl s).length := by
  have := area_pos h
  have e := (loop_of h).area (box_of h)
  have c := cells_count h
  unfold gW at c
  omega
end Go.Proofs.YtpfenoioeajkmaaDoor.L
end

section
namespace Go.Proofs
open Go.Shelf
def Tryd.lays189_ren : Go.Shelf.Ren := ⟨fun | 189 => 80 | 125 => 93 | 257 => 92 | 128 => 110 | 129 => 111 | 294 => 101 | 295 => 102 | 296 => 103 | 297 => 104 | 298 => 105 | 299 => 106 | 216 => 107 | 300 => 108 | 301 => 109 | 328 => 123 | 329 => 124 | 330 => 125 | 331 => 126 | 332 => 127 | 215 => 100 | 343 => 134 | n => n, fun | 28 => 98 | 3 => 3 | 46 => 28 | 0 => 0 | 51 => 130 | 53 => 132 | 4 => 4 | 183 => 123 | 182 => 122 | 131 => 74 | 5 => 5 | 9 => 9 | 218 => 139 | 222 => 143 | 228 => 154 | 229 => 58 | n => n, fun | n => n⟩
theorem Tryd.lays189 : Go.Proofs.Lays.n189 Tryd.prog Tryd.lays189_ren := {
  mixed := by kernel_rfl
  f125 := Tryd.func93.trans (congrArg some (by kernel_rfl))
  f128 := Tryd.func110.trans (congrArg some (by kernel_rfl))
  f129 := Tryd.func111.trans (congrArg some (by kernel_rfl))
  f189 := Tryd.func80.trans (congrArg some (by kernel_rfl))
  f215 := Tryd.func100.trans (congrArg some (by kernel_rfl))
  f216 := Tryd.func107.trans (congrArg some (by kernel_rfl))
  f257 := Tryd.func92.trans (congrArg some (by kernel_rfl))
  f294 := Tryd.func101.trans (congrArg some (by kernel_rfl))
  f295 := Tryd.func102.trans (congrArg some (by kernel_rfl))
  f296 := Tryd.func103.trans (congrArg some (by kernel_rfl))
  f297 := Tryd.func104.trans (congrArg some (by kernel_rfl))
  f298 := Tryd.func105.trans (congrArg some (by kernel_rfl))
  f299 := Tryd.func106.trans (congrArg some (by kernel_rfl))
  f300 := Tryd.func108.trans (congrArg some (by kernel_rfl))
  f301 := Tryd.func109.trans (congrArg some (by kernel_rfl))
  f328 := Tryd.func123.trans (congrArg some (by kernel_rfl))
  f329 := Tryd.func124.trans (congrArg some (by kernel_rfl))
  f330 := Tryd.func125.trans (congrArg some (by kernel_rfl))
  f331 := Tryd.func126.trans (congrArg some (by kernel_rfl))
  f332 := Tryd.func127.trans (congrArg some (by kernel_rfl))
  f343 := Tryd.func134.trans (congrArg some (by kernel_rfl))
  t0 := Tryd.underlying0
  a0 := Tryd.isAgg0
  z0 := Tryd.sizeOf0
  v0 := Tryd.zeroValue0
  t3 := Tryd.underlying3
  a3 := Tryd.isAgg3
  z3 := Tryd.sizeOf3
  v3 := Tryd.zeroValue3
  t4 := Tryd.underlying4
  a4 := Tryd.isAgg4
  z4 := Tryd.sizeOf4
  v4 := Tryd.zeroValue4
  t5 := Tryd.underlying5
  a5 := Tryd.isAgg5
  z5 := Tryd.sizeOf5
  v5 := Tryd.zeroValue5
  t9 := Tryd.underlying9
  a9 := Tryd.isAgg9
  z9 := Tryd.sizeOf9
  v9 := Tryd.zeroValue9
  t28 := Tryd.underlying98
  a28 := Tryd.isAgg98
  z28 := Tryd.sizeOf98
  v28 := Tryd.zeroValue98
  t46 := Tryd.underlying28
  a46 := Tryd.isAgg28
  z46 := Tryd.sizeOf28
  v46 := Tryd.zeroValue28
  t51 := Tryd.underlying130
  a51 := Tryd.isAgg130
  z51 := Tryd.sizeOf130
  v51 := Tryd.zeroValue130
  t53 := Tryd.underlying132
  a53 := Tryd.isAgg132
  z53 := Tryd.sizeOf132
  v53 := Tryd.zeroValue132
  t131 := Tryd.underlying74
  a131 := Tryd.isAgg74
  z131 := Tryd.sizeOf74
  v131 := Tryd.zeroValue74
  t182 := Tryd.underlying122
  a182 := Tryd.isAgg122
  z182 := Tryd.sizeOf122
  v182 := Tryd.zeroValue122
  t183 := Tryd.underlying123
  a183 := Tryd.isAgg123
  z183 := Tryd.sizeOf123
  v183 := Tryd.zeroValue123
  t218 := Tryd.underlying139
  a218 := Tryd.isAgg139
  z218 := Tryd.sizeOf139
  v218 := Tryd.zeroValue139
  t222 := Tryd.underlying143
  a222 := Tryd.isAgg143
  z222 := Tryd.sizeOf143
  v222 := Tryd.zeroValue143
  t228 := Tryd.underlying154
  a228 := Tryd.isAgg154
  z228 := Tryd.sizeOf154
  v228 := Tryd.zeroValue154
  t229 := Tryd.underlying58
  a229 := Tryd.isAgg58
  z229 := Tryd.sizeOf58
  v229 := Tryd.zeroValue58 }
open Go.Sort Go.RowKit in
theorem Tryd.slices_Sort_int (blk off cap : Nat) (zs : List Int) (w : World) (hH : Holds (Value.int .i64) w blk off zs.toArray) (hblk : blk < w.heap.size) (hsz : zs.length < 4611686018427387904) :
    Calls Tryd.prog 80 #[.slice (some ⟨blk, off, none⟩) zs.length cap] w fun e w' =>
      e = .returned (.tuple #[]) ∧ ∃ n os, w' = grow (putRow (Value.int .i64) (Sort.ahead w n) blk off (zs.mergeSort fun x y => decide (x ≤ y)).toArray) os := Any.slices_Sort_int Tryd.lays189 blk off cap zs w hH hblk hsz
def Tryd.sortPts_ren : Go.Shelf.Ren := ⟨fun | 6 => 81 | 15 => 93 | 14 => 94 | 28 => 110 | 29 => 111 | 20 => 112 | 21 => 113 | 22 => 114 | 23 => 115 | 24 => 116 | 25 => 117 | 26 => 118 | 27 => 119 | 46 => 128 | 47 => 124 | 48 => 125 | 49 => 129 | 50 => 130 | 57 => 135 | n => n, fun | 22 => 67 | 24 => 63 | 25 => 76 | 3 => 3 | 39 => 28 | 0 => 0 | 53 => 130 | 55 => 132 | 4 => 4 | 46 => 123 | 45 => 122 | 50 => 74 | 5 => 5 | 9 => 9 | 66 => 139 | 70 => 143 | 76 => 154 | 77 => 58 | n => n, fun | n => n⟩
theorem Tryd.sortPts : Go.Proofs.SlLaysF0.n6 Tryd.prog Tryd.sortPts_ren := {
  mixed := by kernel_rfl
  f6 := ⟨Tryd.f81.name, by decide, Tryd.func81.trans (congrArg some (by kernel_rfl))⟩
  f14 := ⟨Tryd.f94.name, by decide, Tryd.func94.trans (congrArg some (by kernel_rfl))⟩
  f15 := Tryd.func93.trans (congrArg some (by kernel_rfl))
  f20 := ⟨Tryd.f112.name, by decide, Tryd.func112.trans (congrArg some (by kernel_rfl))⟩
  f21 := ⟨Tryd.f113.name, by decide, Tryd.func113.trans (congrArg some (by kernel_rfl))⟩
  f22 := ⟨Tryd.f114.name, by decide, Tryd.func114.trans (congrArg some (by kernel_rfl))⟩
  f23 := ⟨Tryd.f115.name, by decide, Tryd.func115.trans (congrArg some (by kernel_rfl))⟩
  f24 := ⟨Tryd.f116.name, by decide, Tryd.func116.trans (congrArg some (by kernel_rfl))⟩
  f25 := ⟨Tryd.f117.name, by decide, Tryd.func117.trans (congrArg some (by kernel_rfl))⟩
  f26 := ⟨Tryd.f118.name, by decide, Tryd.func118.trans (congrArg some (by kernel_rfl))⟩
  f27 := ⟨Tryd.f119.name, by decide, Tryd.func119.trans (congrArg some (by kernel_rfl))⟩
  f28 := Tryd.func110.trans (congrArg some (by kernel_rfl))
  f29 := Tryd.func111.trans (congrArg some (by kernel_rfl))
  f46 := ⟨Tryd.f128.name, by decide, Tryd.func128.trans (congrArg some (by kernel_rfl))⟩
  f47 := Tryd.func124.trans (congrArg some (by kernel_rfl))
  f48 := Tryd.func125.trans (congrArg some (by kernel_rfl))
  f49 := ⟨Tryd.f129.name, by decide, Tryd.func129.trans (congrArg some (by kernel_rfl))⟩
  f50 := ⟨Tryd.f130.name, by decide, Tryd.func130.trans (congrArg some (by kernel_rfl))⟩
  f57 := ⟨Tryd.f135.name, by decide, Tryd.func135.trans (congrArg some (by kernel_rfl))⟩
  t0 := Tryd.underlying0
  a0 := Tryd.isAgg0
  z0 := Tryd.sizeOf0
  v0 := Tryd.zeroValue0
  t3 := Tryd.underlying3
  a3 := Tryd.isAgg3
  z3 := Tryd.sizeOf3
  v3 := Tryd.zeroValue3
  t4 := Tryd.underlying4
  a4 := Tryd.isAgg4
  z4 := Tryd.sizeOf4
  v4 := Tryd.zeroValue4
  t5 := Tryd.underlying5
  a5 := Tryd.isAgg5
  z5 := Tryd.sizeOf5
  v5 := Tryd.zeroValue5
  t9 := Tryd.underlying9
  a9 := Tryd.isAgg9
  z9 := Tryd.sizeOf9
  v9 := Tryd.zeroValue9
  t22 := Tryd.underlying67
  a22 := Tryd.isAgg67
  z22 := Tryd.sizeOf67
  v22 := Tryd.zeroValue67
  t25 := Tryd.underlying76
  a25 := Tryd.isAgg76
  z25 := Tryd.sizeOf76
  v25 := Tryd.zeroValue76
  t39 := Tryd.underlying28
  a39 := Tryd.isAgg28
  z39 := Tryd.sizeOf28
  v39 := Tryd.zeroValue28
  t45 := Tryd.underlying122
  a45 := Tryd.isAgg122
  z45 := Tryd.sizeOf122
  v45 := Tryd.zeroValue122
  t46 := Tryd.underlying123
  a46 := Tryd.isAgg123
  z46 := Tryd.sizeOf123
  v46 := Tryd.zeroValue123
  t50 := Tryd.underlying74
  a50 := Tryd.isAgg74
  z50 := Tryd.sizeOf74
  v50 := Tryd.zeroValue74
  t53 := Tryd.underlying130
  a53 := Tryd.isAgg130
  z53 := Tryd.sizeOf130
  v53 := Tryd.zeroValue130
  t55 := Tryd.underlying132
  a55 := Tryd.isAgg132
  z55 := Tryd.sizeOf132
  v55 := Tryd.zeroValue132
  t66 := Tryd.underlying139
  a66 := Tryd.isAgg139
  z66 := Tryd.sizeOf139
  v66 := Tryd.zeroValue139
  t70 := Tryd.underlying143
  a70 := Tryd.isAgg143
  z70 := Tryd.sizeOf143
  v70 := Tryd.zeroValue143
  t76 := Tryd.underlying154
  a76 := Tryd.isAgg154
  z76 := Tryd.sizeOf154
  v76 := Tryd.zeroValue154
  t77 := Tryd.underlying58
  a77 := Tryd.isAgg58
  z77 := Tryd.sizeOf58
  v77 := Tryd.zeroValue58 }
end Go.Proofs
end

section
set_option linter.unusedVariables false
set_option linter.unusedSimpArgs false
namespace Go.Proofs.YtpfenoioeajkmaaDoor.X
open Go.RowKit Go.Proofs.YtpfenoioeajkmaaDoorW.PrintWords Go.Proofs.YtpfenoioeajkmaaDoorW.PrintLast Go.Proofs.YtpfenoioeajkmaaDoorW.PrintMore Go.Proofs.YtpfenoioeajkmaaDoor.L
structure PtS (B : Nat) (s : ByteArray) (x y : Int) (wr : World) : Prop where
  p0 : wr.cell? ⟨B, 0, none⟩ = some (.int .i64 x)
  p1 : wr.cell? ⟨B, 1, none⟩ = some (.int .i64 y)
  pf : wr.frozen? ⟨B, 0, none⟩ = false
  pg : wr.frozen? ⟨B, 1, none⟩ = false
  bs : ∀ i : Nat, i < s.size → wr.cell? ⟨B + 1, i, none⟩ = some (.int .u8 (bt s i))
  sz : B + 1 < wr.heap.size
theorem frozen_of_block {w w' : World} {a : Addr} (h : w'.heap[a.block]? = w.heap[a.block]?) : w'.frozen? a = w.frozen? a := by
  unfold World.frozen?
  rw [h]
theorem PtS.keep {B : Nat} {s : ByteArray} {x y : Int} {wr w2 : World} (h : PtS B s x y wr) (h0 : w2.heap[B]? = wr.heap[B]?) (h1 : w2.heap[B + 1]? = wr.heap[B + 1]?) (hs : wr.heap.size ≤ w2.heap.size) : PtS B s x y w2 where
  p0 := (World.cell?_of_block h0).trans h.p0
  p1 := (World.cell?_of_block h0).trans h.p1
  pf := (frozen_of_block h0).trans h.pf
  pg := (frozen_of_block h0).trans h.pg
  bs := fun i hi => (World.cell?_of_block h1).trans (h.bs i hi)
  sz := Nat.lt_of_lt_of_le h.sz hs
theorem PtS.later {B : Nat} {s : ByteArray} {x y : Int} {wr w2 : World} (h : PtS B s x y wr) (hb : Below wr.heap.size wr w2) : PtS B s x y w2 :=
  h.keep (hb.block B (by have := h.sz; omega)) (hb.block (B + 1) h.sz) hb.size
theorem PtS.set {B : Nat} {s : ByteArray} {x y : Int} {wr : World} (h : PtS B s x y wr) {g i : Nat} (hg : B + 1 < g) (u : Value) : PtS B s x y (wr.setCell ⟨g, i, none⟩ u) :=
  h.keep (Below.heap_setCell _ _ _ _ (by simp; omega)) (Below.heap_setCell _ _ _ _ (by simp; omega)) (by simp)
theorem PtS.draw {B : Nat} {s : ByteArray} {x y : Int} {wr : World} (h : PtS B s x y wr) : PtS B s x y wr.drew := h.later (Below.refl _ _).drew
theorem PtS.put {B : Nat} {s : ByteArray} {x y : Int} {wr : World} (h : PtS B s x y wr) (a b : Int) : PtS B s a b ((wr.setCell ⟨B, 0, none⟩ (.int .i64 a)).setCell ⟨B, 1, none⟩ (.int .i64 b)) where
  p0 := (cell_set_off _ (by decide)).trans (cell_set_self _ h.p0)
  p1 := cell_set_self _ ((cell_set_off _ (by decide)).trans h.p1)
  pf := by simpa using h.pf
  pg := by simpa using h.pg
  bs := fun i hi => (cell_set_other _ (by simp)).trans ((cell_set_other _ (by simp)).trans (h.bs i hi))
  sz := by simpa using h.sz
def wallTo (s : ByteArray) (y : Int) : Nat → List Int
  | 0 => []
  | k + 1 => wallTo s y k ++ if sumy s k ≠ sumy s (k + 1) ∧ min (sumy s k) (sumy s (k + 1)) = y then [sumx s k] else []
theorem wallTo_len (s : ByteArray) (y : Int) : ∀ k, (wallTo s y k).length ≤ k
  | 0 => by simp [wallTo]
  | k + 1 => by
    have := wallTo_len s y k
    rw [wallTo, List.length_append]
    split <;> simp <;> omega
def RV (v : Value) : Option (DataW Value × List MemPlace) := some (.held v, [])
def nilS : DataW Value := .held (.slice none 0 0)
theorem law3 : Maps.Keyed Tryd.prog 3 := Maps.int_keyed Tryd.underlying3
structure WallS (M C : Nat) (f : Int → List Int) (n : Nat) (D : DataW Value) (val : Int → Value) (wr : World) : Prop where
  own : wr.ownsMap Tryd.prog 3 RV M n D
  at_ : ∀ y, D.atKey (.int .i64 y) nilS = .held (val y)
  row : ∀ y, wr.ownsRow C 3 1 (val y) (f y).length ((f y).map (Value.int .i64))
  off : ∀ y z, y ≠ z → (val y).ownBlock = (val z).ownBlock → (val y).ownBlock = none
  has_ : ∀ y, Maps.has D (.int .i64 y) = true → f y ≠ []
theorem own_low {C e sz n : Nat} {w : World} {v : Value} {xs : List Value} (h : w.ownsRow C e sz v n xs) : ∀ g, v.ownBlock = some g → C ≤ g ∧ g < w.heap.size := by
  intro g hg
  obtain ⟨_, ⟨h, _⟩ | ⟨b, cap, cur, h, h2, h3, _⟩⟩ := h
  · rw [h] at hg
    cases hg
  · rw [h] at hg
    injection hg with hg
    subst hg
    exact ⟨h2, (Array.getElem?_eq_some_iff.1 h3).1⟩
theorem WallS.later {M C : Nat} {f : Int → List Int} {n : Nat} {D : DataW Value} {val : Int → Value} {wr w2 : World} (h : WallS M C f n D val wr) (hb : Below wr.heap.size wr w2) : WallS M C f n D val w2 where
  own := h.own.kept (grown_of_below hb) (by simp)
  at_ := h.at_
  row := fun y => pw_own_below (h.row y) hb
  off := h.off
  has_ := h.has_
theorem WallS.set {M C : Nat} {f : Int → List Int} {n : Nat} {D : DataW Value} {val : Int → Value} {wr w2 : World} (h : WallS M C f n D val wr) {g : Nat} (hg : wr.grownBy w2 (some g)) (hM : M ≠ g) (hgC : ∀ y, (val y).ownBlock ≠ some g) : WallS M C f n D val w2 where
  own := h.own.kept hg (by simpa using hM)
  at_ := h.at_
  row := fun y => (h.row y).kept hg (.inr (hgC y))
  off := h.off
  has_ := h.has_
structure St (w : World) (s : ByteArray) (k : Nat) (x y : Int) (wr : World) : Prop where
  pt : PtS (w.heap.size + 1) s x y wr
  wl : ∃ D val, WallS w.heap.size (w.heap.size + 3) (fun y => wallTo s y k) k D val wr
  bl : Below w.heap.size w wr
  hi : w.heap.size + 3 ≤ wr.heap.size
structure StQ (w : World) (s : ByteArray) (k : Nat) (x y : Int) (g : Nat) (a b : Int) (wr : World) : Prop where
  pt : PtS (w.heap.size + 1) s x y wr
  wl : ∃ D val, WallS w.heap.size (w.heap.size + 3) (fun y => wallTo s y k) k D val wr ∧ ∀ y, (val y).ownBlock ≠ some g
  bl : Below w.heap.size w wr
  hi : w.heap.size + 3 ≤ wr.heap.size
  q0 : wr.cell? ⟨g, 0, none⟩ = some (.int .i64 a)
  q1 : wr.cell? ⟨g, 1, none⟩ = some (.int .i64 b)
  qf : wr.frozen? ⟨g, 0, none⟩ = false
  qg : wr.frozen? ⟨g, 1, none⟩ = false
  lo : w.heap.size + 2 < g
  up : g < wr.heap.size
theorem St.later {w : World} {s : ByteArray} {k : Nat} {x y : Int} {wr w2 : World} (h : St w s k x y wr) (hb : Below wr.heap.size wr w2) : St w s k x y w2 where
  pt := h.pt.later hb
  wl := let ⟨D, val, e⟩ := h.wl; ⟨D, val, e.later hb⟩
  bl := h.bl.trans (hb.mono h.bl.size)
  hi := Nat.le_trans h.hi hb.size
theorem St.draw {w : World} {s : ByteArray} {k : Nat} {x y : Int} {wr : World} (h : St w s k x y wr) : St w s k x y wr.drew := h.later (Below.refl _ _).drew
theorem StQ.later {w : World} {s : ByteArray} {k : Nat} {x y : Int} {g : Nat} {a b : Int} {wr w2 : World} (h : StQ w s k x y g a b wr) (hb : Below wr.heap.size wr w2) : StQ w s k x y g a b w2 where
  pt := h.pt.later hb
  wl := let ⟨D, val, e, f⟩ := h.wl; ⟨D, val, e.later hb, f⟩
  bl := h.bl.trans (hb.mono h.bl.size)
  hi := Nat.le_trans h.hi hb.size
  q0 := (hb.cell (p := ⟨g, 0, none⟩) h.up).trans h.q0
  q1 := (hb.cell (p := ⟨g, 1, none⟩) h.up).trans h.q1
  qf := (hb.frozen (p := ⟨g, 0, none⟩) h.up).trans h.qf
  qg := (hb.frozen (p := ⟨g, 1, none⟩) h.up).trans h.qg
  lo := h.lo
  up := Nat.lt_of_lt_of_le h.up hb.size
theorem StQ.start {w : World} {s : ByteArray} {k : Nat} {x y : Int} {g : Nat} {wr w1 : World} (h : St w s k x y wr) (hg : g = wr.heap.size) (hb : w1.heap[g]? = some (.cells #[.int .i64 0, .int .i64 0] 63 (0, 0))) (hba : Below wr.heap.size wr w1) : StQ w s k x y g 0 0 w1 where
  pt := h.pt.later hba
  wl := let ⟨D, val, e⟩ := h.wl; ⟨D, val, e.later hba, fun y q => by have := (own_low (e.row y) g q).2; omega⟩
  bl := h.bl.trans (hba.mono h.bl.size)
  hi := Nat.le_trans h.hi hba.size
  q0 := (blk_cell hb 0).trans rfl
  q1 := (blk_cell hb 1).trans rfl
  qf := blk_frozen hb 0
  qg := blk_frozen hb 1
  lo := by have := h.hi; omega
  up := (Array.getElem?_eq_some_iff.1 hb).1
theorem grown_set (w : World) (a : Addr) (u : Value) : w.grownBy (w.setCell a u) (some a.block) :=
  ⟨rfl, rfl, rfl, by simp, fun k _ hk => Below.heap_setCell _ _ _ _ (fun e => hk (by rw [e]))⟩
theorem StQ.set1 {w : World} {s : ByteArray} {k : Nat} {x y : Int} {g : Nat} {a b : Int} {wr : World} (h : StQ w s k x y g a b wr) (a' b' : Int) : StQ w s k x y g a' b' ((wr.setCell ⟨g, 0, none⟩ (.int .i64 a')).setCell ⟨g, 1, none⟩ (.int .i64 b')) where
  pt := (h.pt.set (g := g) (i := 0) (by have := h.lo; omega) _).set (g := g) (i := 1) (by have := h.lo; omega) _
  wl := let ⟨D, val, e, f⟩ := h.wl; ⟨D, val, (e.set (grown_set wr ⟨g, 0, none⟩ _) (by have := h.lo; show _ ≠ g; omega) f).set (grown_set _ ⟨g, 1, none⟩ _) (by have := h.lo; show _ ≠ g; omega) f, f⟩
  bl := (h.bl.setCell (p := ⟨g, 0, none⟩) (by have := h.lo; show _ ≤ g; omega) _).setCell (p := ⟨g, 1, none⟩) (by have := h.lo; show _ ≤ g; omega) _
  hi := by simpa using h.hi
  q0 := (cell_set_off _ (by decide)).trans (cell_set_self _ h.q0)
  q1 := cell_set_self _ ((cell_set_off _ (by decide)).trans h.q1)
  qf := by simpa using h.qf
  qg := by simpa using h.qg
  lo := h.lo
  up := by simpa using h.up
theorem St.put {w : World} {s : ByteArray} {k : Nat} {x y : Int} {wr : World} (h : St w s k x y wr) (a b : Int) : St w s k a b ((wr.setCell ⟨w.heap.size + 1, 0, none⟩ (.int .i64 a)).setCell ⟨w.heap.size + 1, 1, none⟩ (.int .i64 b)) where
  pt := h.pt.put a b
  wl := by
    obtain ⟨D, val, e⟩ := h.wl
    have f : ∀ y, (val y).ownBlock ≠ some (w.heap.size + 1) := fun y q => by have := (own_low (e.row y) _ q).1; omega
    exact ⟨D, val, (e.set (grown_set wr ⟨w.heap.size + 1, 0, none⟩ _) (by show _ ≠ w.heap.size + 1; omega) f).set (grown_set _ ⟨w.heap.size + 1, 1, none⟩ _) (by show _ ≠ w.heap.size + 1; omega) f⟩
  bl := (h.bl.setCell (p := ⟨w.heap.size + 1, 0, none⟩) (by simp) _).setCell (p := ⟨w.heap.size + 1, 1, none⟩) (by simp) _
  hi := by simpa using h.hi
theorem StQ.st {w : World} {s : ByteArray} {k : Nat} {x y : Int} {g : Nat} {a b : Int} {wr : World} (h : StQ w s k x y g a b wr) : St w s k x y wr := ⟨h.pt, let ⟨D, val, e, _⟩ := h.wl; ⟨D, val, e⟩, h.bl, h.hi⟩
theorem St.flat {w : World} {s : ByteArray} {k : Nat} {x y : Int} {wr : World} (h : St w s k x y wr) (hk : sumy s k = sumy s (k + 1)) : St w s (k + 1) x y wr := by
  refine ⟨h.pt, ?_, h.bl, h.hi⟩
  obtain ⟨D, val, e⟩ := h.wl
  have hf : (fun y => wallTo s y (k + 1)) = fun y => wallTo s y k := by
    funext z
    rw [wallTo, if_neg (fun q => q.1 hk), List.append_nil]
  rw [hf]
  exact ⟨D, val, e.own.mono (Nat.le_succ k), e.at_, e.row, e.off, e.has_⟩
section
variable {P : Program} {ops : Array Oper} {rest : List Oper} {o : Oper} {a : Act} {Q : Exit → Act → World → Prop}
theorem wpList_lookup_held (w : World) (hg : o.guard = none) (m x : Operand) (t : TypeId) (hop : o.op = .lookup t m x false) {k e : TypeId} (K : Maps.Keyed P k) (ht : P.underlying t = some (.map k e)) (hz : ∀ w, (zeroValue e).run P w = .ok (.slice none 0 0) w) {b n : Nat} {D : DataW Value}
    (hm : a.eval m = .map (some b)) (hown : w.ownsMap P k RV b n D) (key : Value) (kl : Lit) (hx : a.eval x = key) (hkey : keyOf P k key = some kl) (hK : ∀ v, D.atKey kl nilS = .held v → wpList P ops Q rest (a.put o.dst v) w) : wpList P ops Q (o :: rest) a w := by
  refine wpList_plain hg fun K' hK' => ?_
  obtain ⟨v, ps, hrun, hv⟩ := hown.lookup K ht (hz w) (R := RV) (zd := nilS) (zp := []) rfl hkey
  have e1 : D.atKey kl nilS = .held v := by
    unfold RV at hv
    injection hv with hv
    injection hv with h1 h2
    exact h1.symm
  unfold Oper.wp
  simp [execOp, hop, hm, hx, hrun, Result.andThen]
  exact hK' _ _ (hK v e1)
end
theorem WallS.put {M C : Nat} {f f' : Int → List Int} {n : Nat} {D : DataW Value} {val : Int → Value} {w0 w1 w2 : World} (h : WallS M C f n D val w0) {y X : Int} {v1 : Value} (hn : ∀ z, f' z = if z = y then f y ++ [X] else f z) (hMC : M < C)
    (hr : w1.ownsRow C 3 1 v1 ((f y).length + 1) ((f y).map (Value.int .i64) ++ [.int .i64 X])) (hg : w0.grownBy w1 (val y).ownBlock) (hl : v1.ownBlock = (val y).ownBlock ∨ v1.ownBlock = some w0.heap.size) (hwf : WideAt.IsKeyLit (.int .i64 y))
    (hown : w2.ownsMap Tryd.prog 3 RV M (n + 1) (D.put (.int .i64 y) (.held v1))) (hg2 : w1.grownBy w2 (some M)) : WallS M C f' (n + 1) (D.put (.int .i64 y) (.held v1)) (fun z => if z = y then v1 else val z) w2 where
  own := hown
  at_ z := by
    by_cases e : z = y
    · subst e
      rw [if_pos rfl]
      exact Maps.atKey_put_same (Maps.Tidy.isMap (h.own.tidy law3)) hwf _ _
    · rw [if_neg e, Maps.atKey_put_other (by intro q; injection q with _ q; exact e q)]
      exact h.at_ z
  row z := by
    have offM : ∀ {v : Value} {m : Nat} {xs : List Value} {w : World}, w.ownsRow C 3 1 v m xs → v.ownBlock ≠ some M := fun ho q => by have := (own_low ho _ q).1; omega
    by_cases e : z = y
    · subst e
      have e1 := hn z
      rw [if_pos rfl] at e1
      show w2.ownsRow C 3 1 (if z = z then v1 else val z) _ _
      rw [if_pos rfl, e1, List.length_append, List.map_append]
      exact hr.kept hg2 (.inr (offM hr))
    · have e1 := hn z
      rw [if_neg e] at e1
      show w2.ownsRow C 3 1 (if z = y then v1 else val z) _ _
      rw [if_neg e, e1]
      have r1 := (h.row z).kept hg (by
        by_cases q : (val z).ownBlock = (val y).ownBlock
        · exact .inl (h.off z y e q)
        · exact .inr q)
      exact r1.kept hg2 (.inr (offM r1))
  off z z' hne := by
    have key : ∀ z, z ≠ y → v1.ownBlock = (val z).ownBlock → v1.ownBlock = none := fun z hz q => by
      rcases hl with hl | hl
      · rw [hl] at q ⊢
        exact h.off y z (fun e => hz e.symm) q
      · rw [hl] at q
        have := (own_low (h.row z) _ q.symm).2
        omega
    show (if z = y then v1 else val z).ownBlock = (if z' = y then v1 else val z').ownBlock → (if z = y then v1 else val z).ownBlock = none
    by_cases e : z = y
    · rw [if_pos e]
      by_cases e' : z' = y
      · exact absurd (e.trans e'.symm) hne
      · rw [if_neg e']
        exact key z' e'
    · rw [if_neg e]
      by_cases e' : z' = y
      · rw [if_pos e']
        intro q
        rw [q]
        exact key z e q.symm
      · rw [if_neg e']
        exact h.off z z' hne
  has_ z hz := by
    rw [hn z]
    by_cases e : z = y
    · rw [if_pos e]
      simp
    · rw [if_neg e]
      rw [Maps.has_put_other (by intro q; injection q with _ q; exact e q)] at hz
      exact h.has_ z hz
theorem grown_cell {w w' : World} {row : Option Nat} (hg : w.grownBy w' row) {b : Nat} (hb : b < w.heap.size) (hne : some b ≠ row) : w'.heap[b]? = w.heap[b]? := hg.block b hb hne
theorem StQ.wall {w : World} {s : ByteArray} {k : Nat} {x y : Int} {g : Nat} {a b : Int} {w5 w6 w8 w9 : World} {D : DataW Value} {val : Int → Value} {r : Int} {v1 : Value} (h : StQ w s k x y g a b w5) (e : WallS w.heap.size (w.heap.size + 3) (fun y => wallTo s y k) k D val w5) (f : ∀ y, (val y).ownBlock ≠ some g)
    (hk : sumy s k ≠ sumy s (k + 1)) (hr : min (sumy s k) (sumy s (k + 1)) = r) (hx : sumx s k = x) (hb6 : Below w5.heap.size w5 w6)
    (ho : w8.ownsRow (w.heap.size + 3) 3 1 v1 ((wallTo s r k).length + 1) ((wallTo s r k).map (Value.int .i64) ++ [.int .i64 x])) (hg : w6.grownBy w8 (val r).ownBlock) (hl : v1.ownBlock = (val r).ownBlock ∨ v1.ownBlock = some w6.heap.size) (hwf : WideAt.IsKeyLit (.int .i64 r))
    (hown : w9.ownsMap Tryd.prog 3 RV w.heap.size (k + 1) (D.put (.int .i64 r) (.held v1))) (hg9 : w8.grownBy w9 (some w.heap.size)) : StQ w s (k + 1) x y g a b w9 := by
  have h6 := h.later hb6
  have e6 := e.later hb6
  have low := own_low (e6.row r)
  have keep : ∀ {c}, c < w6.heap.size → c ≠ w.heap.size → (val r).ownBlock ≠ some c → w9.heap[c]? = w6.heap[c]? := fun {c} h1 h2 h3 => (grown_cell hg9 (Nat.lt_of_lt_of_le h1 hg.size) (by simpa using h2)).trans (grown_cell hg h1 (fun q => h3 q.symm))
  have no : ∀ {c}, c < w.heap.size + 3 → (val r).ownBlock ≠ some c := fun {c} h1 q => by have := (low c q).1; omega
  have hi := h6.hi
  have hup := h6.up
  have hlo := h6.lo
  have kg := keep hup (by omega) (f r)
  refine ⟨h6.pt.keep (keep (by omega) (by omega) (no (by omega))) (keep (by omega) (by omega) (no (by omega))) (Nat.le_trans hg.size hg9.size), ⟨_, _, e6.put (f' := fun y => wallTo s y (k + 1)) (y := r) (X := x) (fun z => ?_) (by omega) ho hg hl hwf hown hg9, fun z => ?_⟩, ?_, Nat.le_trans hi (Nat.le_trans hg.size hg9.size), (World.cell?_of_block kg).trans h6.q0, (World.cell?_of_block kg).trans h6.q1, (frozen_of_block kg).trans h6.qf, (frozen_of_block kg).trans h6.qg, hlo, Nat.lt_of_lt_of_le hup (Nat.le_trans hg.size hg9.size)⟩
  · show wallTo s z (k + 1) = if z = r then wallTo s r k ++ [x] else wallTo s z k
    rw [wallTo, hr, hx]
    by_cases q : z = r
    · rw [if_pos ⟨hk, q.symm⟩, if_pos q, q]
    · rw [if_neg (fun c => q c.2.symm), if_neg q, List.append_nil]
  · show (if z = r then v1 else val z).ownBlock ≠ some g
    by_cases q : z = r
    · rw [if_pos q]
      rcases hl with hl | hl
      · rw [hl]; exact f r
      · rw [hl]; intro c; injection c with c; omega
    · rw [if_neg q]; exact f z
  · have b8 : Below w.heap.size w w8 := h6.bl.grown hg h6.bl.size (fun c hc => by have := (low c hc).1; omega)
    exact b8.grown hg9 b8.size (fun c hc => by injection hc with hc; omega)
end Go.Proofs.YtpfenoioeajkmaaDoor.X
end

section
set_option linter.unusedVariables false
set_option linter.unusedSimpArgs false
namespace Go.Proofs.YtpfenoioeajkmaaDoor.X
open Go.RowKit Go.Proofs.YtpfenoioeajkmaaDoorW.PrintWords Go.Proofs.YtpfenoioeajkmaaDoorW.PrintLast Go.Proofs.YtpfenoioeajkmaaDoorW.PrintMore Go.Proofs.YtpfenoioeajkmaaDoor.L
theorem put_heap {α : Type} [Inhabited α] (enc : α → Value) (w : World) (m g : Nat) (d : Array α) (os : Array Obj) {cur : Array Value} {e : TypeId} (hb : w.heap[g]? = some (.cells cur e (0, 0))) (hd : d.size ≤ cur.size) :
    (∃ cur', (Go.Sort.grow (Go.Sort.putRow enc (Go.Sort.ahead w m) g 0 d) os).heap[g]? = some (.cells cur' e (0, 0)) ∧ cur'.size = cur.size ∧ cur'.toList.take d.size = d.toList.map enc) ∧
      w.grownBy (Go.Sort.grow (Go.Sort.putRow enc (Go.Sort.ahead w m) g 0 d) os) (some g) := by
  have hg := (Array.getElem?_eq_some_iff.1 hb).1
  have hs : (Go.Sort.putRow enc (Go.Sort.ahead w m) g 0 d).heap.size = w.heap.size := by
    unfold Go.Sort.putRow Go.Sort.mapBlock Go.Sort.ahead
    simp
  refine ⟨⟨Go.Sort.putCells enc 0 d cur, ?_, ?_, ?_⟩, ⟨rfl, rfl, rfl, ?_, ?_⟩⟩
  · unfold Go.Sort.grow
    rw [Array.getElem?_append_left (by rw [hs]; exact hg)]
    unfold Go.Sort.putRow Go.Sort.mapBlock Go.Sort.ahead
    rw [Array.getElem?_modify, if_pos rfl, hb]
    rfl
  · unfold Go.Sort.putCells; simp
  · apply List.ext_getElem
    · unfold Go.Sort.putCells; simp; omega
    · intro i h1 h2
      have hi : i < d.size := by simpa using h2
      unfold Go.Sort.putCells
      simp only [List.getElem_take, Array.getElem_toList, Array.getElem_mapIdx, List.getElem_map, Nat.zero_le, Nat.zero_add, true_and, Nat.sub_zero, if_pos hi]
      rw [getElem!_pos d i hi]
  · unfold Go.Sort.grow
    simp only [Array.size_append]
    rw [hs]
    omega
  · intro k hk hne
    have hne' : g ≠ k := fun e => hne (by rw [e])
    unfold Go.Sort.grow
    rw [Array.getElem?_append_left (by rw [hs]; exact hk)]
    unfold Go.Sort.putRow Go.Sort.mapBlock Go.Sort.ahead
    rw [Array.getElem?_modify, if_neg hne']
theorem own_block {C e sz n : Nat} {w : World} {v : Value} {xs : List Value} (h : w.ownsRow C e sz v n xs) (h0 : 0 < n) :
    ∃ g cap cur, v = .slice (some ⟨g, 0, none⟩) n cap ∧ C ≤ g ∧ w.heap[g]? = some (.cells cur e (0, 0)) ∧ n ≤ cap ∧ cap ≤ maxLen ∧ cur.size = cap * sz ∧ cur.toList.take (n * sz) = xs := by
  obtain ⟨_, ⟨_, q⟩ | h⟩ := h
  · omega
  · exact h
theorem sort_row {C : Nat} {w : World} {v : Value} {l : List Int} (h : w.ownsRow C 3 1 v l.length (l.map (Value.int .i64))) (h0 : 0 < l.length) (hl : l.length < 4611686018427387904) :
    Calls Tryd.prog 80 #[v] w fun e w' => e = .returned (.tuple #[]) ∧ w'.ownsRow C 3 1 v l.length ((l.mergeSort fun x y => decide (x ≤ y)).map (Value.int .i64)) ∧ w.grownBy w' v.ownBlock := by
  obtain ⟨g, cap, cur, rfl, hC, hb, hn, hm, hs, ht⟩ := own_block h h0
  rw [Nat.mul_one] at hs ht
  have hH : Go.Sort.Holds (Value.int .i64) w g 0 l.toArray := fun j hj => by
    have hj' : j < l.length := by simpa using hj
    have e : (cur.toList.take l.length)[j]? = some (.int .i64 l[j]) := by rw [ht]; simp [hj']
    rw [List.getElem?_take, if_pos hj'] at e
    have e' : cur[j]? = some (.int .i64 l[j]) := by simpa using e
    rw [Nat.zero_add]
    refine ⟨?_, ?_⟩
    · rw [getElem!_pos l.toArray j hj]
      have : w.cell? ⟨g, j, none⟩ = some (.int .i64 l[j]) := by
        unfold World.cell?
        simp only [hb]
        simpa using e'
      simpa using this
    · exact blk_frozen hb j
  refine (Tryd.slices_Sort_int g 0 cap l w hH (Array.getElem?_eq_some_iff.1 hb).1 hl).mono ?_
  rintro e w' ⟨rfl, m, os, rfl⟩
  have hz : (l.mergeSort fun x y => decide (x ≤ y)).toArray.size = l.length := by simp
  obtain ⟨⟨cur', c1, c2, c3⟩, hg⟩ := put_heap (Value.int .i64) w m g (l.mergeSort fun x y => decide (x ≤ y)).toArray os hb (by rw [hz]; omega)
  refine ⟨rfl, ⟨by simp, .inr ⟨g, cap, cur', rfl, hC, c1, hn, hm, by omega, ?_⟩⟩, hg⟩
  rw [hz] at c3
  rw [Nat.mul_one, c3]
def encP (p : Int × Int) : List Value := [.int .i64 p.1, .int .i64 p.2]
end Go.Proofs.YtpfenoioeajkmaaDoor.X
end

section
set_option linter.unusedVariables false
set_option linter.unusedSimpArgs false
namespace Go.Proofs.YtpfenoioeajkmaaDoor.X
open Go.RowKit Go.Proofs.YtpfenoioeajkmaaDoorW.PrintWords Go.Proofs.YtpfenoioeajkmaaDoorW.PrintLast Go.Proofs.YtpfenoioeajkmaaDoorW.PrintMore Go.Proofs.YtpfenoioeajkmaaDoor.L
set_option maxHeartbeats 2000000 in
set_option maxRecDepth 100000 in
theorem compare_grown (a b c d : Int) (w : World) : Calls Tryd.prog 67 #[ptV a b, ptV c d] w fun e w' => e = .returned (.int .i64 (cmpP a b c d)) ∧ ∃ q os', w' = Go.Sort.grow (w.drewN q) os' := by
  unfold ptV
  go_enter Tryd.func67, Tryd.ntmps67
  go_wp2_with fail
  have h0 : ((w.alloc (.cells #[.int .i64 a, .int .i64 b] 63)).alloc (.cells #[.int .i64 c, .int .i64 d] 63)).drew.cell? ⟨w.heap.size, 0, none⟩ = some (.int .i64 a) := by simp
  have h1 : ((w.alloc (.cells #[.int .i64 a, .int .i64 b] 63)).alloc (.cells #[.int .i64 c, .int .i64 d] 63)).drew.cell? ⟨w.heap.size, 1, none⟩ = some (.int .i64 b) := by simp
  have h2 : ((w.alloc (.cells #[.int .i64 a, .int .i64 b] 63)).alloc (.cells #[.int .i64 c, .int .i64 d] 63)).drew.cell? ⟨w.heap.size + 1, 0, none⟩ = some (.int .i64 c) := by simp
  have h3 : ((w.alloc (.cells #[.int .i64 a, .int .i64 b] 63)).alloc (.cells #[.int .i64 c, .int .i64 d] 63)).drew.cell? ⟨w.heap.size + 1, 1, none⟩ = some (.int .i64 d) := by simp
  have HB := Lib.hid ((below_one (w := w) (.cells #[.int .i64 a, .int .i64 b] 63)).alloc (by simp) (.cells #[.int .i64 c, .int .i64 d] 63)).drew
  have HC0 := Lib.hid (pair_C _ _ a b h0 h1)
  have HC1 := Lib.hid (pair_C _ _ c d h2 h3)
  clear h0 h1 h2 h3
  refine start_ (n := 4) (S := fun w' => True) (ds := []) #[false, false, false, false] (by kernel_rfl) rfl rfl trivial (fun hHeld => ?_)
  refine pure_ (i := 0) (N := (some 5)) (v := ?_) (a' := ?_) #[true, false, false, false] rfl rfl (by kernel_rfl) (fun _ _ _ h => h) (Or.inl ⟨by rfl, ?_⟩) ?_ ?_
  rotate_left
  · intro w'; go_simp; first | done | with_reducible rfl
  rotate_left
  · simp only [Act.put, List.setIfInBounds_toArray, List.set_cons_zero, List.set_cons_succ, i64_w, i32_w]; rfl
  refine pure_ (i := 1) (N := (some 6)) (v := ?_) (a' := ?_) #[true, true, false, false] rfl rfl (by kernel_rfl) (fun _ _ _ h => h) (Or.inl ⟨by rfl, ?_⟩) ?_ ?_
  rotate_left
  · intro w'; go_simp; first | done | with_reducible rfl
  rotate_left
  · simp only [Act.put, List.setIfInBounds_toArray, List.set_cons_zero, List.set_cons_succ, i64_w, i32_w]; rfl
  refine one_ (i := 2) (N := (some 7)) #[true, true, true, false] rfl rfl (by kernel_rfl) (by decide) (fun K hK => ?_)
  refine goes_ Tryd.func78 (by kernel_rfl) rfl #[.slice (some ⟨w.heap.size, 0, none⟩) 2 2, .slice (some ⟨w.heap.size + 1, 0, none⟩) 2 2] (by rfl) rfl rfl (by (try simp only [List.map_toArray, List.map_cons, List.map_nil]); first | done | rfl) ?_
  refine (PC.slices_Compare_int_int.calls 3 _ 2 [a, b] _ 2 [c, d] _ _ HC0.out (Nat.le_refl 2) HC1.out (Nat.le_refl 2) (compare_f a b c d)).mono ?_
  rintro e w2 ⟨rfl, nd, rfl⟩
  refine ⟨_, rfl, ?_⟩
  refine hK.out _ _ trivial (fun hHeld => ?_)
  clear hK K
  refine norm_ (a' := ?_) ?_ ?_
  rotate_left
  · show Act.put _ (some 7) _ = _; simp only [Act.put, List.setIfInBounds_toArray, List.set_cons_zero, List.set_cons_succ, i64_w, i32_w]; rfl
  refine pure_ (i := 3) (N := (some 4)) (v := ?_) (a' := ?_) #[true, true, true, true] rfl rfl (by kernel_rfl) (fun _ _ _ h => h) (Or.inl ⟨by rfl, ?_⟩) ?_ ?_
  rotate_left
  · intro w'; go_simp; first | done | with_reducible rfl
  rotate_left
  · simp only [Act.put, List.setIfInBounds_toArray, List.set_cons_zero, List.set_cons_succ, i64_w, i32_w]; rfl
  refine done_ (by kernel_rfl) ?_
  go_wp2
  go_ret
  refine ⟨rfl, 1 + nd, #[.cells #[.int .i64 a, .int .i64 b] 63, .cells #[.int .i64 c, .int .i64 d] 63], ?_⟩
  unfold Go.Sort.grow World.drewN World.drew World.alloc
  simp only [World.mk.injEq, Nat.add_assoc, and_true, true_and]
  apply Array.ext'
  simp
theorem cmpLays (blk off size : Nat) (w : World) : CmpLays Tryd.prog 67 #[] encP 2 (fun p q : Int × Int => cmpP p.1 p.2 q.1 q.2) blk off size w :=
  fun _ _ _ _ x y => compare_grown x.1 x.2 y.1 y.2 _
def ltP (p q : Int × Int) : Bool := decide (p.1 < q.1 ∨ (p.1 = q.1 ∧ p.2 < q.2))
theorem ltOf_P (p q : Int × Int) : ltOf (fun p q : Int × Int => cmpP p.1 p.2 q.1 q.2) p q = ltP p q := by
  unfold ltOf ltP
  have := cmpP_iff p.1 p.2 q.1 q.2
  by_cases h : p.1 < q.1 ∨ (p.1 = q.1 ∧ p.2 < q.2)
  · rw [decide_eq_true h, decide_eq_true (this.2 h)]
  · rw [decide_eq_false h, decide_eq_false (fun c => h (this.1 c))]
theorem swoP : Go.Sort.SWO (ltOf fun p q : Int × Int => cmpP p.1 p.2 q.1 q.2) where
  irrefl x := by rw [ltOf_P]; unfold ltP; simp
  trans x y z h1 h2 := by rw [ltOf_P] at *; unfold ltP at *; simp only [decide_eq_true_eq] at *; omega
  ntrans x y z h1 h2 := by rw [ltOf_P] at *; unfold ltP at *; simp only [decide_eq_false_iff_not] at *; omega
end Go.Proofs.YtpfenoioeajkmaaDoor.X
end

section
set_option linter.unusedVariables false
set_option linter.unusedSimpArgs false
namespace Go.Proofs.YtpfenoioeajkmaaDoor.X
open Go.RowKit Go.Proofs.YtpfenoioeajkmaaDoorW.PrintWords Go.Proofs.YtpfenoioeajkmaaDoorW.PrintLast Go.Proofs.YtpfenoioeajkmaaDoorW.PrintMore Go.Proofs.YtpfenoioeajkmaaDoor.L
theorem flatP_len : ∀ l : List (Int × Int), (flatP l).length = l.length * 2
  | [] => rfl
  | p :: l => by rw [flatP, List.length_append, flatP_len l]; simp; omega
theorem flatP_get : ∀ (l : List (Int × Int)) (t : Nat), t < l.length * 2 → (flatP l)[t]? = some (encP (l.getD (t / 2) (0, 0)))[t % 2]!
  | [], t, h => by simp at h
  | p :: l, 0, h => rfl
  | p :: l, 1, h => rfl
  | p :: l, t + 2, h => by
    have ih := flatP_get l t (by simp at h; omega)
    show ([.int .i64 p.1, .int .i64 p.2] ++ flatP l)[t + 2]? = _
    rw [List.getElem?_append_right (by simp)]
    show (flatP l)[t + 2 - 2]? = _
    rw [Nat.add_sub_cancel, ih, show (t + 2) / 2 = t / 2 + 1 by omega, show (t + 2) % 2 = t % 2 by omega]
    rfl
theorem flatK_P (d : Array (Int × Int)) : (Go.Sort.flatK encP 2 d).toList = flatP d.toList := by
  apply List.ext_getElem?
  intro t
  by_cases h : t < d.size * 2
  · have h1 : t < (Go.Sort.flatK encP 2 d).size := by rw [Go.Sort.size_flatK]; exact h
    rw [flatP_get d.toList t (by simpa using h)]
    have := Go.Sort.get_flatK encP 2 d t h
    rw [getElem!_pos _ t h1] at this
    rw [Array.getElem?_toList, Array.getElem?_eq_getElem h1, this]
    have h2 : t / 2 < d.size := by omega
    rw [getElem!_pos d (t / 2) h2]
    simp [h2]
  · rw [List.getElem?_eq_none (by simp; omega), List.getElem?_eq_none (by rw [flatP_len]; simp; omega)]
theorem sort_pts {C : Nat} {w : World} {v : Value} {l : List (Int × Int)} (h : OwnP C 63 w v l) (h0 : 0 < l.length) (hl : l.length < 4611686018427387904) :
    Calls Tryd.prog 81 #[v, .func (.func 67) #[] #[]] w fun e w' => e = .returned (.tuple #[]) ∧ ∃ l', l'.Perm l ∧ l'.Pairwise (fun p q => ltP q p = false) ∧ OwnP C 63 w' v l' ∧ w.grownBy w' v.ownBlock := by
  unfold OwnP at h
  obtain ⟨g, cap, cur, rfl, hC, hb, hn, hm, hs, ht⟩ := own_block h h0
  have hflat : (Go.Sort.flatK encP 2 l.toArray).toList = flatP l := flatK_P _
  have hH : Go.Sort.HoldsK encP 2 w g 0 l.toArray := fun j hj => by
    have hj2 : j < l.length * 2 := by simpa using hj
    rw [Nat.zero_add]
    refine ⟨?_, blk_frozen hb j⟩
    have e : (cur.toList.take (l.length * 2))[j]? = (Go.Sort.flatK encP 2 l.toArray).toList[j]? := by rw [ht, hflat]
    rw [List.getElem?_take, if_pos hj2, Array.getElem?_toList, Array.getElem?_toList, Array.getElem?_eq_getElem hj] at e
    rw [getElem!_pos _ j hj]
    unfold World.cell?
    simp only [hb]
    simpa using e
  have eg : ∀ args w, (callFunc 67 args).run Tryd.prog w = .ok (.enter 67 args) w := enters_of Tryd.func67 (by kernel_rfl) rfl
  have hcon := AnyQ.slices_SortFunc Tryd.sortPts 2 Tryd.isAgg63 Tryd.sizeOf63 encP (fun _ => rfl) (fun x v hv => by simp [encP] at hv; rcases hv with rfl | rfl <;> rfl) (fun p q : Int × Int => cmpP p.1 p.2 q.1 q.2) swoP 67 #[] g 0 cap l.toArray w eg (cmpLays g 0 _ w) hH (Array.getElem?_eq_some_iff.1 hb).1 (by simpa using hl)
  change Calls Tryd.prog 81 _ _ _ at hcon
  have hz : l.toArray.size = l.length := by simp
  rw [hz] at hcon
  refine hcon.mono ?_
  rintro e w' ⟨rfl, d', m, os, hp, hsrt, rfl⟩
  obtain ⟨p1, -, p3⟩ := hp
  rw [hz] at p1
  have hp3 : d'.toList.Perm l := by
    rw [← p1] at p3
    rw [Array.extract_size] at p3
    rw [p1, ← hz, Array.extract_size] at p3
    exact p3
  have hk : (Go.Sort.flatK encP 2 d').size = l.length * 2 := by rw [Go.Sort.size_flatK, p1]
  obtain ⟨⟨cur', c1, c2, c3⟩, hg⟩ := put_heap id w m g (Go.Sort.flatK encP 2 d') os hb (by rw [hk, hs]; exact Nat.mul_le_mul_right 2 hn)
  have hlen : d'.toList.length = l.length := by simpa using p1
  refine ⟨rfl, d'.toList, hp3, ?_, ⟨by rw [flatP_len], .inr ⟨g, cap, cur', by rw [hlen], hC, c1, by omega, hm, by rw [c2, hs], ?_⟩⟩, hg⟩
  · rw [List.pairwise_iff_getElem]
    intro i j hi hj hij
    have := hsrt i j (Nat.zero_le _) hij (by simpa [p1] using hj)
    rw [ltOf_P] at this
    rw [getElem!_pos d' j (by simpa using hj), getElem!_pos d' i (by simpa using hi)] at this
    simpa using this
  · rw [hk] at c3
    rw [hlen, c3, List.map_id, flatK_P]
end Go.Proofs.YtpfenoioeajkmaaDoor.X
end

section
set_option linter.unusedVariables false
set_option linter.unusedSimpArgs false
namespace Go.Proofs.YtpfenoioeajkmaaDoor.X
open Go.RowKit Go.Proofs.YtpfenoioeajkmaaDoorW.PrintWords Go.Proofs.YtpfenoioeajkmaaDoorW.PrintLast Go.Proofs.YtpfenoioeajkmaaDoorW.PrintMore Go.Proofs.YtpfenoioeajkmaaDoor.L
def spanTo (y a : Int) : Nat → List (Int × Int)
  | 0 => []
  | m + 1 => spanTo y a m ++ [(a + m, y)]
def rowTo (y : Int) (l : List Int) : Nat → List (Int × Int)
  | 0 => []
  | j + 1 => rowTo y l j ++ spanTo y (l.getD (2 * j) 0) (l.getD (2 * j + 1) 0 - l.getD (2 * j) 0).toNat
def srt (l : List Int) : List Int := l.mergeSort fun x y => decide (x ≤ y)
def rowAll (f : Int → List Int) (y : Int) : List (Int × Int) := rowTo y (srt (f y)) ((f y).length / 2)
def outOf (f : Int → List Int) (vis : List Int) : List (Int × Int) := vis.flatMap (rowAll f)
theorem outOf_snoc (f : Int → List Int) (vis : List Int) (y : Int) : outOf f (vis ++ [y]) = outOf f vis ++ rowAll f y := by
  unfold outOf
  rw [List.flatMap_append]
  simp
theorem srt_len (l : List Int) : (srt l).length = l.length := by unfold srt; exact List.length_mergeSort _
theorem srt_mem (l : List Int) (x : Int) : x ∈ srt l ↔ x ∈ l := by unfold srt; exact (List.mergeSort_perm _ _).mem_iff
theorem spanTo_len (y a : Int) : ∀ m, (spanTo y a m).length = m
  | 0 => rfl
  | m + 1 => by rw [spanTo, List.length_append, spanTo_len y a m]; rfl
theorem rowTo_len {y : Int} {l : List Int} (hl : ∀ x ∈ l, -24 ≤ x ∧ x ≤ 24) : ∀ j, 2 * j ≤ l.length → (rowTo y l j).length ≤ j * 48
  | 0, _ => by simp [rowTo]
  | j + 1, h => by
    have ih := rowTo_len hl (y := y) j (by omega)
    have a := hl (l.getD (2 * j) 0) (by rw [List.getD_eq_getElem?_getD, List.getElem?_eq_getElem (by omega)]; exact List.getElem_mem _)
    have b := hl (l.getD (2 * j + 1) 0) (by rw [List.getD_eq_getElem?_getD, List.getElem?_eq_getElem (by omega)]; exact List.getElem_mem _)
    rw [rowTo, List.length_append, spanTo_len]
    omega
theorem rowAll_len {f : Int → List Int} {y : Int} {n : Nat} (hl : ∀ x ∈ f y, -24 ≤ x ∧ x ≤ 24) (hn : (f y).length ≤ n) : (rowAll f y).length ≤ n * 48 := by
  unfold rowAll
  have := rowTo_len (y := y) (l := srt (f y)) (fun x hx => hl x ((srt_mem _ _).1 hx)) ((f y).length / 2) (by rw [srt_len]; omega)
  omega
theorem outOf_len {f : Int → List Int} {n : Nat} (hl : ∀ y, ∀ x ∈ f y, -24 ≤ x ∧ x ≤ 24) (hn : ∀ y, (f y).length ≤ n) : ∀ vis : List Int, (outOf f vis).length ≤ vis.length * (n * 48)
  | [] => by simp [outOf]
  | y :: vis => by
    have ih := outOf_len hl hn vis
    have := rowAll_len (hl y) (hn y)
    show (rowAll f y ++ outOf f vis).length ≤ (vis.length + 1) * (n * 48)
    rw [List.length_append, Nat.add_mul]
    omega
theorem ranges_le {w : World} {P : Program} {k : TypeId} {R : Value → Option (DataW Value × List MemPlace)} {b r n : Nat} {D : DataW Value} {left : Lit → Bool} {cnt : Nat} (h : w.ranges P k R b r n D left cnt) : cnt ≤ n := by
  obtain ⟨es, clock, since, seen, c0, h1, h2, h3, h4, h5, h6, h7, -⟩ := h
  rw [← h7]
  unfold leftOf
  exact Nat.le_trans (Array.size_filter_le ..) h3
structure RgS (w : World) (C2 : Nat) (f : Int → List Int) (D : DataW Value) (val : Int → Value) (n rB : Nat) (vis : List Int) (left : Lit → Bool) (cnt : Nat) (v : Value) (wr : World) : Prop where
  rg : wr.ranges Tryd.prog 3 RV w.heap.size rB n D left cnt
  lf : ∀ y, left (.int .i64 y) = (Maps.has D (.int .i64 y) && !vis.contains y)
  ne : ∀ y ∈ vis, f y ≠ []
  nd : vis.Nodup
  cv : vis.length + cnt ≤ n
  row : ∀ y, y ∉ vis → wr.ownsRow (w.heap.size + 3) 3 1 (val y) (f y).length ((f y).map (Value.int .i64))
  lo : ∀ y g, (val y).ownBlock = some g → w.heap.size + 3 ≤ g ∧ g < C2
  out : OwnP (C2 + 1) 63 wr v (outOf f vis)
  bl : Below w.heap.size w wr
  hi : C2 + 1 ≤ wr.heap.size
theorem RgS.start {w wa w0 : World} {f : Int → List Int} {n : Nat} {D : DataW Value} {val : Int → Value} (h : WallS w.heap.size (w.heap.size + 3) f n D val wa) (hb : Below w.heap.size w wa) (hi : w.heap.size + 3 ≤ wa.heap.size)
    (hrg : w0.ranges Tryd.prog 3 RV w.heap.size wa.heap.size n D (Maps.has D) (Maps.size D)) (hg : wa.grownBy w0 none) (hs : w0.heap.size = wa.heap.size + 1) :
    RgS w wa.heap.size f D val n wa.heap.size [] (Maps.has D) (Maps.size D) (.slice none 0 0) w0 where
  rg := hrg
  lf y := by simp
  ne y hy := by cases hy
  nd := List.nodup_nil
  cv := by have := ranges_le hrg; simpa using this
  row y _ := (h.row y).kept hg (Classical.em _)
  lo y g hg2 := own_low (h.row y) g hg2
  out := World.ownsRow_nil _ _ _ _
  bl := hb.grown hg hb.size (fun j hj => by cases hj)
  hi := by omega
end Go.Proofs.YtpfenoioeajkmaaDoor.X
end

section
set_option linter.unusedVariables false
set_option linter.unusedSimpArgs false
namespace Go.Proofs.YtpfenoioeajkmaaDoor.X
open Go.RowKit Go.Proofs.YtpfenoioeajkmaaDoorW.PrintWords Go.Proofs.YtpfenoioeajkmaaDoorW.PrintLast Go.Proofs.YtpfenoioeajkmaaDoorW.PrintMore Go.Proofs.YtpfenoioeajkmaaDoor.L
theorem same_int (x z : Int) : Lit.sameKey (.int .i64 z) (.int .i64 x) = decide (z = x) := by
  by_cases h : z = x
  · subst h
    simp [Lit.sameKey]
  · rw [Maps.sameKey_ne (fun q => by injection q with _ q; exact h q)]
    simp [h]
theorem wallTo_in {s : ByteArray} (h : s.size ≤ 24) (y : Int) : ∀ k, k ≤ s.size → ∀ x ∈ wallTo s y k, -24 ≤ x ∧ x ≤ 24
  | 0, _, x, hx => by simp [wallTo] at hx
  | k + 1, hk, x, hx => by
    rw [wallTo, List.mem_append] at hx
    rcases hx with hx | hx
    · exact wallTo_in h y k (by omega) x hx
    · split at hx
      · have e : x = sumx s k := by simpa using hx
        have := sumx_le s k
        omega
      · cases hx
structure RowS (w : World) (C2 : Nat) (f : Int → List Int) (D : DataW Value) (val : Int → Value) (n : Nat) (vis : List Int) (y : Int) (left : Lit → Bool) (cnt : Nat) (out : List (Int × Int)) (v : Value) (wr : World) : Prop where
  rg : wr.ranges Tryd.prog 3 RV w.heap.size C2 n D left cnt
  lf : ∀ z, left (.int .i64 z) = (Maps.has D (.int .i64 z) && !(vis ++ [y]).contains z)
  ne : ∀ z ∈ vis ++ [y], f z ≠ []
  nd : (vis ++ [y]).Nodup
  cv : vis.length + 1 + cnt ≤ n
  row : ∀ z, z ∉ vis ++ [y] → wr.ownsRow (w.heap.size + 3) 3 1 (val z) (f z).length ((f z).map (Value.int .i64))
  cur : wr.ownsRow (w.heap.size + 3) 3 1 (val y) (f y).length ((srt (f y)).map (Value.int .i64))
  lo : ∀ y g, (val y).ownBlock = some g → w.heap.size + 3 ≤ g ∧ g < C2
  off : ∀ y z, y ≠ z → (val y).ownBlock = (val z).ownBlock → (val y).ownBlock = none
  out : OwnP (C2 + 1) 63 wr v out
  bl : Below w.heap.size w wr
  hi : C2 + 1 ≤ wr.heap.size
  mid : w.heap.size + 3 ≤ C2
structure ComeS (w : World) (C2 : Nat) (f : Int → List Int) (D : DataW Value) (val : Int → Value) (n : Nat) (vis : List Int) (y : Int) (left : Lit → Bool) (cnt : Nat) (out : List (Int × Int)) (v : Value) (wr : World) : Prop where
  rg : wr.ranges Tryd.prog 3 RV w.heap.size C2 n D left cnt
  lf : ∀ z, left (.int .i64 z) = (Maps.has D (.int .i64 z) && !(vis ++ [y]).contains z)
  ne : ∀ z ∈ vis ++ [y], f z ≠ []
  nd : (vis ++ [y]).Nodup
  cv : vis.length + 1 + cnt ≤ n
  row : ∀ z, z ∉ vis → wr.ownsRow (w.heap.size + 3) 3 1 (val z) (f z).length ((f z).map (Value.int .i64))
  lo : ∀ y g, (val y).ownBlock = some g → w.heap.size + 3 ≤ g ∧ g < C2
  off : ∀ y z, y ≠ z → (val y).ownBlock = (val z).ownBlock → (val y).ownBlock = none
  out : OwnP (C2 + 1) 63 wr v out
  bl : Below w.heap.size w wr
  hi : C2 + 1 ≤ wr.heap.size
  mid : w.heap.size + 3 ≤ C2
theorem RgS.come {w wr w1 : World} {C2 n cnt cnt1 : Nat} {f : Int → List Int} {D : DataW Value} {val : Int → Value} {vis : List Int} {left : Lit → Bool} {v : Value} (h : RgS w C2 f D val n C2 vis left cnt v wr)
    (hs : ∀ z, Maps.has D (.int .i64 z) = true → f z ≠ []) (hoff : ∀ y z, y ≠ z → (val y).ownBlock = (val z).ownBlock → (val y).ownBlock = none) (hmid : w.heap.size + 3 ≤ C2) {y : Int} (hl : left (.int .i64 y) = true)
    (hrg : w1.ranges Tryd.prog 3 RV w.heap.size C2 n D (fun z => left z && !z.sameKey (.int .i64 y)) cnt1) (hlt : cnt1 < cnt) (hg : wr.grownBy w1 (some C2)) (hsz : w1.heap.size = wr.heap.size) :
    ComeS w C2 f D val n vis y (fun z => left z && !z.sameKey (.int .i64 y)) cnt1 (outOf f vis) v w1 := by
  have e := h.lf y
  rw [hl] at e
  have e1 : Maps.has D (.int .i64 y) = true := by
    cases q : Maps.has D (.int .i64 y) with
    | true => rfl
    | false => rw [q] at e; simp at e
  have e2 : y ∉ vis := by
    rw [e1] at e
    simpa using e
  refine ⟨hrg, fun z => ?_, fun z hz => ?_, ?_, by have := h.cv; omega, fun z hz => (h.row z hz).kept hg (.inr fun q => by have := (h.lo z C2 q).2; omega), h.lo, hoff, ?_, ?_, by rw [hsz]; exact h.hi, hmid⟩
  · show (left (.int .i64 z) && !(Lit.sameKey (.int .i64 z) (.int .i64 y))) = _
    rw [h.lf z, same_int]
    cases Maps.has D (.int .i64 z) <;> simp [Bool.not_or]
  · rcases List.mem_append.1 hz with hz | hz
    · exact h.ne z hz
    · have : z = y := by simpa using hz
      rw [this]
      exact hs y e1
  · rw [List.nodup_append]
    exact ⟨h.nd, by simp, fun a ha b hb => by
      have : b = y := by simpa using hb
      subst this
      exact fun q => e2 (q ▸ ha)⟩
  · have o := h.out
    unfold OwnP at o ⊢
    exact o.kept hg (.inr fun q => by have := (own_low o _ q).1; omega)
  · exact h.bl.grown hg h.bl.size (fun c hc => by injection hc with hc; omega)
theorem ComeS.sorted {w w1 w2 : World} {C2 n cnt : Nat} {f : Int → List Int} {D : DataW Value} {val : Int → Value} {vis : List Int} {y : Int} {left : Lit → Bool} {out : List (Int × Int)} {v : Value} (h : ComeS w C2 f D val n vis y left cnt out v w1)
    (hr : w2.ownsRow (w.heap.size + 3) 3 1 (val y) (f y).length ((srt (f y)).map (Value.int .i64))) (hg : w1.grownBy w2 (val y).ownBlock) : RowS w C2 f D val n vis y left cnt out v w2 := by
  have low := h.lo y
  refine ⟨h.rg.kept hg (fun q => by have := (low _ q.symm).1; omega) (fun q => by have := (low _ q.symm).2; omega), h.lf, h.ne, h.nd, h.cv, fun z hz => ?_, hr, h.lo, h.off, ?_, ?_, Nat.le_trans h.hi hg.size, h.mid⟩
  · have hzv : z ∉ vis := fun q => hz (List.mem_append.2 (.inl q))
    have hzy : z ≠ y := fun q => hz (List.mem_append.2 (.inr (by simp [q])))
    refine (h.row z hzv).kept hg ?_
    by_cases q : (val z).ownBlock = (val y).ownBlock
    · exact .inl (h.off z y hzy q)
    · exact .inr q
  · have o := h.out
    unfold OwnP at o ⊢
    refine o.kept hg ?_
    by_cases q : v.ownBlock = none
    · exact .inl q
    · refine .inr fun q2 => ?_
      cases q3 : v.ownBlock with
      | none => exact q q3
      | some c =>
        have a := (own_low o c q3).1
        have b := (low c (q2 ▸ q3)).2
        omega
  · exact h.bl.grown hg h.bl.size (fun c hc => by have := (low c hc).1; omega)
theorem RowS.later {w wr w2 : World} {C2 n cnt : Nat} {f : Int → List Int} {D : DataW Value} {val : Int → Value} {vis : List Int} {y : Int} {left : Lit → Bool} {out : List (Int × Int)} {v : Value} (h : RowS w C2 f D val n vis y left cnt out v wr) (hb : Below wr.heap.size wr w2) : RowS w C2 f D val n vis y left cnt out v w2 :=
  ⟨h.rg.kept (grown_of_below hb) (by simp) (by simp), h.lf, h.ne, h.nd, h.cv, fun z hz => pw_own_below (h.row z hz) hb, pw_own_below h.cur hb, h.lo, h.off, pw_own_below h.out hb, h.bl.trans (hb.mono h.bl.size), Nat.le_trans h.hi hb.size, h.mid⟩
theorem RowS.put {w wr w2 : World} {C2 n cnt : Nat} {f : Int → List Int} {D : DataW Value} {val : Int → Value} {vis : List Int} {y : Int} {left : Lit → Bool} {out : List (Int × Int)} {v v' : Value} {p : Int × Int} (h : RowS w C2 f D val n vis y left cnt out v wr)
    (ho : w2.ownsRow (C2 + 1) 63 2 v' (out.length + 1) (flatP out ++ [.int .i64 p.1, .int .i64 p.2])) (hg : wr.grownBy w2 v.ownBlock) : RowS w C2 f D val n vis y left cnt (out ++ [p]) v' w2 := by
  have o := h.out
  unfold OwnP at o
  have low := own_low o
  have far : ∀ z, (val z).ownBlock = none ∨ (val z).ownBlock ≠ v.ownBlock := fun z => by
    by_cases q : (val z).ownBlock = none
    · exact .inl q
    · refine .inr fun q2 => ?_
      cases q3 : (val z).ownBlock with
      | none => exact q q3
      | some c =>
        have a := (low c (q2 ▸ q3)).1
        have b := (h.lo z c q3).2
        omega
  refine ⟨h.rg.kept hg (fun q => by have a := (low _ q.symm).1; have b := h.mid; omega) (fun q => by have := (low _ q.symm).1; omega), h.lf, h.ne, h.nd, h.cv, fun z hz => (h.row z hz).kept hg (far z), h.cur.kept hg (far y), h.lo, h.off, ?_, h.bl.grown hg h.bl.size (fun c hc => by have a := (low c hc).1; have b := h.mid; omega), Nat.le_trans h.hi hg.size, h.mid⟩
  unfold OwnP
  rw [List.length_append, flatP_app]
  exact ho
theorem RowS.done {w wr : World} {C2 n cnt : Nat} {f : Int → List Int} {D : DataW Value} {val : Int → Value} {vis : List Int} {y : Int} {left : Lit → Bool} {v : Value} (h : RowS w C2 f D val n vis y left cnt (outOf f vis ++ rowAll f y) v wr) : RgS w C2 f D val n C2 (vis ++ [y]) left cnt v wr :=
  ⟨h.rg, h.lf, h.ne, h.nd, by rw [List.length_append]; exact h.cv, h.row, h.lo, by rw [outOf_snoc]; exact h.out, h.bl, h.hi⟩
theorem row_at {w : World} {C g cap : Nat} {l : List Int} (h : w.ownsRow C 3 1 (.slice (some ⟨g, 0, none⟩) l.length cap) l.length (l.map (Value.int .i64))) {i : Nat} (hi : i < l.length) : w.cell? ⟨g, i, none⟩ = some (.int .i64 (l.getD i 0)) := by
  obtain ⟨g', cap', cur, e, hC, hb, hn, hm, hs, ht⟩ := own_block h (by omega)
  injection e with e1 e2 e3
  injection e1 with e1
  injection e1 with e1
  subst e1
  rw [Nat.mul_one] at hs ht
  have e : (cur.toList.take l.length)[i]? = some (.int .i64 (l.getD i 0)) := by
    rw [ht, List.getD_eq_getElem?_getD]
    simp [hi]
  rw [List.getElem?_take, if_pos hi] at e
  unfold World.cell?
  simp only [hb]
  simpa using e
end Go.Proofs.YtpfenoioeajkmaaDoor.X
end

section
set_option linter.unusedVariables false
set_option linter.unusedSimpArgs false
namespace Go.Proofs.YtpfenoioeajkmaaDoor.X
open Go.RowKit Go.Proofs.YtpfenoioeajkmaaDoorW.PrintWords Go.Proofs.YtpfenoioeajkmaaDoorW.PrintLast Go.Proofs.YtpfenoioeajkmaaDoorW.PrintMore Go.Proofs.YtpfenoioeajkmaaDoor.L
section
variable {ops : Array Oper} {rest : List Oper} {o : Oper} {a : Act} {Q : Exit → Act → World → Prop}
set_option maxRecDepth 20000 in
theorem wpList_next_rows {w wr : World} {C2 n cnt : Nat} {f : Int → List Int} {D : DataW Value} {val : Int → Value} {vis : List Int} {left : Lit → Bool} {v : Value} (hg : o.guard = none) (it : Operand) (hop : o.op = Op.next it false) (h : RgS w C2 f D val n C2 vis left cnt v wr)
    (hs : ∀ z, Maps.has D (.int .i64 z) = true → f z ≠ []) (hoff : ∀ y z, y ≠ z → (val y).ownBlock = (val z).ownBlock → (val y).ownBlock = none) (hmid : w.heap.size + 3 ≤ C2) (hat : ∀ y, D.atKey (.int .i64 y) nilS = .held (val y))
    (hit : a.eval it = .pointer (some ⟨C2, 0, none⟩)) (hDone : (∀ kl, left kl = false) → wpList Tryd.prog ops Q rest (a.put o.dst (.tuple #[.bool false])) wr)
    (hMore : ∀ (x : Int) (w1 : World) (left1 : Lit → Bool) (cnt1 : Nat), cnt1 < cnt → -9223372036854775808 ≤ x ∧ x ≤ 9223372036854775807 → ComeS w C2 f D val n vis x left1 cnt1 (outOf f vis) v w1 → (Instr.entry (.pointer (some ⟨C2, 0, none⟩))).run Tryd.prog w1 = .ok (.tuple #[.int .i64 x, val x]) w1 →
      wpList Tryd.prog ops Q rest (a.put o.dst (.tuple #[.bool true, .int .i64 x, val x])) w1) : wpList Tryd.prog ops Q (o :: rest) a wr := by
  refine wpList_next_ranges (P := Tryd.prog) wr hg it hop 3 law3 RV (Value.int .i64) (fun v : Value => v) (fun key kl h => let ⟨x, e, _⟩ := Maps.keyOf_int_inv Tryd.underlying3 h; ⟨x, e⟩) (fun v y _ => ⟨v, rfl⟩) w.heap.size C2 n D left cnt hit h.rg (fun _ => hDone) ?_
  intro x c kl y w1 cnt1 hkey hlk hR hat2 hrg1 hlt hg1 hs1 hen
  obtain ⟨x', e1, e2, e3⟩ := Maps.keyOf_int_inv Tryd.underlying3 hkey
  injection e1 with _ e1
  subst e1
  subst e2
  have e4 := (hat2 nilS).symm.trans (hat x)
  unfold RV at hR
  injection hR with hR
  rw [← hR] at e4
  injection e4 with e4
  have e4 : c = val x := e4
  subst e4
  have hx : -9223372036854775808 ≤ x ∧ x ≤ 9223372036854775807 := by
    have e5 : (decide (IntKind.i64.min ≤ x) && decide (x ≤ IntKind.i64.max)) = true := e3
    rw [Bool.and_eq_true] at e5
    exact ⟨of_decide_eq_true e5.1, of_decide_eq_true e5.2⟩
  exact hMore x w1 _ cnt1 hlt hx (h.come hs hoff hmid hlk hrg1 hlt hg1 hs1) hen
end
theorem own_lower {B C : Nat} {e sz n : Nat} {w : World} {v : Value} {xs : List Value} (h : w.ownsRow C e sz v n xs) (hb : B ≤ C) : w.ownsRow B e sz v n xs := by
  obtain ⟨a, h | ⟨g, cap, cur, h1, h2, h3⟩⟩ := h
  · exact ⟨a, .inl h⟩
  · exact ⟨a, .inr ⟨g, cap, cur, h1, Nat.le_trans hb h2, h3⟩⟩
theorem RgS.all {w wr : World} {C2 n cnt : Nat} {f : Int → List Int} {D : DataW Value} {val : Int → Value} {vis : List Int} {left : Lit → Bool} {v : Value} (h : RgS w C2 f D val n C2 vis left cnt v wr) (hl : ∀ kl, left kl = false) (hat : ∀ y, D.atKey (.int .i64 y) nilS = .held (val y))
    (hrow : ∀ y, ∃ C w', World.ownsRow w' C 3 1 (val y) (f y).length ((f y).map (Value.int .i64))) (y : Int) : y ∈ vis ↔ f y ≠ [] := by
  refine ⟨h.ne y, fun hy => ?_⟩
  have e := h.lf y
  rw [hl] at e
  cases q : Maps.has D (.int .i64 y) with
  | true =>
    rw [q] at e
    simpa using e
  | false =>
    exfalso
    have e1 := hat y
    rw [Maps.atKey_of_not_has q] at e1
    injection e1 with e1
    obtain ⟨C, w', r⟩ := hrow y
    have h0 : 0 < (f y).length := List.length_pos_iff.2 hy
    obtain ⟨g, cap, cur, e2, -⟩ := own_block r h0
    rw [← e1] at e2
    injection e2 with e2
    cases e2
theorem outOf_small {f : Int → List Int} (hb : ∀ y, ∀ x ∈ f y, -24 ≤ x ∧ x ≤ 24) (hn : ∀ y, (f y).length ≤ 24) {vis : List Int} (hv : vis.length ≤ 24) (y : Int) {j : Nat} (hj : 2 * j ≤ (f y).length) : (outOf f vis ++ rowTo y (srt (f y)) j).length ≤ 28800 := by
  have a := outOf_len hb hn vis
  have b := rowTo_len (y := y) (l := srt (f y)) (fun x hx => hb y x ((srt_mem _ _).1 hx)) j (by rw [srt_len]; exact hj)
  have c := hn y
  rw [List.length_append]
  omega
theorem row_bnd {f : Int → List Int} (hb : ∀ y, ∀ x ∈ f y, -24 ≤ x ∧ x ≤ 24) (y : Int) {i : Nat} (hi : i < (f y).length) : -24 ≤ (srt (f y)).getD i 0 ∧ (srt (f y)).getD i 0 ≤ 24 := by
  rw [← srt_len] at hi
  refine hb y _ ((srt_mem _ _).1 ?_)
  rw [List.getD_eq_getElem?_getD, List.getElem?_eq_getElem hi]
  exact List.getElem_mem _
theorem RowS.at_ {w wr : World} {C2 n cnt : Nat} {f : Int → List Int} {D : DataW Value} {val : Int → Value} {vis : List Int} {y : Int} {left : Lit → Bool} {out : List (Int × Int)} {v : Value} (h : RowS w C2 f D val n vis y left cnt out v wr) {g L cap : Nat} (hv : val y = .slice (some ⟨g, 0, none⟩) L cap) (hL : (f y).length = L) {i : Nat} (hi : i < L) : wr.cell? ⟨g, i, none⟩ = some (.int .i64 ((srt (f y)).getD i 0)) := by
  have c := h.cur
  rw [hv] at c
  subst hL
  rw [← srt_len (f y)] at c hi
  exact row_at c hi
end Go.Proofs.YtpfenoioeajkmaaDoor.X
end

section
set_option linter.unusedVariables false
set_option linter.unusedSimpArgs false
namespace Go.Proofs.YtpfenoioeajkmaaDoor.X
open Go.RowKit Go.Proofs.YtpfenoioeajkmaaDoorW.PrintWords Go.Proofs.YtpfenoioeajkmaaDoorW.PrintLast Go.Proofs.YtpfenoioeajkmaaDoorW.PrintMore Go.Proofs.YtpfenoioeajkmaaDoor.L
theorem zero98 (w : World) : (zeroValue 98).run Tryd.prog w = .ok (.slice none 0 0) w := by kernel_rfl
theorem info3' : (Tryd.prog.info? 3).map (fun i => (i.zero, i.size, i.bytes)) = some (some (.int .i64 0), 1, 8) := by kernel_rfl
theorem St.start (w : World) (s : ByteArray) : St w s 0 0 0 (Lib.bytesWorld ((w.alloc (.map #[] 0)).alloc (.cells #[.int .i64 0, .int .i64 0] 63)) 5 s) := by
  have D := DblS.start (w.alloc (.map #[] 0)) s
  have e : (w.alloc (.map #[] 0)).heap.size = w.heap.size + 1 := by simp
  obtain ⟨h1, h2, h3⟩ := bytes_world ((w.alloc (.map #[] 0)).alloc (.cells #[.int .i64 0, .int .i64 0] 63)) s
  have hb : Below (w.alloc (.map #[] 0)).heap.size (w.alloc (.map #[] 0)) (Lib.bytesWorld ((w.alloc (.map #[] 0)).alloc (.cells #[.int .i64 0, .int .i64 0] 63)) 5 s) := D.bl
  refine ⟨⟨?_, ?_, ?_, ?_, ?_, ?_⟩, ⟨.map [], fun _ => .slice none 0 0, ⟨?_, fun y => rfl, fun y => World.ownsRow_nil _ _ _ _, fun y z _ _ => rfl, fun y h => by cases h⟩⟩, (below_one _).trans (hb.mono (by simp)), ?_⟩
  · rw [← e]; exact D.p0
  · rw [← e]; exact D.p1
  · rw [← e]; exact D.pf
  · rw [← e]; exact D.pg
  · rw [← e]; exact D.bs
  · rw [← e]; exact D.sz
  · exact (World.ownsMap_made w Tryd.prog 3 RV).kept (grown_of_below hb) (by simp)
  · have := D.sz; rw [e] at this; omega
set_option maxHeartbeats 16000000 in
set_option maxRecDepth 100000 in
theorem cells_calls (s : ByteArray) (hw : isW s = true) (hne : ∀ vis : List Int, vis.Nodup → (∀ y, y ∈ vis ↔ wallTo s y s.size ≠ []) → outOf (fun y => wallTo s y s.size) vis ≠ []) (w : World) :
    Calls Tryd.prog 73 #[.string s] w fun e w' => (∃ v, e = .returned v ∧ ∃ vis l, vis.Nodup ∧ (∀ y, y ∈ vis ↔ wallTo s y s.size ≠ []) ∧ l.Perm (outOf (fun y => wallTo s y s.size) vis) ∧ l.Pairwise (fun p q => ltP q p = false) ∧ OwnP w.heap.size 63 w' v l) ∧ Below w.heap.size w w' := by
  have HNE := Lib.hid hne
  clear hne
  have hs24 := isW_le hw
  have hcv := fun (w : World) => Lib.run_convert_string_bytes (P := Tryd.prog) w 9 78 5 s Tryd.underlying9 Tryd.underlying78 Tryd.underlying5
  have hmm := @run_makeMap Tryd.prog
  have HW := Lib.hid hw
  clear hw
  go_enter Tryd.func73, Tryd.ntmps73
  go_wp2_with fail
  have hst := St.start w s
  generalize Lib.bytesWorld ((w.alloc (.map #[] 0)).alloc (.cells #[.int .i64 0, .int .i64 0] 63)) 5 s = w1 at hst ⊢
  have HS : Hid (St w s 0 (sumx s 0) (sumy s 0) w1) := Lib.hid hst
  clear hst hcv hmm
  go_loopw [18] (fun i wr => ∃ k : Nat, k ≤ s.size ∧ i = .int .i64 k ∧ Hid (St w s k (sumx s k) (sumy s k) wr)) (fun i _ => s.size - (intOf i).toNat)
  case atStart => exact ⟨0, by omega, rfl, HS⟩
  case round =>
    clear HS
    obtain ⟨k, hk, rfl, HS⟩ := hrel
    by_cases hlt : k < s.size
    · skip
      have hb := HS.out.pt.bs k hlt
      have b1 := HS.out.pt.p0
      have b2 := HS.out.pt.p1
      go_wp2_with fail
      generalize hX : sumx s k = X at b1 ⊢
      generalize hY : sumy s k = Y at b2 ⊢
      refine start_ (n := 6) (S := fun w' => w'.cell? ⟨w.heap.size + 1, 0, none⟩ = some (.int .i64 X) ∧ w'.cell? ⟨w.heap.size + 1, 1, none⟩ = some (.int .i64 Y)) (ds := [5]) #[false, false, false, false, false, false] (by kernel_rfl) rfl rfl ⟨by simpa using b1, by simpa using b2⟩ (fun hHeld => ?_)
      refine take_ (i := 0) (N := (some 22)) (v := ?_) (a' := ?_) #[true, false, false, false, false, false] rfl rfl (by kernel_rfl) (fun _ _ _ h => h) (Or.inl ⟨by rfl, ?_⟩) hHeld ?_ ?_
      rotate_left
      · rintro w' ⟨s0, s1⟩; go_simp; first | done | with_reducible rfl
      rotate_left
      · simp only [Act.put, List.setIfInBounds_toArray, List.set_cons_zero, List.set_cons_succ, i64_w, i32_w]; rfl
      refine pure_ (i := 1) (N := (some 23)) (v := ?_) (a' := ?_) #[true, true, false, false, false, false] rfl rfl (by kernel_rfl) (fun _ _ _ h => h) (Or.inl ⟨by rfl, ?_⟩) ?_ ?_
      rotate_left
      · intro w'; go_simp; first | done | with_reducible rfl
      rotate_left
      · simp only [Act.put, List.setIfInBounds_toArray, List.set_cons_zero, List.set_cons_succ, i64_w, i32_w]; rfl
      refine two_ (i := 2) (j := 4) (Ni := (some 24)) (Nj := (some 7)) #[true, true, true, false, false, false] #[true, true, false, false, true, false] rfl rfl rfl rfl (by kernel_rfl) (by decide) (by decide) (fun K hK => ?_) (fun K hK => ?_)
      · skip
        refine goes_ Tryd.func69 (by kernel_rfl) rfl #[.int .u8 (bt s k)] (by rfl) rfl rfl (by (try simp only [List.map_toArray, List.map_cons, List.map_nil]); first | done | rfl) ?_
        refine (step_calls _ _).mono ?_
        rintro e w2 ⟨rfl, hb2⟩
        refine ⟨_, rfl, ?_⟩
        have HS2 := Lib.hid (HS.out.draw.later hb2)
        clear hb2
        refine hK.out _ _ ⟨hX ▸ HS2.out.pt.p0, hY ▸ HS2.out.pt.p1⟩ (fun hHeld => ?_)
        clear hK K
        refine norm_ (a' := ?_) ?_ ?_
        rotate_left
        · show Act.put _ (some 24) _ = _; simp only [Act.put, List.setIfInBounds_toArray, List.set_cons_zero, List.set_cons_succ, i64_w, i32_w]; rfl
        refine two_ (i := 3) (j := 4) (Ni := (some 25)) (Nj := (some 7)) #[true, true, true, true, false, false] #[true, true, true, false, true, false] rfl rfl rfl rfl (by kernel_rfl) (by decide) (by decide) (fun K hK => ?_) (fun K hK => ?_)
        · skip
          refine goes_ Tryd.func65 (by kernel_rfl) rfl #[ptV X Y, ptV (stepx (bt s k)) (stepy (bt s k))] (by rfl) rfl rfl (by (try simp only [List.map_toArray, List.map_cons, List.map_nil]); first | done | rfl) ?_
          refine (plus_calls _ _ _ _ _).mono ?_
          rintro e w3 ⟨rfl, hb2⟩
          refine ⟨_, rfl, ?_⟩
          have HS3 := Lib.hid (HS2.out.later hb2)
          clear hb2
          refine hK.out _ _ ⟨hX ▸ HS3.out.pt.p0, hY ▸ HS3.out.pt.p1⟩ (fun hHeld => ?_)
          clear hK K
          refine norm_ (a' := ?_) ?_ ?_
          rotate_left
          · show Act.put _ (some 25) _ = _; simp only [Act.put, List.setIfInBounds_toArray, List.set_cons_zero, List.set_cons_succ, i64_w, i32_w]; rfl
          refine one_ (i := 4) (N := (some 7)) #[true, true, true, true, true, false] rfl rfl (by kernel_rfl) (by decide) (fun K hK => ?_)
          refine alloc_step (cs := #[.int .i64 0, .int .i64 0]) (t := 63) (by rfl) rfl (by go_simp) ?_
          intro g hg w4 hbk hba
          have HQ4 := Lib.hid (StQ.start HS3.out hg hbk hba)
          clear hg hbk hba
          refine hK.out _ _ ⟨hX ▸ HQ4.out.pt.p0, hY ▸ HQ4.out.pt.p1⟩ (fun hHeld => ?_)
          clear hK K
          refine norm_ (a' := ?_) ?_ ?_
          rotate_left
          · show Act.put _ (some 7) _ = _; simp only [Act.put, List.setIfInBounds_toArray, List.set_cons_zero, List.set_cons_succ, i64_w, i32_w]; rfl
          have d0 := HQ4.out.q0
          have d1 := HQ4.out.q1
          have d2 := HQ4.out.qf
          have d3 := HQ4.out.qg
          refine last_ (i := 5) (N := none) #[true, true, true, true, true, true] rfl rfl (by kernel_rfl) (by decide) (fun K hK => ?_)
          refine skip_step (w1 := (w4.setCell ⟨g, 0, none⟩ (.int .i64 (wrap64 (X + stepx (bt s k))))).setCell ⟨g, 1, none⟩ (.int .i64 (wrap64 (Y + stepy (bt s k))))) (by rfl) (by unfold ptV; go_simp) ?_
          refine hK.out _ _ ?_
          clear hK K
          refine norm_ (a' := ?_) ?_ ?_
          rotate_left
          · show Act.put _ none _ = _; simp only [Act.put, List.setIfInBounds_toArray, List.set_cons_zero, List.set_cons_succ, i64_w, i32_w]; rfl
          refine done_ (by kernel_rfl) ?_
          clear d0 d1 d2 d3 hHeld
          have HQ5 := Lib.hid (HQ4.out.set1 (wrap64 (X + stepx (bt s k))) (wrap64 (Y + stepy (bt s k))))
          clear HQ4
          generalize (w4.setCell ⟨g, 0, none⟩ (.int .i64 (wrap64 (X + stepx (bt s k))))).setCell ⟨g, 1, none⟩ (.int .i64 (wrap64 (Y + stepy (bt s k)))) = w5 at HQ5 ⊢
          rw [← hX, ← hY, sumx_succ s k (by omega), sumy_succ s k (by omega)] at HQ5
          have HQ6 : Hid (StQ w s k X Y g (sumx s (k + 1)) (sumy s (k + 1)) w5) := by rw [← hX, ← hY]; exact HQ5
          have by1 := sumy_le s k
          have by2 := sumy_le s (k + 1)
          rw [hY] at by1
          obtain ⟨X2, hX2⟩ : ∃ X2, sumx s (k + 1) = X2 := ⟨_, rfl⟩
          obtain ⟨Y2, hY2⟩ : ∃ Y2, sumy s (k + 1) = Y2 := ⟨_, rfl⟩
          rw [hX2, hY2] at HQ6
          rw [hY2] at by2
          have HX := Lib.hid hX
          have HY := Lib.hid hY
          have HX2 := Lib.hid hX2
          have HY2 := Lib.hid hY2
          clear hX hY hX2 hY2 HQ5
          have e0 := HQ6.out.pt.p0
          have e1 := HQ6.out.pt.p1
          have e2 := HQ6.out.pt.pf
          have e3 := HQ6.out.pt.pg
          have f0 := HQ6.out.q0
          have f1 := HQ6.out.q1
          by_cases hv : Y = Y2
          · have bv : (Y != Y2) = false := by simp [hv]
            have HV := Lib.hid hv
            clear hv
            go_wp2_with fail
            refine ⟨⟨k + 1, by omega, by go_num, Lib.hid ?_⟩, by simp [intOf]; omega⟩
            rw [HX2.out, HY2.out]
            exact (HQ6.out.st.flat (by rw [HY.out, HY2.out, HV.out])).put _ _
          · have bv : (Y != Y2) = true := by simp [hv]
            have HV := Lib.hid hv
            obtain ⟨r, hr⟩ : ∃ r, min Y Y2 = r := ⟨_, rfl⟩
            have hr1 : -9223372036854775808 ≤ r ∧ r ≤ 9223372036854775807 := by omega
            have HR := Lib.hid hr
            obtain ⟨D, val, hWL, hgv⟩ := HQ6.out.wl
            have HWL := Lib.hid hWL
            have HGV := Lib.hid hgv
            have hb6 := below_one (w := w5) (.cells #[.int .i64 X] 3)
            have HO6 := Lib.hid (pw_own_below (hWL.row r) hb6)
            have HB6 := Lib.hid hb6
            have HL := Lib.hid (Nat.le_trans (wallTo_len s r k) (Nat.le_trans hk hs24))
            have HKEY := Lib.hid (Maps.keyOf_int_mk Tryd.underlying3 (WalkArith.wf_i64 hr1))
            have HHI := Lib.hid HQ6.out.hi
            obtain ⟨i0, hi0, hz0, hz1, hz2⟩ := info_parts info3'
            have HI := Lib.hid hi0
            have HZ := Lib.hid (And.intro hz0 (And.intro hz1 hz2))
            clear hi0 hz0 hz1 hz2 hv hr1 hWL hgv hb6
            go_wp2_with (first | (at_lookup; go_loud (refine wpList_lookup_held _ rfl _ _ 100 rfl law3 Tryd.underlying100 zero98 rfl HWL.out.own _ (.int .i64 r) rfl HKEY.out ?_); intro v hvv; have hve := (HWL.out.at_ r).symm.trans hvv; injection hve with hve; subst hve; clear hvv) | (at_builtin; go_loud (refine wpList_append_own_at _ rfl (.tmp 40) (.tmp 43) 98 rfl (w.heap.size + 3) 3 i0 (.int .i64 0) 1 8 Tryd.underlying98 HI.out HZ.out.1 HZ.out.2.1 HZ.out.2.2 rfl (by decide) (val r) _ _ rfl HO6.out ⟨w5.heap.size, 0, none⟩ 1 1 [.int .i64 X] rfl rfl (cell_one_new _ _ _) (ints_oneCell .i64 [X]) (by have := HL.out; unfold maxLen; omega) (by have := HL.out; omega) (Nat.le_trans HHI.out HB6.out.size) ?_); intro v1 w8 hown1 hgrow1 hnil1 hloc1; have HO8 := Lib.hid hown1; have HG8 := Lib.hid hgrow1; have HL8 := Lib.hid hloc1; clear hown1 hgrow1 hnil1 hloc1) | (at_mapUpdate; go_loud (refine wpList_mapUpdate_own _ rfl _ _ _ 100 rfl 3 98 law3 Tryd.underlying100 RV w.heap.size k D rfl ((HWL.out.own.kept (grown_of_below HB6.out) (by simp)).kept HG8.out (fun q => by have := (own_low HO6.out _ q.symm).1; omega)) (by unfold maxLen; omega) _ _ (.int .i64 r) rfl rfl HKEY.out (.held v1) [] rfl ?_); intro w9 hown9 hgrow9; have HQ9 := Lib.hid (HQ6.out.wall HWL.out HGV.out (by rw [HY.out, HY2.out]; exact HV.out) (by rw [HY.out, HY2.out]; exact HR.out) HX.out HB6.out HO8.out HG8.out HL8.out trivial hown9 hgrow9); clear hown9 hgrow9 e0 e1 e2 e3 f0 f1; have e0 := HQ9.out.pt.p0; have e1 := HQ9.out.pt.p1; have e2 := HQ9.out.pt.pf; have e3 := HQ9.out.pt.pg; have f0 := HQ9.out.q0; have f1 := HQ9.out.q1))
            refine ⟨⟨k + 1, by omega, by go_num, Lib.hid ?_⟩, by simp [intOf]; omega⟩
            rw [HX2.out, HY2.out]
            exact HQ9.out.st.put _ _
        · skip
          refine alloc_step (cs := #[.int .i64 0, .int .i64 0]) (t := 63) (by rfl) rfl (by go_simp) ?_
          intro g hg w3 hbk hba
          have HQ3 := Lib.hid (StQ.start HS2.out hg hbk hba)
          clear hg hbk hba
          refine hK.out _ _ ⟨hX ▸ HQ3.out.pt.p0, hY ▸ HQ3.out.pt.p1⟩ (fun hHeld => ?_)
          clear hK K
          refine norm_ (a' := ?_) ?_ ?_
          rotate_left
          · show Act.put _ (some 7) _ = _; simp only [Act.put, List.setIfInBounds_toArray, List.set_cons_zero, List.set_cons_succ, i64_w, i32_w]; rfl
          refine one_ (i := 3) (N := (some 25)) #[true, true, true, true, true, false] rfl rfl (by kernel_rfl) (by decide) (fun K hK => ?_)
          refine goes_ Tryd.func65 (by kernel_rfl) rfl #[ptV X Y, ptV (stepx (bt s k)) (stepy (bt s k))] (by rfl) rfl rfl (by (try simp only [List.map_toArray, List.map_cons, List.map_nil]); first | done | rfl) ?_
          refine (plus_calls _ _ _ _ _).mono ?_
          rintro e w4 ⟨rfl, hb2⟩
          refine ⟨_, rfl, ?_⟩
          have HQ4 := Lib.hid (HQ3.out.later hb2)
          clear hb2
          refine hK.out _ _ ⟨hX ▸ HQ4.out.pt.p0, hY ▸ HQ4.out.pt.p1⟩ (fun hHeld => ?_)
          clear hK K
          refine norm_ (a' := ?_) ?_ ?_
          rotate_left
          · show Act.put _ (some 25) _ = _; simp only [Act.put, List.setIfInBounds_toArray, List.set_cons_zero, List.set_cons_succ, i64_w, i32_w]; rfl
          have d0 := HQ4.out.q0
          have d1 := HQ4.out.q1
          have d2 := HQ4.out.qf
          have d3 := HQ4.out.qg
          refine last_ (i := 5) (N := none) #[true, true, true, true, true, true] rfl rfl (by kernel_rfl) (by decide) (fun K hK => ?_)
          refine skip_step (w1 := (w4.setCell ⟨g, 0, none⟩ (.int .i64 (wrap64 (X + stepx (bt s k))))).setCell ⟨g, 1, none⟩ (.int .i64 (wrap64 (Y + stepy (bt s k))))) (by rfl) (by unfold ptV; go_simp) ?_
          refine hK.out _ _ ?_
          clear hK K
          refine norm_ (a' := ?_) ?_ ?_
          rotate_left
          · show Act.put _ none _ = _; simp only [Act.put, List.setIfInBounds_toArray, List.set_cons_zero, List.set_cons_succ, i64_w, i32_w]; rfl
          refine done_ (by kernel_rfl) ?_
          clear d0 d1 d2 d3 hHeld
          have HQ5 := Lib.hid (HQ4.out.set1 (wrap64 (X + stepx (bt s k))) (wrap64 (Y + stepy (bt s k))))
          clear HQ4
          generalize (w4.setCell ⟨g, 0, none⟩ (.int .i64 (wrap64 (X + stepx (bt s k))))).setCell ⟨g, 1, none⟩ (.int .i64 (wrap64 (Y + stepy (bt s k)))) = w5 at HQ5 ⊢
          rw [← hX, ← hY, sumx_succ s k (by omega), sumy_succ s k (by omega)] at HQ5
          have HQ6 : Hid (StQ w s k X Y g (sumx s (k + 1)) (sumy s (k + 1)) w5) := by rw [← hX, ← hY]; exact HQ5
          have by1 := sumy_le s k
          have by2 := sumy_le s (k + 1)
          rw [hY] at by1
          obtain ⟨X2, hX2⟩ : ∃ X2, sumx s (k + 1) = X2 := ⟨_, rfl⟩
          obtain ⟨Y2, hY2⟩ : ∃ Y2, sumy s (k + 1) = Y2 := ⟨_, rfl⟩
          rw [hX2, hY2] at HQ6
          rw [hY2] at by2
          have HX := Lib.hid hX
          have HY := Lib.hid hY
          have HX2 := Lib.hid hX2
          have HY2 := Lib.hid hY2
          clear hX hY hX2 hY2 HQ5
          have e0 := HQ6.out.pt.p0
          have e1 := HQ6.out.pt.p1
          have e2 := HQ6.out.pt.pf
          have e3 := HQ6.out.pt.pg
          have f0 := HQ6.out.q0
          have f1 := HQ6.out.q1
          by_cases hv : Y = Y2
          · have bv : (Y != Y2) = false := by simp [hv]
            have HV := Lib.hid hv
            clear hv
            go_wp2_with fail
            refine ⟨⟨k + 1, by omega, by go_num, Lib.hid ?_⟩, by simp [intOf]; omega⟩
            rw [HX2.out, HY2.out]
            exact (HQ6.out.st.flat (by rw [HY.out, HY2.out, HV.out])).put _ _
          · have bv : (Y != Y2) = true := by simp [hv]
            have HV := Lib.hid hv
            obtain ⟨r, hr⟩ : ∃ r, min Y Y2 = r := ⟨_, rfl⟩
            have hr1 : -9223372036854775808 ≤ r ∧ r ≤ 9223372036854775807 := by omega
            have HR := Lib.hid hr
            obtain ⟨D, val, hWL, hgv⟩ := HQ6.out.wl
            have HWL := Lib.hid hWL
            have HGV := Lib.hid hgv
            have hb6 := below_one (w := w5) (.cells #[.int .i64 X] 3)
            have HO6 := Lib.hid (pw_own_below (hWL.row r) hb6)
            have HB6 := Lib.hid hb6
            have HL := Lib.hid (Nat.le_trans (wallTo_len s r k) (Nat.le_trans hk hs24))
            have HKEY := Lib.hid (Maps.keyOf_int_mk Tryd.underlying3 (WalkArith.wf_i64 hr1))
            have HHI := Lib.hid HQ6.out.hi
            obtain ⟨i0, hi0, hz0, hz1, hz2⟩ := info_parts info3'
            have HI := Lib.hid hi0
            have HZ := Lib.hid (And.intro hz0 (And.intro hz1 hz2))
            clear hi0 hz0 hz1 hz2 hv hr1 hWL hgv hb6
            go_wp2_with (first | (at_lookup; go_loud (refine wpList_lookup_held _ rfl _ _ 100 rfl law3 Tryd.underlying100 zero98 rfl HWL.out.own _ (.int .i64 r) rfl HKEY.out ?_); intro v hvv; have hve := (HWL.out.at_ r).symm.trans hvv; injection hve with hve; subst hve; clear hvv) | (at_builtin; go_loud (refine wpList_append_own_at _ rfl (.tmp 40) (.tmp 43) 98 rfl (w.heap.size + 3) 3 i0 (.int .i64 0) 1 8 Tryd.underlying98 HI.out HZ.out.1 HZ.out.2.1 HZ.out.2.2 rfl (by decide) (val r) _ _ rfl HO6.out ⟨w5.heap.size, 0, none⟩ 1 1 [.int .i64 X] rfl rfl (cell_one_new _ _ _) (ints_oneCell .i64 [X]) (by have := HL.out; unfold maxLen; omega) (by have := HL.out; omega) (Nat.le_trans HHI.out HB6.out.size) ?_); intro v1 w8 hown1 hgrow1 hnil1 hloc1; have HO8 := Lib.hid hown1; have HG8 := Lib.hid hgrow1; have HL8 := Lib.hid hloc1; clear hown1 hgrow1 hnil1 hloc1) | (at_mapUpdate; go_loud (refine wpList_mapUpdate_own _ rfl _ _ _ 100 rfl 3 98 law3 Tryd.underlying100 RV w.heap.size k D rfl ((HWL.out.own.kept (grown_of_below HB6.out) (by simp)).kept HG8.out (fun q => by have := (own_low HO6.out _ q.symm).1; omega)) (by unfold maxLen; omega) _ _ (.int .i64 r) rfl rfl HKEY.out (.held v1) [] rfl ?_); intro w9 hown9 hgrow9; have HQ9 := Lib.hid (HQ6.out.wall HWL.out HGV.out (by rw [HY.out, HY2.out]; exact HV.out) (by rw [HY.out, HY2.out]; exact HR.out) HX.out HB6.out HO8.out HG8.out HL8.out trivial hown9 hgrow9); clear hown9 hgrow9 e0 e1 e2 e3 f0 f1; have e0 := HQ9.out.pt.p0; have e1 := HQ9.out.pt.p1; have e2 := HQ9.out.pt.pf; have e3 := HQ9.out.pt.pg; have f0 := HQ9.out.q0; have f1 := HQ9.out.q1))
            refine ⟨⟨k + 1, by omega, by go_num, Lib.hid ?_⟩, by simp [intOf]; omega⟩
            rw [HX2.out, HY2.out]
            exact HQ9.out.st.put _ _
      · skip
        refine alloc_step (cs := #[.int .i64 0, .int .i64 0]) (t := 63) (by rfl) rfl (by go_simp) ?_
        intro g hg w2 hbk hba
        have HQ2 := Lib.hid (StQ.start HS.out.draw hg hbk hba)
        clear hg hbk hba
        refine hK.out _ _ ⟨hX ▸ HQ2.out.pt.p0, hY ▸ HQ2.out.pt.p1⟩ (fun hHeld => ?_)
        clear hK K
        refine norm_ (a' := ?_) ?_ ?_
        rotate_left
        · show Act.put _ (some 7) _ = _; simp only [Act.put, List.setIfInBounds_toArray, List.set_cons_zero, List.set_cons_succ, i64_w, i32_w]; rfl
        refine one_ (i := 2) (N := (some 24)) #[true, true, true, false, true, false] rfl rfl (by kernel_rfl) (by decide) (fun K hK => ?_)
        refine goes_ Tryd.func69 (by kernel_rfl) rfl #[.int .u8 (bt s k)] (by rfl) rfl rfl (by (try simp only [List.map_toArray, List.map_cons, List.map_nil]); first | done | rfl) ?_
        refine (step_calls _ _).mono ?_
        rintro e w3 ⟨rfl, hb2⟩
        refine ⟨_, rfl, ?_⟩
        have HQ3 := Lib.hid (HQ2.out.later hb2)
        clear hb2
        refine hK.out _ _ ⟨hX ▸ HQ3.out.pt.p0, hY ▸ HQ3.out.pt.p1⟩ (fun hHeld => ?_)
        clear hK K
        refine norm_ (a' := ?_) ?_ ?_
        rotate_left
        · show Act.put _ (some 24) _ = _; simp only [Act.put, List.setIfInBounds_toArray, List.set_cons_zero, List.set_cons_succ, i64_w, i32_w]; rfl
        refine one_ (i := 3) (N := (some 25)) #[true, true, true, true, true, false] rfl rfl (by kernel_rfl) (by decide) (fun K hK => ?_)
        refine goes_ Tryd.func65 (by kernel_rfl) rfl #[ptV X Y, ptV (stepx (bt s k)) (stepy (bt s k))] (by rfl) rfl rfl (by (try simp only [List.map_toArray, List.map_cons, List.map_nil]); first | done | rfl) ?_
        refine (plus_calls _ _ _ _ _).mono ?_
        rintro e w4 ⟨rfl, hb2⟩
        refine ⟨_, rfl, ?_⟩
        have HQ4 := Lib.hid (HQ3.out.later hb2)
        clear hb2
        refine hK.out _ _ ⟨hX ▸ HQ4.out.pt.p0, hY ▸ HQ4.out.pt.p1⟩ (fun hHeld => ?_)
        clear hK K
        refine norm_ (a' := ?_) ?_ ?_
        rotate_left
        · show Act.put _ (some 25) _ = _; simp only [Act.put, List.setIfInBounds_toArray, List.set_cons_zero, List.set_cons_succ, i64_w, i32_w]; rfl
        have d0 := HQ4.out.q0
        have d1 := HQ4.out.q1
        have d2 := HQ4.out.qf
        have d3 := HQ4.out.qg
        refine last_ (i := 5) (N := none) #[true, true, true, true, true, true] rfl rfl (by kernel_rfl) (by decide) (fun K hK => ?_)
        refine skip_step (w1 := (w4.setCell ⟨g, 0, none⟩ (.int .i64 (wrap64 (X + stepx (bt s k))))).setCell ⟨g, 1, none⟩ (.int .i64 (wrap64 (Y + stepy (bt s k))))) (by rfl) (by unfold ptV; go_simp) ?_
        refine hK.out _ _ ?_
        clear hK K
        refine norm_ (a' := ?_) ?_ ?_
        rotate_left
        · show Act.put _ none _ = _; simp only [Act.put, List.setIfInBounds_toArray, List.set_cons_zero, List.set_cons_succ, i64_w, i32_w]; rfl
        refine done_ (by kernel_rfl) ?_
        clear d0 d1 d2 d3 hHeld
        have HQ5 := Lib.hid (HQ4.out.set1 (wrap64 (X + stepx (bt s k))) (wrap64 (Y + stepy (bt s k))))
        clear HQ4
        generalize (w4.setCell ⟨g, 0, none⟩ (.int .i64 (wrap64 (X + stepx (bt s k))))).setCell ⟨g, 1, none⟩ (.int .i64 (wrap64 (Y + stepy (bt s k)))) = w5 at HQ5 ⊢
        rw [← hX, ← hY, sumx_succ s k (by omega), sumy_succ s k (by omega)] at HQ5
        have HQ6 : Hid (StQ w s k X Y g (sumx s (k + 1)) (sumy s (k + 1)) w5) := by rw [← hX, ← hY]; exact HQ5
        have by1 := sumy_le s k
        have by2 := sumy_le s (k + 1)
        rw [hY] at by1
        obtain ⟨X2, hX2⟩ : ∃ X2, sumx s (k + 1) = X2 := ⟨_, rfl⟩
        obtain ⟨Y2, hY2⟩ : ∃ Y2, sumy s (k + 1) = Y2 := ⟨_, rfl⟩
        rw [hX2, hY2] at HQ6
        rw [hY2] at by2
        have HX := Lib.hid hX
        have HY := Lib.hid hY
        have HX2 := Lib.hid hX2
        have HY2 := Lib.hid hY2
        clear hX hY hX2 hY2 HQ5
        have e0 := HQ6.out.pt.p0
        have e1 := HQ6.out.pt.p1
        have e2 := HQ6.out.pt.pf
        have e3 := HQ6.out.pt.pg
        have f0 := HQ6.out.q0
        have f1 := HQ6.out.q1
        by_cases hv : Y = Y2
        · have bv : (Y != Y2) = false := by simp [hv]
          have HV := Lib.hid hv
          clear hv
          go_wp2_with fail
          refine ⟨⟨k + 1, by omega, by go_num, Lib.hid ?_⟩, by simp [intOf]; omega⟩
          rw [HX2.out, HY2.out]
          exact (HQ6.out.st.flat (by rw [HY.out, HY2.out, HV.out])).put _ _
        · have bv : (Y != Y2) = true := by simp [hv]
          have HV := Lib.hid hv
          obtain ⟨r, hr⟩ : ∃ r, min Y Y2 = r := ⟨_, rfl⟩
          have hr1 : -9223372036854775808 ≤ r ∧ r ≤ 9223372036854775807 := by omega
          have HR := Lib.hid hr
          obtain ⟨D, val, hWL, hgv⟩ := HQ6.out.wl
          have HWL := Lib.hid hWL
          have HGV := Lib.hid hgv
          have hb6 := below_one (w := w5) (.cells #[.int .i64 X] 3)
          have HO6 := Lib.hid (pw_own_below (hWL.row r) hb6)
          have HB6 := Lib.hid hb6
          have HL := Lib.hid (Nat.le_trans (wallTo_len s r k) (Nat.le_trans hk hs24))
          have HKEY := Lib.hid (Maps.keyOf_int_mk Tryd.underlying3 (WalkArith.wf_i64 hr1))
          have HHI := Lib.hid HQ6.out.hi
          obtain ⟨i0, hi0, hz0, hz1, hz2⟩ := info_parts info3'
          have HI := Lib.hid hi0
          have HZ := Lib.hid (And.intro hz0 (And.intro hz1 hz2))
          clear hi0 hz0 hz1 hz2 hv hr1 hWL hgv hb6
          go_wp2_with (first | (at_lookup; go_loud (refine wpList_lookup_held _ rfl _ _ 100 rfl law3 Tryd.underlying100 zero98 rfl HWL.out.own _ (.int .i64 r) rfl HKEY.out ?_); intro v hvv; have hve := (HWL.out.at_ r).symm.trans hvv; injection hve with hve; subst hve; clear hvv) | (at_builtin; go_loud (refine wpList_append_own_at _ rfl (.tmp 40) (.tmp 43) 98 rfl (w.heap.size + 3) 3 i0 (.int .i64 0) 1 8 Tryd.underlying98 HI.out HZ.out.1 HZ.out.2.1 HZ.out.2.2 rfl (by decide) (val r) _ _ rfl HO6.out ⟨w5.heap.size, 0, none⟩ 1 1 [.int .i64 X] rfl rfl (cell_one_new _ _ _) (ints_oneCell .i64 [X]) (by have := HL.out; unfold maxLen; omega) (by have := HL.out; omega) (Nat.le_trans HHI.out HB6.out.size) ?_); intro v1 w8 hown1 hgrow1 hnil1 hloc1; have HO8 := Lib.hid hown1; have HG8 := Lib.hid hgrow1; have HL8 := Lib.hid hloc1; clear hown1 hgrow1 hnil1 hloc1) | (at_mapUpdate; go_loud (refine wpList_mapUpdate_own _ rfl _ _ _ 100 rfl 3 98 law3 Tryd.underlying100 RV w.heap.size k D rfl ((HWL.out.own.kept (grown_of_below HB6.out) (by simp)).kept HG8.out (fun q => by have := (own_low HO6.out _ q.symm).1; omega)) (by unfold maxLen; omega) _ _ (.int .i64 r) rfl rfl HKEY.out (.held v1) [] rfl ?_); intro w9 hown9 hgrow9; have HQ9 := Lib.hid (HQ6.out.wall HWL.out HGV.out (by rw [HY.out, HY2.out]; exact HV.out) (by rw [HY.out, HY2.out]; exact HR.out) HX.out HB6.out HO8.out HG8.out HL8.out trivial hown9 hgrow9); clear hown9 hgrow9 e0 e1 e2 e3 f0 f1; have e0 := HQ9.out.pt.p0; have e1 := HQ9.out.pt.p1; have e2 := HQ9.out.pt.pf; have e3 := HQ9.out.pt.pg; have f0 := HQ9.out.q0; have f1 := HQ9.out.q1))
          refine ⟨⟨k + 1, by omega, by go_num, Lib.hid ?_⟩, by simp [intOf]; omega⟩
          rw [HX2.out, HY2.out]
          exact HQ9.out.st.put _ _
    · have hk2 : k = s.size := by omega
      subst hk2
      obtain ⟨D, val, hWL⟩ := HS.out.wl
      obtain ⟨f, hf⟩ : ∃ f : Int → List Int, f = fun y => wallTo s y s.size := ⟨_, rfl⟩
      rw [← hf] at hWL
      have HAT := Lib.hid hWL.at_
      have HHAS := Lib.hid hWL.has_
      have HOFF := Lib.hid hWL.off
      have HROW : Hid (∀ y, ∃ C w', World.ownsRow w' C 3 1 (val y) (f y).length ((f y).map (Value.int .i64))) := Lib.hid fun y => ⟨_, _, hWL.row y⟩
      have HWL := Lib.hid hWL
      have HBL := Lib.hid HS.out.bl
      have HHI := Lib.hid HS.out.hi
      have HB1 : Hid (∀ y, ∀ x ∈ f y, -24 ≤ x ∧ x ≤ 24) := Lib.hid (by subst hf; exact fun y => wallTo_in hs24 y s.size (Nat.le_refl _))
      have HB2 : Hid (∀ y, (f y).length ≤ 24) := Lib.hid (by subst hf; exact fun y => Nat.le_trans (wallTo_len s y s.size) hs24)
      have HF := Lib.hid hf
      clear hWL hk HS
      go_wp2_with (first | (at_range; go_loud (refine wpList_range_own wr rfl _ 100 rfl 3 98 law3 Tryd.underlying100 RV w.heap.size s.size D rfl HWL.out.own ?_); intro w0 hrg0 hg0 hs0; have HR0 := Lib.hid (RgS.start HWL.out HBL.out HHI.out hrg0 hg0 hs0); clear hrg0 hg0 hs0) | go_in)
      go_frame
      clear hlt hf HWL HBL
      generalize wr.heap.size = C2 at HR0 HHI ⊢
      clear wr
      go_loopw [9] (fun v wr => ∃ vis left cnt, Hid (RgS w C2 f D val s.size C2 vis left cnt v wr)) (fun _ wr => wr.rangeLeft w.heap.size C2)
      case atStart => exact ⟨_, _, _, HR0⟩
      case round =>
        clear HR0
        obtain ⟨vis, left, cnt, HR⟩ := hrel
        obtain ⟨wo, rfl⟩ : ∃ wo : World, wo = wr := ⟨_, rfl⟩
        go_wp2_with (first | (at_next; go_loud (refine wpList_next_rows rfl _ rfl HR.out HHAS.out HOFF.out HHI.out HAT.out rfl ?_ ?_)) | go_in)
        · intro hl0
          have HL0 := Lib.hid hl0
          clear hl0
          go_wp2_with fail
          have hvis := HR.out.all HL0.out HAT.out HROW.out
          have hlen0 : 0 < (outOf f vis).length := List.length_pos_iff.2 (HNE.out vis HR.out.nd (by have e := HF.out; subst e; exact hvis) |> fun h => by have e := HF.out; subst e; exact h)
          have hlen1 : (outOf f vis).length < 4611686018427387904 := by
            have := outOf_small HB1.out HB2.out (vis := vis) (by have := HR.out.cv; omega) 0 (j := 0) (by omega)
            rw [List.length_append] at this
            omega
          refine (sort_pts HR.out.out hlen0 hlen1).mono ?_
          rintro e w3 ⟨rfl, l', hp, hpw, ho, hg⟩
          have HO := Lib.hid ho
          have HP := Lib.hid (And.intro hp (And.intro hpw hvis))
          have HB3 : Hid (Below w.heap.size w w3) := Lib.hid (HR.out.bl.grown hg HR.out.bl.size (fun c hc => by have := (own_low HR.out.out c hc).1; have := HHI.out; omega))
          clear ho hp hpw hg hlen0 hlen1 hvis
          go_wp2
          go_ret
          refine ⟨⟨_, rfl, vis, l', HR.out.nd, ?_, ?_, HP.out.2.1, ?_⟩, HB3.out⟩
          · have e := HF.out; subst e; exact HP.out.2.2
          · have e := HF.out; subst e; exact HP.out.1
          · exact own_lower HO.out (by have := HHI.out; omega)
        · intro x w1 left1 cnt1 hlt hx1 hx2 hcome hen
          have hnot : x ∉ vis := fun q => by
            have := List.nodup_append.1 hcome.nd
            exact this.2.2 x q x (by simp) rfl
          have hpos : 0 < (f x).length := List.length_pos_iff.2 (hcome.ne x (by simp))
          have hb2 := HB2.out x
          have HC := Lib.hid hcome
          have HLT := Lib.hid hlt
          clear hcome hlt
          go_wp2_with fail
          refine (sort_row (HC.out.row x hnot) hpos (by omega)).mono ?_
          rintro e w2 ⟨rfl, hr2, hg2⟩
          have HQ := Lib.hid (HC.out.sorted hr2 hg2)
          clear hr2 hg2 HC hen hnot
          obtain ⟨g, cap, cur, hv, -⟩ := own_block HQ.out.cur hpos
          obtain ⟨L, hL⟩ : ∃ L, (f x).length = L := ⟨_, rfl⟩
          rw [hL] at hv hb2 hpos
          rw [hv]
          have HV := Lib.hid hv
          have HL := Lib.hid hL
          have HQ0 : Hid (RowS w C2 f D val s.size vis x left1 cnt1 (outOf f vis ++ rowTo x (srt (f x)) (0 / 2)) u9 w2) := Lib.hid (by rw [Nat.zero_div, rowTo, List.append_nil]; exact HQ.out)
          clear hv hL HQ
          go_wp2_with fail
          go_loopw [12, 9] (fun i v wr => ∃ i' : Nat, i' % 2 = 0 ∧ i' ≤ L ∧ i = .int .i64 (i' : Int) ∧ Hid (RowS w C2 f D val s.size vis x left1 cnt1 (outOf f vis ++ rowTo x (srt (f x)) (i' / 2)) v wr)) (fun i _ _ => L - (intOf i).toNat)
          case atStart => exact ⟨0, rfl, by omega, rfl, HQ0⟩
          case round =>
            clear HQ0
            obtain ⟨i, hi2, hiL, rfl, HQ⟩ := hrel
            obtain ⟨wp, rfl⟩ : ∃ wp : World, wp = wr := ⟨_, rfl⟩
            by_cases hlt : i + 1 < L
            · obtain ⟨A, hA⟩ : ∃ A, (srt (f x)).getD i 0 = A := ⟨_, rfl⟩
              obtain ⟨B, hB⟩ : ∃ B, (srt (f x)).getD (i + 1) 0 = B := ⟨_, rfl⟩
              have a1 := row_bnd HB1.out x (i := i) (by rw [HL.out]; omega)
              have a2 := row_bnd HB1.out x (i := i + 1) (by rw [HL.out]; omega)
              rw [hA] at a1
              rw [hB] at a2
              have c1 := HQ.out.at_ HV.out HL.out (i := i) (by omega)
              rw [hA] at c1
              have HA := Lib.hid hA
              have HB := Lib.hid hB
              clear hA hB
              go_wp2_with fail
              have HQ0 : Hid (RowS w C2 f D val s.size vis x left1 cnt1 (outOf f vis ++ rowTo x (srt (f x)) (i / 2) ++ spanTo x A 0) u9 wp) := Lib.hid (by rw [spanTo, List.append_nil]; exact HQ.out)
              clear c1
              rw [show decide ((i : Int) + 1 < (L : Int)) = true from decide_eq_true (by omega)]
              go_loopw [13, 9] (fun z v wr => ∃ m : Nat, m ≤ (B - A).toNat ∧ z = .int .i64 (A + m) ∧ Hid (RowS w C2 f D val s.size vis x left1 cnt1 (outOf f vis ++ rowTo x (srt (f x)) (i / 2) ++ spanTo x A m) v wr)) (fun z _ _ => (B - intOf z).toNat)
              case atStart => exact ⟨0, by omega, by simp, HQ0⟩
              case round =>
                clear HQ0 HQ
                obtain ⟨m, hm, rfl, HQ⟩ := hrel
                obtain ⟨wq, rfl⟩ : ∃ wq : World, wq = wr := ⟨_, rfl⟩
                obtain ⟨z, hz⟩ : ∃ z : Int, A + (m : Int) = z := ⟨_, rfl⟩
                rw [hz]
                have c2 := HQ.out.at_ HV.out HL.out (i := i + 1) hlt
                rw [HB.out] at c2
                have hz1 : -24 ≤ z ∧ z ≤ 72 := by omega
                have HZ := Lib.hid hz
                clear hz
                by_cases hzb : z < B
                · have hb7 := below_one (w := wq) (.cells #[.int .i64 z, .int .i64 x] 63)
                  have HQ7 := Lib.hid (HQ.out.later hb7)
                  have hlen : (outOf f vis ++ rowTo x (srt (f x)) (i / 2) ++ spanTo x A m).length ≤ 28848 := by
                    have h1 := outOf_small HB1.out HB2.out (vis := vis) (by have := HQ.out.cv; omega) x (j := i / 2) (by rw [HL.out]; omega)
                    rw [List.length_append, spanTo_len]
                    omega
                  have HLEN := Lib.hid hlen
                  obtain ⟨i0, hi0, hz0, hz1', hz2⟩ := info_parts info63
                  have HI := Lib.hid hi0
                  have HZ2 := Lib.hid (And.intro hz0 (And.intro hz1' hz2))
                  clear hb7 hlen hi0 hz0 hz1' hz2
                  go_wp2_with (first | (at_builtin; go_loud (refine wpList_append_own_at _ rfl (.tmp 76) (.tmp 80) 67 rfl (C2 + 1) 63 i0 _ 2 16 Tryd.underlying67 HI.out HZ2.out.1 HZ2.out.2.1 HZ2.out.2.2 rfl (by decide) u9 _ _ rfl HQ7.out.out ⟨wq.heap.size, 0, none⟩ 1 1 [.int .i64 z, .int .i64 x] rfl rfl (two_new _ _ _ _) (by simp [Value.oneCell']) (by have := HLEN.out; unfold maxLen; omega) (by have := HLEN.out; omega) HQ7.out.hi ?_); intro v1 w8 hown1 hgrow1 _ _; have HQ8 := Lib.hid (HQ7.out.put (p := (z, x)) hown1 hgrow1); clear hown1 hgrow1))
                  refine ⟨⟨m + 1, by have := HZ.out; omega, by have := HZ.out; go_num, Lib.hid ?_⟩, by simp [intOf]; omega⟩
                  rw [spanTo, HZ.out, ← List.append_assoc]
                  exact HQ8.out
                · go_wp2_with fail
                  have hm2 : m = (B - A).toNat := by have := HZ.out; omega
                  refine ⟨⟨i + 2, by omega, by omega, by go_num, Lib.hid ?_⟩, by simp [intOf]; omega⟩
                  rw [show (i + 2) / 2 = i / 2 + 1 by omega, rowTo, show 2 * (i / 2) = i by omega, HA.out, HB.out, ← hm2, ← List.append_assoc]
                  exact HQ.out
            · go_wp2_with fail
              refine ⟨⟨vis ++ [x], left1, cnt1, Lib.hid (RowS.done ?_)⟩, ?_⟩
              · rw [rowAll, HL.out, show L / 2 = i / 2 by omega]
                exact HQ.out
              · rw [HQ.out.rg.left_eq, HR.out.rg.left_eq]
                exact HLT.out
end Go.Proofs.YtpfenoioeajkmaaDoor.X
end

section
set_option linter.unusedVariables false
set_option linter.unusedSimpArgs false
namespace Go.Proofs.YtpfenoioeajkmaaDoor.L
open Go.RowKit Go.Proofs.YtpfenoioeajkmaaDoorW.PrintWords Go.Proofs.YtpfenoioeajkmaaDoorW.PrintLast Go.Proofs.YtpfenoioeajkmaaDoorW.PrintMore Go.Proofs.YtpfenoioeajkmaaDoor.X Go.Proofs.YtpfenoioeajkmaaDoor.G
theorem spanTo_mem (y a : Int) (p : Int × Int) : ∀ m, p ∈ spanTo y a m ↔ p.2 = y ∧ a ≤ p.1 ∧ p.1 < a + m
  | 0 => ⟨fun h => (by cases h), fun ⟨_, h1, h2⟩ => (by omega)⟩
  | m + 1 => by
    rw [spanTo, List.mem_append, spanTo_mem y a p m, List.mem_singleton]
    constructor
    · rintro (⟨h1, h2, h3⟩ | rfl)
      · exact ⟨h1, h2, by omega⟩
      · exact ⟨rfl, by show a ≤ a + m; omega, by show a + (m : Int) < a + ((m + 1 : Nat) : Int); omega⟩
    · rintro ⟨h1, h2, h3⟩
      by_cases e : p.1 = a + m
      · right
        rw [← e, ← h1]
      · exact .inl ⟨h1, h2, by omega⟩
theorem spanTo_pw (y a : Int) : ∀ m, (spanTo y a m).Pairwise fun p q => p.1 < q.1
  | 0 => List.Pairwise.nil
  | m + 1 => by
    rw [spanTo, List.pairwise_append]
    refine ⟨spanTo_pw y a m, by simp, fun p hp q hq => ?_⟩
    have h1 := ((spanTo_mem y a p m).1 hp).2.2
    rw [List.mem_singleton] at hq
    rw [hq]
    exact h1
def rows (y : Int) : List Int → List (Int × Int)
  | a :: b :: t => spanTo y a (b - a).toNat ++ rows y t
  | _ => []
theorem rowTo_cons (y a b : Int) (t : List Int) : ∀ j, rowTo y (a :: b :: t) (j + 1) = spanTo y a (b - a).toNat ++ rowTo y t j
  | 0 => by simp [rowTo]
  | j + 1 => by
    rw [rowTo, rowTo_cons y a b t j, rowTo, List.append_assoc]
    rw [show 2 * (j + 1) = 2 * j + 1 + 1 by omega]
    simp only [List.getD_cons_succ]
theorem rowTo_rows (y : Int) : ∀ l : List Int, rowTo y l (l.length / 2) = rows y l
  | [] => rfl
  | [a] => by simp [rowTo, rows]
  | a :: b :: t => by
    rw [show (a :: b :: t).length / 2 = t.length / 2 + 1 by simp only [List.length_cons]; omega, rowTo_cons, rowTo_rows y t]
    rfl
theorem still {g : Int → Int} {p : Int} : ∀ m : Nat, (∀ x, p < x → x ≤ p + m → g (x - 1) = g x) → g (p + m) = g p
  | 0, _ => by simp
  | m + 1, h => by
    have ih := still (g := g) (p := p) m fun x h1 h2 => h x h1 (by omega)
    have := h (p + m + 1) (by omega) (by omega)
    rw [show p + (m : Int) + 1 - 1 = p + m by omega] at this
    rw [show p + ((m + 1 : Nat) : Int) = p + m + 1 by omega, ← this, ih]
theorem still' {g : Int → Int} {p q : Int} (hpq : p ≤ q) (h : ∀ x, p < x → x ≤ q → g (x - 1) = g x) : g q = g p := by
  have := still (g := g) (p := p) (q - p).toNat fun x h1 h2 => h x h1 (by omega)
  rw [show p + ((q - p).toNat : Int) = q by omega] at this
  exact this
theorem rows_spec {g : Int → Int} (hz : ∀ x, g x = 0 ∨ g x = 1) {M : Int} (hM : ∀ x, M ≤ x → g x = 0) (y : Int) : ∀ (l : List Int) (lo : Int), l.Pairwise (· < ·) → (∀ x ∈ l, lo < x) → g lo = 0 → (∀ x, lo < x → (x ∈ l ↔ g (x - 1) ≠ g x)) →
    (∀ p, p ∈ rows y l ↔ p.2 = y ∧ lo < p.1 ∧ g p.1 = 1) ∧ (rows y l).Pairwise fun p q => p.1 < q.1
  | [], lo, _, _, h0, hw => by
    refine ⟨fun p => ⟨fun h => (by cases h), fun ⟨_, h1, h2⟩ => ?_⟩, List.Pairwise.nil⟩
    have := still' (g := g) (p := lo) (q := p.1) (by omega) fun x h3 _ => Classical.byContradiction fun q => by
      have := (hw x h3).2 q
      cases this
    omega
  | [a], lo, _, hl, h0, hw => by
    exfalso
    have ha := hl a (by simp)
    have h1 := still' (g := g) (p := lo) (q := a - 1) (by omega) fun x h3 h4 => Classical.byContradiction fun q => by
      have := (hw x h3).2 q
      rw [List.mem_singleton] at this
      omega
    have h2 := (hw a ha).1 (by simp)
    have h5 := still' (g := g) (p := a) (q := max a M) (by omega) fun x h3 h4 => Classical.byContradiction fun q => by
      have := (hw x (by omega)).2 q
      rw [List.mem_singleton] at this
      omega
    have h6 := hM (max a M) (by omega)
    omega
  | a :: b :: t, lo, hp, hl, h0, hw => by
    have ha := hl a (by simp)
    rw [List.pairwise_cons, List.pairwise_cons] at hp
    obtain ⟨p1, p2, p3⟩ := hp
    have hab := p1 b (by simp)
    have h1 : ∀ q, lo ≤ q → q < a → g q = 0 := fun q q1 q2 => by
      rw [still' (g := g) (p := lo) (q := q) q1 fun x h3 h4 => Classical.byContradiction fun c => by
        have := (hw x h3).2 c
        rw [List.mem_cons, List.mem_cons] at this
        rcases this with e | e | e
        · omega
        · omega
        · have := p2 x e; omega]
      exact h0
    have h2 := (hw a ha).1 (by simp)
    rw [h1 (a - 1) (by omega) (by omega)] at h2
    have h3 : g a = 1 := by rcases hz a with e | e <;> omega
    have h4 : ∀ q, a ≤ q → q < b → g q = 1 := fun q q1 q2 => by
      rw [still' (g := g) (p := a) (q := q) q1 fun x h3 h4 => Classical.byContradiction fun c => by
        have := (hw x (by omega)).2 c
        rw [List.mem_cons, List.mem_cons] at this
        rcases this with e | e | e
        · omega
        · omega
        · have := p2 x e; omega]
      exact h3
    have h5 := (hw b (by omega)).1 (by simp)
    rw [h4 (b - 1) (by omega) (by omega)] at h5
    have h6 : g b = 0 := by rcases hz b with e | e <;> omega
    obtain ⟨r1, r2⟩ := rows_spec hz hM y t b p3 p2 h6 fun x hx => by
      rw [← hw x (by omega), List.mem_cons, List.mem_cons]
      constructor
      · exact fun h => .inr (.inr h)
      · rintro (e | e | e)
        · omega
        · omega
        · exact e
    refine ⟨fun p => ?_, ?_⟩
    · rw [rows, List.mem_append, spanTo_mem, r1]
      constructor
      · rintro (⟨q1, q2, q3⟩ | ⟨q1, q2, q3⟩)
        · exact ⟨q1, by omega, h4 _ q2 (by omega)⟩
        · exact ⟨q1, by omega, q3⟩
      · rintro ⟨q1, q2, q3⟩
        by_cases c1 : p.1 < a
        · have := h1 p.1 (by omega) c1; omega
        · by_cases c2 : p.1 < b
          · exact .inl ⟨q1, by omega, by omega⟩
          · refine .inr ⟨q1, ?_, q3⟩
            by_cases c3 : p.1 = b
            · rw [c3] at q3; omega
            · omega
    · rw [rows, List.pairwise_append]
      refine ⟨spanTo_pw _ _ _, r2, fun p hp q hq => ?_⟩
      have := ((spanTo_mem _ _ _ _).1 hp).2.2
      have := ((r1 q).1 hq).2.1
      omega
def isWall (s : ByteArray) (x y : Int) (i : Nat) : Prop := ((gD s i = 1 ∧ gY s i = y) ∨ (gD s i = 3 ∧ gY s i = y + 1)) ∧ gX s i = x
theorem once {s : ByteArray} (h : isO s = true) {x y : Int} {i j : Nat} (hi : i < s.size) (hj : j < s.size) (a : isWall s x y i) (b : isWall s x y j) : i = j := by
  have L := loop_of h
  have same : gX s i = gX s j → gY s i = gY s j → i = j := fun e1 e2 => by
    have := L.inj i j e1 e2
    rwa [Nat.mod_eq_of_lt hi, Nat.mod_eq_of_lt hj] at this
  have cross : ∀ {i j : Nat}, gD s i = 1 → gY s i = y → gX s i = x → gD s j = 3 → gY s j = y + 1 → gX s j = x → False := fun {i j} d1 y1 x1 d2 y2 x2 => by
    have e := L.inj (i + 1) j (by rw [L.sx, d1, x1, x2]; simp [ux]) (by rw [L.sy, d1, y1, y2]; simp [uy])
    have e1 := L.mod_d (i + 1)
    rw [e, L.mod_d j, d2] at e1
    exact L.no_u i (by rw [← e1, d1])
  obtain ⟨a1, a2⟩ := a
  obtain ⟨b1, b2⟩ := b
  rcases a1 with ⟨a1, a3⟩ | ⟨a1, a3⟩ <;> rcases b1 with ⟨b1, b3⟩ | ⟨b1, b3⟩
  · exact same (by omega) (by omega)
  · exact (cross a1 a3 a2 b1 b3 b2).elim
  · exact (cross b1 b3 b2 a1 a3 a2).elim
  · exact same (by omega) (by omega)
theorem wallTo_step {s : ByteArray} (h : isO s = true) (y : Int) {k : Nat} (hk : k < s.size) (x : Int) : (x ∈ if sumy s k ≠ sumy s (k + 1) ∧ min (sumy s k) (sumy s (k + 1)) = y then [sumx s k] else []) ↔ isWall s x y k := by
  obtain ⟨hw, h4, -, -, -⟩ := isO_parts h
  have hl := ((isW_iff s).1 hw).2
  have hk' : k % s.size = k := Nat.mod_eq_of_lt hk
  have hs := (cd_step (hl k hk)).2
  have e0 : sumy s (k + 1) = sumy s k + stepy (bt s (k : Int)) := rfl
  unfold isWall gD gX gY
  rw [hk', e0, hs]
  have := cd_lt (bt s (k : Int))
  rcases d_cases this with e | e | e | e <;> rw [e] <;> simp [uy] <;> omega
theorem wallTo_mem {s : ByteArray} (h : isO s = true) (x y : Int) : ∀ k, k ≤ s.size → (x ∈ wallTo s y k ↔ ∃ i, i < k ∧ isWall s x y i)
  | 0, _ => ⟨fun h => (by cases h), fun ⟨i, h, _⟩ => (by omega)⟩
  | k + 1, hk => by
    rw [wallTo, List.mem_append, wallTo_mem h x y k (by omega), wallTo_step h y (by omega)]
    constructor
    · rintro (⟨i, h1, h2⟩ | h)
      · exact ⟨i, by omega, h2⟩
      · exact ⟨k, by omega, h⟩
    · rintro ⟨i, h1, h2⟩
      by_cases e : i = k
      · subst e; exact .inr h2
      · exact .inl ⟨i, by omega, h2⟩
theorem wallTo_nodup {s : ByteArray} (h : isO s = true) (y : Int) : ∀ k, k ≤ s.size → (wallTo s y k).Nodup
  | 0, _ => List.nodup_nil
  | k + 1, hk => by
    rw [wallTo, List.nodup_append]
    refine ⟨wallTo_nodup h y k (by omega), by split <;> simp, fun a ha b hb => ?_⟩
    obtain ⟨i, hi, h1⟩ := (wallTo_mem h a y k (by omega)).1 ha
    have h2 := (wallTo_step h y (by omega) b).1 hb
    intro e
    subst e
    have := once h (by omega) (by omega) h1 h2
    omega
theorem wall_cross {s : ByteArray} (h : isO s = true) (x y : Int) : x ∈ wallTo s y s.size ↔ gW s (x - 1) y ≠ gW s x y := by
  have L := loop_of h
  have hc := cross_v L x y
  rw [wallTo_mem h x y s.size (Nat.le_refl _)]
  have off : ∀ i, ¬ isWall s x y i → (if gD s i = 1 ∧ gX s i = x ∧ gY s i = y then (1 : Int) else 0) - (if gD s i = 3 ∧ gX s i = x ∧ gY s i = y + 1 then 1 else 0) = 0 := fun i hi => by
    unfold isWall at hi
    rw [if_neg (fun c => hi ⟨.inl ⟨c.1, c.2.2⟩, c.2.1⟩), if_neg (fun c => hi ⟨.inr ⟨c.1, c.2.2⟩, c.2.1⟩)]
    rfl
  constructor
  · rintro ⟨i, hi, hw⟩ e
    unfold gW at e
    rw [e, Int.sub_self, S_one (k := i) hi fun j hj hne => off j fun hj2 => hne (once h hj hi hj2 hw)] at hc
    obtain ⟨a, b⟩ := hw
    rcases a with ⟨a, c⟩ | ⟨a, c⟩
    · rw [if_pos ⟨a, b, c⟩, if_neg (fun q => by rw [a] at q; omega)] at hc
      omega
    · rw [if_neg (fun q => by rw [a] at q; omega), if_pos ⟨a, b, c⟩] at hc
      omega
  · intro hne
    refine Classical.byContradiction fun q => hne ?_
    rw [S_zero fun i hi => off i fun c => q ⟨i, hi, c⟩] at hc
    unfold gW
    omega
theorem row_spec {s : ByteArray} (h : isO s = true) (y : Int) : (∀ p, p ∈ rowAll (fun y => wallTo s y s.size) y ↔ p.2 = y ∧ gW s p.1 y = 1) ∧ (rowAll (fun y => wallTo s y s.size) y).Pairwise fun p q => p.1 < q.1 := by
  have h24 := isW_le (isO_W h)
  have e0 : rowAll (fun y => wallTo s y s.size) y = rows y (srt (wallTo s y s.size)) := by
    rw [← rowTo_rows, srt_len]
    rfl
  have zero : ∀ x, ¬ (-24 ≤ x ∧ x ≤ 23) → gW s x y = 0 := fun x hx => by
    rcases gW_zo h x y with e | e
    · exact e
    · have := gW_in h e; omega
  have hnd : (srt (wallTo s y s.size)).Nodup := (List.Perm.nodup_iff (List.mergeSort_perm _ _)).2 (wallTo_nodup h y _ (Nat.le_refl _))
  have hpw : (srt (wallTo s y s.size)).Pairwise (· < ·) := by
    have h1 := List.pairwise_mergeSort (le := fun x y : Int => decide (x ≤ y)) (fun a b c h1 h2 => by simp at *; omega) (fun a b => by simp; omega) (wallTo s y s.size)
    have h2 : (srt (wallTo s y s.size)).Pairwise (fun a b => a ≠ b) := hnd
    exact (List.pairwise_and_iff.2 ⟨h1, h2⟩).imp fun {a b} q => by
      have := q.1
      have := q.2
      simp at *
      omega
  rw [e0]
  obtain ⟨r1, r2⟩ := rows_spec (g := fun x => gW s x y) (fun x => gW_zo h x y) (M := 24) (fun x hx => zero x (by omega)) y (srt (wallTo s y s.size)) (-25) hpw (fun x hx => by
    have := wallTo_in h24 y s.size (Nat.le_refl _) x ((srt_mem _ _).1 hx); omega) (zero _ (by omega)) (fun x _ => by rw [srt_mem]; exact wall_cross h x y)
  refine ⟨fun p => ?_, r2⟩
  rw [r1]
  constructor
  · rintro ⟨a, -, b⟩; exact ⟨a, b⟩
  · rintro ⟨a, b⟩
    have := gW_in h b
    exact ⟨a, by omega, b⟩
end Go.Proofs.YtpfenoioeajkmaaDoor.L
end

section
set_option linter.unusedVariables false
set_option linter.unusedSimpArgs false
namespace Go.Proofs.YtpfenoioeajkmaaDoor.L
open Go.RowKit Go.Proofs.YtpfenoioeajkmaaDoorW.PrintWords Go.Proofs.YtpfenoioeajkmaaDoorW.PrintLast Go.Proofs.YtpfenoioeajkmaaDoorW.PrintMore Go.Proofs.YtpfenoioeajkmaaDoor.X Go.Proofs.YtpfenoioeajkmaaDoor.G
theorem out_mem {s : ByteArray} (h : isO s = true) {vis : List Int} (hv : ∀ y, y ∈ vis ↔ wallTo s y s.size ≠ []) (x y : Int) : (x, y) ∈ outOf (fun y => wallTo s y s.size) vis ↔ gW s x y = 1 := by
  unfold outOf
  rw [List.mem_flatMap]
  constructor
  · rintro ⟨z, h1, h2⟩
    obtain ⟨e, h3⟩ := ((row_spec h z).1 (x, y)).1 h2
    have e : y = z := e
    subst e
    exact h3
  · intro hw
    refine ⟨y, (hv y).2 fun q => ?_, ((row_spec h y).1 (x, y)).2 ⟨rfl, hw⟩⟩
    have := ((row_spec h y).1 (x, y)).2 ⟨rfl, hw⟩
    unfold rowAll at this
    simp only [q] at this
    simp [rowTo] at this
theorem out_nodup {s : ByteArray} (h : isO s = true) : ∀ vis : List Int, vis.Nodup → (outOf (fun y => wallTo s y s.size) vis).Nodup
  | [], _ => List.nodup_nil
  | y :: vis, hn => by
    rw [List.nodup_cons] at hn
    show (rowAll (fun y => wallTo s y s.size) y ++ outOf (fun y => wallTo s y s.size) vis).Nodup
    rw [List.nodup_append]
    refine ⟨(row_spec h y).2.imp fun q e => by rw [e] at q; omega, out_nodup h vis hn.2, fun a ha b hb e => ?_⟩
    subst e
    have h1 := (((row_spec h y).1 a).1 ha).1
    unfold outOf at hb
    rw [List.mem_flatMap] at hb
    obtain ⟨z, h2, h3⟩ := hb
    have h4 := (((row_spec h z).1 a).1 h3).1
    rw [h1] at h4
    exact hn.1 (h4 ▸ h2)
theorem col_pw (s : ByteArray) (x : Int) : ∀ m, (colTo s x m).Pairwise fun p q => ltP q p = false
  | 0 => List.Pairwise.nil
  | m + 1 => by
    rw [colTo, List.pairwise_append]
    refine ⟨col_pw s x m, by split <;> simp, fun p hp q hq => ?_⟩
    obtain ⟨j, hj, -, rfl⟩ := (mem_col s x p m).1 hp
    split at hq
    · rw [List.mem_singleton] at hq
      subst hq
      unfold ltP
      simp
      omega
    · cases hq
theorem cells_pw' (s : ByteArray) : ∀ m, (cellsTo s m).Pairwise fun p q => ltP q p = false
  | 0 => List.Pairwise.nil
  | m + 1 => by
    rw [cellsTo, List.pairwise_append]
    refine ⟨cells_pw' s m, col_pw s _ _, fun p hp q hq => ?_⟩
    obtain ⟨i, hi, h1⟩ := (mem_cells' s p m).1 hp
    obtain ⟨j, hj, -, rfl⟩ := (mem_col s _ p _).1 h1
    obtain ⟨j2, hj2, -, rfl⟩ := (mem_col s _ q _).1 hq
    unfold ltP
    simp
    omega
theorem rcl_pw (s : ByteArray) : (rcl s).Pairwise fun p q => ltP q p = false := by
  unfold rcl
  exact cells_pw' s 49
theorem sorted_rcl {s : ByteArray} (h : isO s = true) {vis : List Int} {l : List (Int × Int)} (hn : vis.Nodup) (hv : ∀ y, y ∈ vis ↔ wallTo s y s.size ≠ []) (hp : l.Perm (outOf (fun y => wallTo s y s.size) vis)) (hs : l.Pairwise fun p q => ltP q p = false) : l = rcl s := by
  have h1 : (outOf (fun y => wallTo s y s.size) vis).Perm (rcl s) := (List.perm_ext_iff_of_nodup (out_nodup h vis hn) (cells_nodup s)).2 fun ⟨x, y⟩ => by rw [out_mem h hv, mem_cells h]
  refine List.Perm.eq_of_pairwise (le := fun p q => ltP q p = false) (fun a b _ _ e1 e2 => ?_) hs (rcl_pw s) (hp.trans h1)
  unfold ltP at e1 e2
  simp at e1 e2
  have e3 : a.1 = b.1 := by omega
  have e4 : a.2 = b.2 := by omega
  exact Prod.ext e3 e4
theorem some_cell {s : ByteArray} (h : isO s = true) : ∃ x y, gW s x y = 1 := by
  have hp := area_pos h
  rw [← (loop_of h).area (box_of h)] at hp
  obtain ⟨x, -, -, h1⟩ := Z_pos hp
  obtain ⟨y, -, -, h2⟩ := Z_pos h1
  have := gW_zo h x y
  unfold gW at this
  exact ⟨x, y, by unfold gW; omega⟩
theorem cells_ok {s : ByteArray} (h : isO s = true) (w : World) : Calls Tryd.prog 73 #[.string s] w fun e w' => (∃ v, e = .returned v ∧ OwnP w.heap.size 63 w' v (rcl s)) ∧ Below w.heap.size w w' := by
  refine (cells_calls s (isO_W h) (fun vis _ hv e => ?_) w).mono ?_
  · obtain ⟨x, y, hxy⟩ := some_cell h
    have := (out_mem h hv x y).2 hxy
    rw [e] at this
    cases this
  · rintro e w' ⟨⟨v, rfl, vis, l, h1, h2, h3, h4, h5⟩, hb⟩
    rw [sorted_rcl h h1 h2 h3 h4] at h5
    exact ⟨⟨v, rfl, h5⟩, hb⟩
end Go.Proofs.YtpfenoioeajkmaaDoor.L
end

section
set_option linter.unusedVariables false
set_option linter.unusedSimpArgs false
namespace Go.Proofs.YtpfenoioeajkmaaDoor.X
open Go.RowKit Go.Proofs.YtpfenoioeajkmaaDoorW.PrintWords Go.Proofs.YtpfenoioeajkmaaDoorW.PrintLast Go.Proofs.YtpfenoioeajkmaaDoorW.PrintMore Go.Proofs.YtpfenoioeajkmaaDoor.L
theorem take_p (l : List (Int × Int)) {k : Nat} (h : k < l.length) : l.take (k + 1) = l.take k ++ [(pX l k, pY l k)] := by
  rw [List.take_add_one, List.getElem?_eq_getElem h]
  unfold pX pY
  rw [List.getD_eq_getElem?_getD, List.getElem?_eq_getElem h]
  rfl
set_option maxHeartbeats 4000000 in
set_option maxRecDepth 100000 in
theorem told_calls {C : Nat} {w : World} {v : Value} {l : List (Int × Int)} (h : OwnP C 63 w v l) (hl : l.length ≤ 100) : Calls Tryd.prog 72 #[v] w fun e w' => (∃ u, e = .returned u ∧ OwnP w.heap.size 29 w' u l) ∧ Below w.heap.size w w' := by
  obtain ⟨A, c, rfl, hA⟩ := sl_list h
  obtain ⟨n, hn⟩ : ∃ n, l.length = n := ⟨_, rfl⟩
  rw [hn] at hA hl
  have HP := Lib.hid (show 0 < n → ∃ b off, A = some ⟨b, off, none⟩ ∧ n ≤ c ∧ Pts w b off n (pX l) (pY l) from fun h => by
    rcases hA with ⟨_, h2, _⟩ | ⟨b, off, h1, h4, h3⟩ | ⟨_, _, h2⟩
    · omega
    · exact ⟨b, off, h1, h4, h3⟩
    · omega)
  rw [hn]
  have HN := Lib.hid hn
  clear h hA hn
  go_enter Tryd.func72, Tryd.ntmps72
  go_wp2_with fail
  have HB := Lib.hid (Below.refl w.heap.size w)
  have HO : Hid (OwnP w.heap.size 29 w (.slice none 0 0) (l.take 0)) := Lib.hid (World.ownsRow_nil w w.heap.size 29 2)
  go_loopw [8, 3] (fun i v wr => ∃ k : Nat, k ≤ n ∧ i = .int .i64 k ∧ Hid (OwnP w.heap.size 29 wr v (l.take k)) ∧ Hid (Below w.heap.size w wr)) (fun i _ _ => n - (intOf i).toNat)
  case atStart => exact ⟨0, by omega, rfl, HO, HB⟩
  case round =>
    clear HB HO
    obtain ⟨k, hk, rfl, HO, HB⟩ := hrel
    by_cases hlt : k < n
    · obtain ⟨b', off, rfl, hnc, hP0⟩ := HP.out (by omega)
      have hp := hP0.later HB.out
      have q0 := hp.c0 k hlt
      have q1 := hp.c1 k hlt
      have hkc : k ≤ c := by omega
      have htk := take_p l (k := k) (by rw [HN.out]; exact hlt)
      have HTK := Lib.hid htk
      clear htk
      generalize hx : pX l k = x at q0 HTK
      generalize hy : pY l k = y at q1 HTK
      have hb1 := below_one (w := wr) (.cells #[.int .i64 x, .int .i64 y] 63)
      have hb2 := below_one (w := wr.alloc (.cells #[.int .i64 x, .int .i64 y] 63)) (.cells #[.int .i64 x, .int .i64 y] 29)
      have HO2 : Hid (OwnP w.heap.size 29 ((wr.alloc (.cells #[.int .i64 x, .int .i64 y] 63)).alloc (.cells #[.int .i64 x, .int .i64 y] 29)) u3 (l.take k)) := Lib.hid (pw_own_below (pw_own_below HO.out hb1) hb2)
      have HBA := Lib.hid (HB.out.trans ((hb1.trans (hb2.mono hb1.size)).mono HB.out.size))
      have HNW : Hid (∀ j u, [Value.int .i64 x, .int .i64 y][j]? = some u → ((wr.alloc (.cells #[.int .i64 x, .int .i64 y] 63)).alloc (.cells #[.int .i64 x, .int .i64 y] 29)).cell? ((⟨wr.heap.size + 1, 0, none⟩ : Addr).add j) = some u) := Lib.hid (by
        have e : (wr.alloc (.cells #[.int .i64 x, .int .i64 y] 63)).heap.size = wr.heap.size + 1 := by simp
        rw [← e]
        exact two_new _ _ _ _)
      have HLEN := Lib.hid (show (l.take k).length ≤ 100 by rw [List.length_take]; omega)
      obtain ⟨c0, c1⟩ := two_cells wr 63 (.int .i64 x) (.int .i64 y)
      obtain ⟨i0, hi0, hz0, hz1', hz2⟩ := info_parts info29
      have HI := Lib.hid hi0
      have HZ2 := Lib.hid (And.intro hz0 (And.intro hz1' hz2))
      clear hp hP0 HB hb1 hb2 hx hy hi0 hz0 hz1' hz2 HP
      go_wp2_with (first | (at_builtin; go_loud (refine wpList_append_own_at _ rfl (.tmp 12) (.tmp 14) 45 rfl w.heap.size 29 i0 _ 2 16 Tryd.underlying45 HI.out HZ2.out.1 HZ2.out.2.1 HZ2.out.2.2 rfl (by decide) u3 _ _ rfl HO2.out ⟨wr.heap.size + 1, 0, none⟩ 1 1 [.int .i64 x, .int .i64 y] rfl rfl HNW.out (by simp [Value.oneCell']) (by have := HLEN.out; unfold maxLen; omega) (by have := HLEN.out; omega) HBA.out.size ?_); intro v1 w8 hown1 hgrow1 _ _; have HO8 := Lib.hid hown1; have HB8 := Lib.hid (own_growS HBA.out HO2.out hgrow1); clear hown1 hgrow1))
      refine ⟨⟨k + 1, by omega, by go_num, Lib.hid ?_, HB8⟩, by simp [intOf]; omega⟩
      rw [HTK.out]
      unfold OwnP
      rw [List.length_append, flatP_app, flatP_one]
      exact HO8.out
    · obtain rfl : k = n := by omega
      clear HP
      go_wp2
      go_ret
      refine ⟨⟨_, rfl, ?_⟩, HB.out⟩
      have := HO.out
      rw [← HN.out, List.take_length] at this
      exact this
end Go.Proofs.YtpfenoioeajkmaaDoor.X
end

section
set_option linter.unusedVariables false
set_option linter.unusedSimpArgs false
namespace Go.Proofs.YtpfenoioeajkmaaDoor.X
open Go.RowKit Go.Proofs.YtpfenoioeajkmaaDoorW.PrintWords Go.Proofs.YtpfenoioeajkmaaDoorW.PrintLast Go.Proofs.YtpfenoioeajkmaaDoorW.PrintMore Go.Proofs.YtpfenoioeajkmaaDoor.L
set_option maxHeartbeats 4000000 in
set_option maxRecDepth 100000 in
theorem Cells_yes {s : ByteArray} (h : isO s = true) (w : World) : Calls Tryd.prog 48 #[.string s] w fun e w' => (∃ v, e = .returned (.tuple #[v, .int .i64 0]) ∧ OwnP w.heap.size 29 w' v (rcl s)) ∧ Below w.heap.size w w' := by
  have HI := Lib.hid (Is_any (s := s) (by have := isW_le (isO_W h); omega))
  rw [h] at HI
  have HC := Lib.hid (cells_ok h)
  have HL := Lib.hid (cells_le h)
  clear h
  go_enter Tryd.func48, Tryd.ntmps48
  go_wp2_with fail
  refine (HI.out _).mono ?_
  rintro e w1 ⟨rfl, hb1⟩
  have H1 := Lib.hid ((Below.refl w.heap.size w).trans (hb1.mono (Below.refl w.heap.size w).size))
  clear hb1
  go_wp2_with fail
  refine (HC.out _).mono ?_
  rintro e w2 ⟨⟨v, rfl, hv⟩, hb2⟩
  have H2 := Lib.hid (H1.out.trans (hb2.mono H1.out.size))
  have HV := Lib.hid hv
  clear hv hb2
  go_wp2_with fail
  refine (told_calls HV.out (by have := HL.out; omega)).mono ?_
  rintro e w3 ⟨⟨u, rfl, hu⟩, hb3⟩
  have H3 := Lib.hid (H2.out.trans (hb3.mono H2.out.size))
  have HU := Lib.hid (own_lower hu H2.out.size)
  clear hu hb3
  go_wp2
  go_ret2
  exact ⟨⟨_, rfl, HU.out⟩, H3.out⟩
end Go.Proofs.YtpfenoioeajkmaaDoor.X
end

section
set_option linter.unusedVariables false
set_option linter.unusedSimpArgs false
namespace Go.Proofs.YtpfenoioeajkmaaDoor.X
open Go.RowKit Go.Proofs.YtpfenoioeajkmaaDoorW.PrintWords Go.Proofs.YtpfenoioeajkmaaDoorW.PrintLast Go.Proofs.YtpfenoioeajkmaaDoorW.PrintMore
def clearB (x y : Nat → Int) (v0 v1 u0 u1 D : Int) (n : Nat) : Bool := (List.range n).all fun i => (List.range i).all fun j => !hits x y v0 v1 u0 u1 D i j
theorem clearB_iff (x y : Nat → Int) (v0 v1 u0 u1 D : Int) (n : Nat) : clearB x y v0 v1 u0 u1 D n = true ↔ clear' x y v0 v1 u0 u1 D n := by
  unfold clearB clear'
  simp only [List.all_eq_true, List.mem_range, Bool.not_eq_true']
  exact ⟨fun h i j h1 h2 => h i h1 j h2, fun h i h1 j h2 => h i j h1 h2⟩
def fillsB (x y : Nat → Int) (n : Nat) (v0 v1 u0 u1 : Int) : Bool := decide (max (v0 * u1 - v1 * u0) (-(v0 * u1 - v1 * u0)) = n) && clearB x y v0 v1 u0 u1 (v0 * u1 - v1 * u0) n
theorem near_iff {a b : Int} : near (a, b) = true ↔ -100 ≤ a ∧ a ≤ 100 ∧ -100 ≤ b ∧ b ≤ 100 := by unfold near; rw [decide_eq_true_eq]
theorem Fills_good (A : Option Addr) (n c : Nat) (x y : Nat → Int) (v0 v1 u0 u1 : Int) (w : World) (hA : Sl w A n c x y) (hn : n ≤ 9223372036854775807) (hg : goodL x y n = true) (hv : near (v0, v1) = true) (hu : near (u0, u1) = true) :
    Calls Tryd.prog 40 #[.slice A n c, ptV v0 v1, ptV u0 u1] w fun e w' => e = .returned (.tuple #[.bool (fillsB x y n v0 v1 u0 u1), .int .i64 0]) ∧ Below w.heap.size w w' := by
  rw [near_iff] at hv hu
  unfold fillsB
  by_cases hr : max (v0 * u1 - v1 * u0) (-(v0 * u1 - v1 * u0)) = n
  · have := Fills_loop A n c x y v0 v1 u0 u1 w hA hn hg ⟨⟨hv.1, hv.2.1⟩, hv.2.2, ⟨hu.1, hu.2.1⟩, hu.2.2⟩ _ rfl hr (clearB x y v0 v1 u0 u1 (v0 * u1 - v1 * u0) n) (clearB_iff _ _ _ _ _ _ _ _)
    rw [decide_eq_true hr, Bool.true_and]
    exact this
  · have := Fills_room A n c x y v0 v1 u0 u1 w hA hn hg ⟨⟨hv.1, hv.2.1⟩, hv.2.2, ⟨hu.1, hu.2.1⟩, hu.2.2⟩ _ rfl hr
    rw [decide_eq_false hr, Bool.false_and]
    exact this
theorem mn_of_good {x y : Nat → Int} {n : Nat} (h : goodL x y n = true) : mnN n 33 = n := by
  have := (goodL_at h).1
  unfold mnN
  rw [if_pos (by omega)]
end Go.Proofs.YtpfenoioeajkmaaDoor.X
end

section
set_option linter.unusedVariables false
set_option linter.unusedSimpArgs false
namespace Go.Proofs.YtpfenoioeajkmaaDoor.L
open Go.RowKit Go.Proofs.YtpfenoioeajkmaaDoorW.PrintWords Go.Proofs.YtpfenoioeajkmaaDoorW.PrintLast Go.Proofs.YtpfenoioeajkmaaDoorW.PrintMore Go.Proofs.YtpfenoioeajkmaaDoor.X Go.Proofs.YtpfenoioeajkmaaDoor.G
theorem fills_of {s : ByteArray} (h : isO s = true) {v0 v1 u0 u1 : Int} (hd : max (v0 * u1 - v1 * u0) (-(v0 * u1 - v1 * u0)) = (rcl s).length)
    (hno : ∀ x y x' y', gW s x y = 1 → gW s x' y' = 1 → Lat v0 v1 u0 u1 (x' - x) (y' - y) → x = x' ∧ y = y') : fillsB (pX (rcl s)) (pY (rcl s)) (rcl s).length v0 v1 u0 u1 = true := by
  have hpos := cells_pos h
  unfold fillsB
  rw [Bool.and_eq_true]
  refine ⟨decide_eq_true hd, (clearB_iff _ _ _ _ _ _ _ _).2 fun i j hi hj => ?_⟩
  rw [Bool.eq_false_iff]
  intro q
  rw [hits_lat rfl (by omega)] at q
  exact cell_ne hi hj ((fun z => ⟨z.1.symm, z.2.symm⟩) (hno _ _ _ _ (cell_at h (Nat.lt_trans hj hi)) (cell_at h hi) q))
theorem lat_add {v0 v1 u0 u1 x y : Int} (h : Lat (v0 + u0) (v1 + u1) u0 u1 x y) : Lat v0 v1 u0 u1 x y := by
  obtain ⟨i, j, e1, e2⟩ := h
  refine ⟨i, i + j, ?_, ?_⟩
  · rw [e1]; grind
  · rw [e2]; grind
theorem laid_three {s : ByteArray} (h : isO s = true) {v0 v1 u0 u1 : Int} (hd : v0 * u1 - v1 * u0 = (rcl s).length)
    (hno : ∀ x y x' y', gW s x y = 1 → gW s x' y' = 1 → Lat v0 v1 u0 u1 (x' - x) (y' - y) → x = x' ∧ y = y') :
    fillsB (pX (rcl s)) (pY (rcl s)) (rcl s).length v0 v1 u0 u1 = true ∧ fillsB (pX (rcl s)) (pY (rcl s)) (rcl s).length u0 u1 v0 v1 = true ∧ fillsB (pX (rcl s)) (pY (rcl s)) (rcl s).length (v0 + u0) (v1 + u1) u0 u1 = true := by
  have e1 : u0 * v1 - u1 * v0 = -(v0 * u1 - v1 * u0) := by grind
  have e2 : (v0 + u0) * u1 - (v1 + u1) * u0 = v0 * u1 - v1 * u0 := by grind
  refine ⟨fills_of h (by rw [hd]; omega) hno, fills_of h (by rw [e1, hd]; omega) fun x y x' y' a b c => hno x y x' y' a b (lat_swap.1 c), fills_of h (by rw [e2, hd]; omega) fun x y x' y' a b c => hno x y x' y' a b (lat_add c)⟩
theorem good_to {s : ByteArray} (h : isO s = true) : ∀ k, k ≤ (rcl s).length → goodTo (pX (rcl s)) (pY (rcl s)) k = true
  | 0, _ => rfl
  | k + 1, hk => by
    have ih := good_to h k (by omega)
    have hb := gW_in h (cell_at h (i := k) (by omega))
    rw [goodTo, ih, Bool.true_and, Bool.and_eq_true, decide_eq_true_eq]
    refine ⟨by omega, ?_⟩
    by_cases e : k = 0
    · rw [e]; rfl
    · have hp := List.pairwise_iff_getElem.1 (rcl_pw s) (k - 1) k (by omega) (by omega) (by omega)
      have hne := cell_ne (s := s) (i := k) (j := k - 1) (by omega) (by omega)
      rw [← pt_mem (show k < (rcl s).length by omega), ← pt_mem (show k - 1 < (rcl s).length by omega)] at hp
      unfold ltP at hp
      simp only [decide_eq_false_iff_not] at hp
      rw [Bool.or_eq_true, decide_eq_true_eq, cmpP_iff]
      right
      omega
theorem good_rcl {s : ByteArray} (h : isO s = true) (hl : (rcl s).length ≤ 30) : goodL (pX (rcl s)) (pY (rcl s)) (rcl s).length = true := by
  have hpos := cells_pos h
  unfold goodL
  rw [good_to h _ (Nat.le_refl _), decide_eq_true (by omega), decide_eq_true hl]
  rfl
end Go.Proofs.YtpfenoioeajkmaaDoor.L
end

section
set_option linter.unusedVariables false
set_option linter.unusedSimpArgs false
namespace Go.Proofs.YtpfenoioeajkmaaDoor.X
open Go.RowKit Go.Proofs.YtpfenoioeajkmaaDoorW.PrintWords Go.Proofs.YtpfenoioeajkmaaDoorW.PrintLast Go.Proofs.YtpfenoioeajkmaaDoorW.PrintMore Go.Proofs.YtpfenoioeajkmaaDoor.L
set_option maxHeartbeats 8000000 in
set_option maxRecDepth 100000 in
theorem LaidLaw_no (a s : ByteArray) (w : World) (E : Int) (hE : E = 2 ∨ E = 4) (ht : ∀ w, Calls Tryd.prog 18 #[.string a] w fun e w' => e = .returned (.string s) ∧ Below w.heap.size w w')
    (hv : ∀ w, Calls Tryd.prog 35 #[.string s] w fun e w' => e = .returned (.tuple #[vecV 0 0 0 0, .int .i64 E]) ∧ Below w.heap.size w w') :
    Calls Tryd.prog 15 #[.string a] w fun e w' => e = .returned (.bool true) ∧ Below w.heap.size w w' := by
  have HT := Lib.hid ht
  have HC := Lib.hid hv
  unfold vecV at HC
  clear ht hv
  rcases hE with rfl | rfl <;> (
    go_enter Tryd.func15, Tryd.ntmps15
    go_wp2_with fail
    refine (HT.out _).mono ?_
    rintro e w1 ⟨rfl, hb1⟩
    have H1 := Lib.hid ((Below.refl w.heap.size w).trans (hb1.mono (Below.refl w.heap.size w).size))
    clear hb1
    go_wp2_with fail
    refine (HC.out _).mono ?_
    rintro e w2 ⟨rfl, hb2⟩
    have H2 := Lib.hid (H1.out.trans (hb2.mono H1.out.size))
    clear hb2
    go_wp2_with fail
    obtain ⟨w3, B3, e3, f3, g3, b3, z3⟩ := blk_name (w := w2) (.cells #[.int .i64 0, .int .i64 0, .int .i64 0, .int .i64 0] 40)
    rw [← e3, f3]
    have H3 := Lib.hid (H2.out.trans (b3.mono H2.out.size))
    have k3 : Kept B3 _ w3 := ⟨g3⟩
    clear e3 f3 g3 z3
    clear b3 k3
    refine (awake_ok _).mono ?_
    rintro e w4 ⟨rfl, hb4⟩
    have H4 := Lib.hid (H3.out.trans (hb4.mono H3.out.size))
    clear hb4
    go_wp2
    go_ret
    exact ⟨rfl, H4.out⟩)
structure Four (gv gu : Nat) (v0 v1 u0 u1 : Int) (w : World) : Prop where
  a : w.cell? ⟨gv, 0, none⟩ = some (.int .i64 v0)
  b : w.cell? ⟨gv, 1, none⟩ = some (.int .i64 v1)
  c : w.cell? ⟨gu, 0, none⟩ = some (.int .i64 u0)
  d : w.cell? ⟨gu, 1, none⟩ = some (.int .i64 u1)
theorem Four.later {gv gu : Nat} {v0 v1 u0 u1 : Int} {w w' : World} (h : Four gv gu v0 v1 u0 u1 w) (hb : Below w.heap.size w w') : Four gv gu v0 v1 u0 u1 w' :=
  ⟨(hb.cell (p := ⟨gv, 0, none⟩) (World.block_lt_of_cell? _ _ h.a)).trans h.a, (hb.cell (p := ⟨gv, 1, none⟩) (World.block_lt_of_cell? _ _ h.b)).trans h.b, (hb.cell (p := ⟨gu, 0, none⟩) (World.block_lt_of_cell? _ _ h.c)).trans h.c, (hb.cell (p := ⟨gu, 1, none⟩) (World.block_lt_of_cell? _ _ h.d)).trans h.d⟩
theorem Four.one (w : World) (v0 v1 u0 u1 : Int) : Four w.heap.size (w.heap.size + 1) v0 v1 u0 u1 ((w.alloc (.cells #[.int .i64 v0, .int .i64 v1] 29)).alloc (.cells #[.int .i64 u0, .int .i64 u1] 29)).drew ∧ Below w.heap.size w ((w.alloc (.cells #[.int .i64 v0, .int .i64 v1] 29)).alloc (.cells #[.int .i64 u0, .int .i64 u1] 29)).drew :=
  ⟨⟨by simp, by simp, by simp, by simp⟩, ((below_one _).alloc (by simp) _).drew⟩
theorem Four.two (w : World) (v0 v1 u0 u1 : Int) : Four (w.heap.size + 1) w.heap.size v0 v1 u0 u1 ((w.alloc (.cells #[.int .i64 u0, .int .i64 u1] 29)).alloc (.cells #[.int .i64 v0, .int .i64 v1] 29)).drew ∧ Below w.heap.size w ((w.alloc (.cells #[.int .i64 u0, .int .i64 u1] 29)).alloc (.cells #[.int .i64 v0, .int .i64 v1] 29)).drew :=
  ⟨⟨by simp, by simp, by simp, by simp⟩, ((below_one _).alloc (by simp) _).drew⟩
set_option maxHeartbeats 8000000 in
set_option maxRecDepth 100000 in
theorem LaidLaw_yes (s : ByteArray) (w : World) (h : isO s = true) (v0 v1 u0 u1 : Int) (hv : ∀ w, Calls Tryd.prog 35 #[.string s] w fun e w' => e = .returned (.tuple #[vecV v0 v1 u0 u1, .int .i64 0]) ∧ Below w.heap.size w w')
    (b0 : -48 ≤ v0 ∧ v0 ≤ 48) (b1 : -48 ≤ v1 ∧ v1 ≤ 48) (b2 : -48 ≤ u0 ∧ u0 ≤ 48) (b3 : -48 ≤ u1 ∧ u1 ≤ 48)
    (hf : fillsB (pX (rcl s)) (pY (rcl s)) (rcl s).length v0 v1 u0 u1 = true ∧ fillsB (pX (rcl s)) (pY (rcl s)) (rcl s).length u0 u1 v0 v1 = true ∧ fillsB (pX (rcl s)) (pY (rcl s)) (rcl s).length (v0 + u0) (v1 + u1) u0 u1 = true) :
    Calls Tryd.prog 15 #[.string s] w fun e w' => e = .returned (.bool true) ∧ Below w.heap.size w w' := by
  have hs24 := isW_le (isO_W h)
  have HT := Lib.hid (text_ok (isO_W h))
  have HV := Lib.hid hv
  unfold vecV at HV
  have HC := Lib.hid (Cells_yes h)
  have HI := Lib.hid (ris_calls s (by omega))
  rw [h] at HI
  have HL := Lib.hid (cells_le h)
  have HP := Lib.hid (cells_pos h)
  have HG := Lib.hid (good_rcl h)
  have HF := Lib.hid hf
  clear h hf hv
  go_enter Tryd.func15, Tryd.ntmps15
  go_wp2_with fail
  refine (HT.out _).mono ?_
  rintro e w1 ⟨rfl, hb1⟩
  have H1 := Lib.hid ((Below.refl w.heap.size w).trans (hb1.mono (Below.refl w.heap.size w).size))
  clear hb1
  go_wp2_with fail
  refine (HV.out _).mono ?_
  rintro e w2 ⟨rfl, hb2⟩
  have H2 := Lib.hid (H1.out.trans (hb2.mono H1.out.size))
  clear hb2
  go_wp2_with fail
  obtain ⟨w3, B3, e3, f3, g3, b3, z3⟩ := blk_name (w := w2) (.cells #[.int .i64 v0, .int .i64 v1, .int .i64 u0, .int .i64 u1] 40)
  rw [← e3, f3]
  have H3 := Lib.hid (H2.out.trans (b3.mono H2.out.size))
  have k3 : Kept B3 _ w3 := ⟨g3⟩
  clear e3 f3 g3 z3
  clear b3
  refine (HI.out _).mono ?_
  rintro e w4 ⟨rfl, hb4⟩
  have H4 := Lib.hid (H3.out.trans (hb4.mono H3.out.size))
  have k4 := k3.later hb4
  clear hb4 k3
  go_wp2_with fail
  refine (HC.out _).mono ?_
  rintro e w5 ⟨⟨v, rfl, hw5⟩, hb5⟩
  have H5 := Lib.hid (H4.out.trans (hb5.mono H4.out.size))
  have k5 := k4.later hb5
  obtain ⟨A, c, rfl, hA⟩ := sl_list hw5
  have hcap : c ≤ 9223372036854775807 := by
    obtain ⟨g, cap, cur, e, -, -, -, hm, -⟩ := own_block hw5 HP.out
    injection e with _ _ e
    subst e
    exact hm
  have S5 := Lib.hid hA
  clear hb5 k4 hA hw5 HC HT HV HI
  obtain ⟨n, hn⟩ : ∃ n, (rcl s).length = n := ⟨_, rfl⟩
  rw [hn] at S5 HL HG HF HP ⊢
  by_cases hbig : 30 < n
  · go_wp2_with fail
    refine (awake_ok _).mono ?_
    rintro e w6 ⟨rfl, hb6⟩
    have H6 := Lib.hid (H5.out.trans (hb6.mono H5.out.size))
    clear hb6
    go_wp2
    go_ret
    exact ⟨rfl, H6.out⟩
  · have e0 := blk_at k5.h 0 rfl
    have e1 := blk_at k5.h 1 rfl
    have e2 := blk_at k5.h 2 rfl
    have e3 := blk_at k5.h 3 rfl
    have l5 := k5.lt
    have HGD := Lib.hid (HG.out (by omega))
    have HMN := Lib.hid (mn_of_good HGD.out)
    go_wp2_with fail
    go_region
    · obtain ⟨q1, q2⟩ := Four.one w5 v0 v1 u0 u1
      have H6 := Lib.hid (H5.out.trans (q2.mono H5.out.size))
      have S6 := Lib.hid (S5.out.later q2)
      have Q6 := Lib.hid q1
      clear q1 q2 S5 H5 e0 e1 e2 e3 l5 k5
      generalize ((w5.alloc (.cells #[.int .i64 v0, .int .i64 v1] 29)).alloc (.cells #[.int .i64 u0, .int .i64 u1] 29)).drew = w6 at H6 S6 Q6 ⊢
      generalize hgu : w5.heap.size + 1 = gu at Q6 ⊢
      generalize hgv : w5.heap.size = gv at Q6 ⊢
      clear hgu hgv
      have e0 := Q6.out.a
      have e1 := Q6.out.b
      have e2 := Q6.out.c
      have e3 := Q6.out.d
      go_wp2_with fail
      refine start_ (n := 10) (S := Four gv gu v0 v1 u0 u1) (ds := [4]) #[false, false, false, false, false, false, false, false, false, false] (by kernel_rfl) rfl rfl (Q6.out.later (Below.refl _ _).drew) (fun hHeld => ?_)
      refine pure_ (i := 0) (N := (some 53)) (v := ?_) (a' := ?_) #[true, false, false, false, false, false, false, false, false, false] rfl rfl (by kernel_rfl) (fun _ _ _ h => h) (Or.inl ⟨by rfl, ?_⟩) ?_ ?_
      rotate_left
      · intro w'; go_simp; first | done | with_reducible rfl
      rotate_left
      · simp only [Act.put, List.setIfInBounds_toArray, List.set_cons_zero, List.set_cons_succ, i64_w, i32_w]; rfl
      refine take_ (i := 2) (N := (some 55)) (v := ?_) (a' := ?_) #[true, false, true, false, false, false, false, false, false, false] rfl rfl (by kernel_rfl) (fun _ _ _ h => h) (Or.inl ⟨by rfl, ?_⟩) hHeld ?_ ?_
      rotate_left
      · rintro w' ⟨s0, s1, s2, s3⟩; go_simp; first | done | with_reducible rfl
      rotate_left
      · simp only [Act.put, List.setIfInBounds_toArray, List.set_cons_zero, List.set_cons_succ, i64_w, i32_w]; rfl
      refine take_ (i := 3) (N := (some 56)) (v := ?_) (a' := ?_) #[true, false, true, true, false, false, false, false, false, false] rfl rfl (by kernel_rfl) (fun _ _ _ h => h) (Or.inl ⟨by rfl, ?_⟩) hHeld ?_ ?_
      rotate_left
      · rintro w' ⟨s0, s1, s2, s3⟩; go_simp; first | done | with_reducible rfl
      rotate_left
      · simp only [Act.put, List.setIfInBounds_toArray, List.set_cons_zero, List.set_cons_succ, i64_w, i32_w]; rfl
      refine one_ (i := 1) (N := (some 54)) #[true, true, true, true, false, false, false, false, false, false] rfl rfl (by kernel_rfl) (by decide) (fun K hK => ?_)
      refine goes_ Tryd.func41 (by kernel_rfl) rfl #[.slice A n c] (by rfl) rfl rfl (by (try simp only [List.map_toArray, List.map_cons, List.map_nil]); first | done | rfl) ?_
      refine (list_calls A n c _ _ _ (S6.out.later (Below.refl _ _).drew) hcap).mono ?_
      rw [HMN.out]
      rintro e w7 ⟨⟨A', c', rfl, hS⟩, hb2⟩
      refine ⟨_, rfl, ?_⟩
      have HS := Lib.hid hS
      have hbb := (Below.refl w6.heap.size w6).drew.trans hb2
      have H7 := Lib.hid (H6.out.trans (hbb.mono H6.out.size))
      have S7 := Lib.hid (S6.out.later hbb)
      have Q7 := Lib.hid (Q6.out.later hbb)
      refine hK.out _ _ Q7.out (fun hHeld => ?_)
      clear hK K
      refine norm_ (a' := ?_) ?_ ?_
      rotate_left
      · show Act.put _ (some 54) _ = _; simp only [Act.put, List.setIfInBounds_toArray, List.set_cons_zero, List.set_cons_succ, i64_w, i32_w]; rfl
      clear hS hb2 hbb hHeld e0 e1 e2 e3 H6 S6 Q6
      refine last_ (i := 4) (N := (some 57)) #[true, true, true, true, true, false, false, false, false, false] rfl rfl (by kernel_rfl) (by decide) (fun K hK => ?_)
      refine goes_ Tryd.func40 (by kernel_rfl) rfl #[.slice A' n c', ptV v0 v1, ptV u0 u1] (by rfl) rfl rfl (by (try simp only [List.map_toArray, List.map_cons, List.map_nil]); first | done | rfl) ?_
      refine (Fills_good A' n c' _ _ v0 v1 u0 u1 w7 HS.out (by have := HL.out; omega) HGD.out (near_iff.2 (by omega)) (near_iff.2 (by omega))).mono ?_
      rw [HF.out.1]
      rintro e w8 ⟨rfl, hb3⟩
      refine ⟨_, rfl, ?_⟩
      have H8 := Lib.hid (H7.out.trans (hb3.mono H7.out.size))
      have S8 := Lib.hid (S7.out.later hb3)
      have Q8 := Lib.hid (Q7.out.later hb3)
      refine hK.out _ _ ?_
      clear hK K
      refine norm_ (a' := ?_) ?_ ?_
      rotate_left
      · show Act.put _ (some 57) _ = _; simp only [Act.put, List.setIfInBounds_toArray, List.set_cons_zero, List.set_cons_succ, i64_w, i32_w]; rfl
      refine pure_ (i := 5) (N := (some 52)) (v := ?_) (a' := ?_) #[true, true, true, true, true, true, false, false, false, false] rfl rfl (by kernel_rfl) (fun _ _ _ h => h) (Or.inl ⟨by rfl, ?_⟩) ?_ ?_
      rotate_left
      · intro w'; go_simp; first | done | with_reducible rfl
      rotate_left
      · simp only [Act.put, List.setIfInBounds_toArray, List.set_cons_zero, List.set_cons_succ, i64_w, i32_w]; rfl
      refine pure_ (i := 6) (N := (some 58)) (v := ?_) (a' := ?_) #[true, true, true, true, true, true, true, false, false, false] rfl rfl (by kernel_rfl) (fun _ _ _ h => h) (Or.inl ⟨by rfl, ?_⟩) ?_ ?_
      rotate_left
      · intro w'; go_simp; first | done | with_reducible rfl
      rotate_left
      · simp only [Act.put, List.setIfInBounds_toArray, List.set_cons_zero, List.set_cons_succ, i64_w, i32_w]; rfl
      refine pure_ (i := 7) (N := (some 59)) (v := ?_) (a' := ?_) #[true, true, true, true, true, true, true, true, false, false] rfl rfl (by kernel_rfl) (fun _ _ _ h => h) (Or.inl ⟨by rfl, ?_⟩) ?_ ?_
      rotate_left
      · intro w'; go_simp; first | done | with_reducible rfl
      rotate_left
      · simp only [Act.put, List.setIfInBounds_toArray, List.set_cons_zero, List.set_cons_succ, i64_w, i32_w]; rfl
      refine pure_ (i := 8) (N := (some 9)) (v := ?_) (a' := ?_) #[true, true, true, true, true, true, true, true, true, false] rfl rfl (by kernel_rfl) (fun _ _ _ h => h) (Or.inl ⟨by rfl, ?_⟩) ?_ ?_
      rotate_left
      · intro w'; go_simp; first | done | with_reducible rfl
      rotate_left
      · simp only [Act.put, List.setIfInBounds_toArray, List.set_cons_zero, List.set_cons_succ, i64_w, i32_w]; rfl
      refine pure_ (i := 9) (N := (some 10)) (v := ?_) (a' := ?_) #[true, true, true, true, true, true, true, true, true, true] rfl rfl (by kernel_rfl) (fun _ _ _ h => h) (Or.inl ⟨by rfl, ?_⟩) ?_ ?_
      rotate_left
      · intro w'; go_simp; first | done | with_reducible rfl
      rotate_left
      · simp only [Act.put, List.setIfInBounds_toArray, List.set_cons_zero, List.set_cons_succ, i64_w, i32_w]; rfl
      refine done_ (by kernel_rfl) ?_
      clear hb3 HS H7 S7 Q7
      have e0 := Q8.out.a
      have e1 := Q8.out.b
      have e2 := Q8.out.c
      have e3 := Q8.out.d
      go_wp2_with fail
      refine start_ (n := 10) (S := Four gv gu v0 v1 u0 u1) (ds := [4]) #[false, false, false, false, false, false, false, false, false, false] (by kernel_rfl) rfl rfl (Q8.out.later (Below.refl _ _).drew) (fun hHeld => ?_)
      refine pure_ (i := 0) (N := (some 61)) (v := ?_) (a' := ?_) #[true, false, false, false, false, false, false, false, false, false] rfl rfl (by kernel_rfl) (fun _ _ _ h => h) (Or.inl ⟨by rfl, ?_⟩) ?_ ?_
      rotate_left
      · intro w'; go_simp; first | done | with_reducible rfl
      rotate_left
      · simp only [Act.put, List.setIfInBounds_toArray, List.set_cons_zero, List.set_cons_succ, i64_w, i32_w]; rfl
      refine take_ (i := 2) (N := (some 63)) (v := ?_) (a' := ?_) #[true, false, true, false, false, false, false, false, false, false] rfl rfl (by kernel_rfl) (fun _ _ _ h => h) (Or.inl ⟨by rfl, ?_⟩) hHeld ?_ ?_
      rotate_left
      · rintro w' ⟨s0, s1, s2, s3⟩; go_simp; first | done | with_reducible rfl
      rotate_left
      · simp only [Act.put, List.setIfInBounds_toArray, List.set_cons_zero, List.set_cons_succ, i64_w, i32_w]; rfl
      refine take_ (i := 3) (N := (some 64)) (v := ?_) (a' := ?_) #[true, false, true, true, false, false, false, false, false, false] rfl rfl (by kernel_rfl) (fun _ _ _ h => h) (Or.inl ⟨by rfl, ?_⟩) hHeld ?_ ?_
      rotate_left
      · rintro w' ⟨s0, s1, s2, s3⟩; go_simp; first | done | with_reducible rfl
      rotate_left
      · simp only [Act.put, List.setIfInBounds_toArray, List.set_cons_zero, List.set_cons_succ, i64_w, i32_w]; rfl
      refine one_ (i := 1) (N := (some 62)) #[true, true, true, true, false, false, false, false, false, false] rfl rfl (by kernel_rfl) (by decide) (fun K hK => ?_)
      refine goes_ Tryd.func41 (by kernel_rfl) rfl #[.slice A n c] (by rfl) rfl rfl (by (try simp only [List.map_toArray, List.map_cons, List.map_nil]); first | done | rfl) ?_
      refine (list_calls A n c _ _ _ (S8.out.later (Below.refl _ _).drew) hcap).mono ?_
      rw [HMN.out]
      rintro e w9 ⟨⟨A', c', rfl, hS⟩, hb2⟩
      refine ⟨_, rfl, ?_⟩
      have HS := Lib.hid hS
      have hbb := (Below.refl w8.heap.size w8).drew.trans hb2
      have H9 := Lib.hid (H8.out.trans (hbb.mono H8.out.size))
      have S9 := Lib.hid (S8.out.later hbb)
      have Q9 := Lib.hid (Q8.out.later hbb)
      refine hK.out _ _ Q9.out (fun hHeld => ?_)
      clear hK K
      refine norm_ (a' := ?_) ?_ ?_
      rotate_left
      · show Act.put _ (some 62) _ = _; simp only [Act.put, List.setIfInBounds_toArray, List.set_cons_zero, List.set_cons_succ, i64_w, i32_w]; rfl
      clear hS hb2 hbb hHeld e0 e1 e2 e3 H8 S8 Q8
      refine last_ (i := 4) (N := (some 65)) #[true, true, true, true, true, false, false, false, false, false] rfl rfl (by kernel_rfl) (by decide) (fun K hK => ?_)
      refine goes_ Tryd.func40 (by kernel_rfl) rfl #[.slice A' n c', ptV u0 u1, ptV v0 v1] (by rfl) rfl rfl (by (try simp only [List.map_toArray, List.map_cons, List.map_nil]); first | done | rfl) ?_
      refine (Fills_good A' n c' _ _ u0 u1 v0 v1 w9 HS.out (by have := HL.out; omega) HGD.out (near_iff.2 (by omega)) (near_iff.2 (by omega))).mono ?_
      rw [HF.out.2.1]
      rintro e w10 ⟨rfl, hb3⟩
      refine ⟨_, rfl, ?_⟩
      have H10 := Lib.hid (H9.out.trans (hb3.mono H9.out.size))
      have S10 := Lib.hid (S9.out.later hb3)
      have Q10 := Lib.hid (Q9.out.later hb3)
      refine hK.out _ _ ?_
      clear hK K
      refine norm_ (a' := ?_) ?_ ?_
      rotate_left
      · show Act.put _ (some 65) _ = _; simp only [Act.put, List.setIfInBounds_toArray, List.set_cons_zero, List.set_cons_succ, i64_w, i32_w]; rfl
      refine pure_ (i := 5) (N := (some 60)) (v := ?_) (a' := ?_) #[true, true, true, true, true, true, false, false, false, false] rfl rfl (by kernel_rfl) (fun _ _ _ h => h) (Or.inl ⟨by rfl, ?_⟩) ?_ ?_
      rotate_left
      · intro w'; go_simp; first | done | with_reducible rfl
      rotate_left
      · simp only [Act.put, List.setIfInBounds_toArray, List.set_cons_zero, List.set_cons_succ, i64_w, i32_w]; rfl
      refine pure_ (i := 6) (N := (some 66)) (v := ?_) (a' := ?_) #[true, true, true, true, true, true, true, false, false, false] rfl rfl (by kernel_rfl) (fun _ _ _ h => h) (Or.inl ⟨by rfl, ?_⟩) ?_ ?_
      rotate_left
      · intro w'; go_simp; first | done | with_reducible rfl
      rotate_left
      · simp only [Act.put, List.setIfInBounds_toArray, List.set_cons_zero, List.set_cons_succ, i64_w, i32_w]; rfl
      refine pure_ (i := 7) (N := (some 67)) (v := ?_) (a' := ?_) #[true, true, true, true, true, true, true, true, false, false] rfl rfl (by kernel_rfl) (fun _ _ _ h => h) (Or.inl ⟨by rfl, ?_⟩) ?_ ?_
      rotate_left
      · intro w'; go_simp; first | done | with_reducible rfl
      rotate_left
      · simp only [Act.put, List.setIfInBounds_toArray, List.set_cons_zero, List.set_cons_succ, i64_w, i32_w]; rfl
      refine pure_ (i := 8) (N := (some 11)) (v := ?_) (a' := ?_) #[true, true, true, true, true, true, true, true, true, false] rfl rfl (by kernel_rfl) (fun _ _ _ h => h) (Or.inl ⟨by rfl, ?_⟩) ?_ ?_
      rotate_left
      · intro w'; go_simp; first | done | with_reducible rfl
      rotate_left
      · simp only [Act.put, List.setIfInBounds_toArray, List.set_cons_zero, List.set_cons_succ, i64_w, i32_w]; rfl
      refine pure_ (i := 9) (N := (some 12)) (v := ?_) (a' := ?_) #[true, true, true, true, true, true, true, true, true, true] rfl rfl (by kernel_rfl) (fun _ _ _ h => h) (Or.inl ⟨by rfl, ?_⟩) ?_ ?_
      rotate_left
      · intro w'; go_simp; first | done | with_reducible rfl
      rotate_left
      · simp only [Act.put, List.setIfInBounds_toArray, List.set_cons_zero, List.set_cons_succ, i64_w, i32_w]; rfl
      refine done_ (by kernel_rfl) ?_
      clear hb3 HS H9 S9 Q9
      have e0 := Q10.out.a
      have e1 := Q10.out.b
      have e2 := Q10.out.c
      have e3 := Q10.out.d
      go_wp2_with fail
      refine start_ (n := 20) (S := Four gv gu v0 v1 u0 u1) (ds := [14]) #[false, false, false, false, false, false, false, false, false, false, false, false, false, false, false, false, false, false, false, false] (by kernel_rfl) rfl rfl (Q10.out.later (Below.refl _ _).drew) (fun hHeld => ?_)
      refine pure_ (i := 0) (N := (some 69)) (v := ?_) (a' := ?_) #[true, false, false, false, false, false, false, false, false, false, false, false, false, false, false, false, false, false, false, false] rfl rfl (by kernel_rfl) (fun _ _ _ h => h) (Or.inl ⟨by rfl, ?_⟩) ?_ ?_
      rotate_left
      · intro w'; go_simp; first | done | with_reducible rfl
      rotate_left
      · simp only [Act.put, List.setIfInBounds_toArray, List.set_cons_zero, List.set_cons_succ, i64_w, i32_w]; rfl
      refine pure_ (i := 2) (N := (some 71)) (v := ?_) (a' := ?_) #[true, false, true, false, false, false, false, false, false, false, false, false, false, false, false, false, false, false, false, false] rfl rfl (by kernel_rfl) (fun _ _ _ h => h) (Or.inl ⟨by rfl, ?_⟩) ?_ ?_
      rotate_left
      · intro w'; go_simp; first | done | with_reducible rfl
      rotate_left
      · simp only [Act.put, List.setIfInBounds_toArray, List.set_cons_zero, List.set_cons_succ, i64_w, i32_w]; rfl
      refine take_ (i := 3) (N := (some 72)) (v := ?_) (a' := ?_) #[true, false, true, true, false, false, false, false, false, false, false, false, false, false, false, false, false, false, false, false] rfl rfl (by kernel_rfl) (fun _ _ _ h => h) (Or.inl ⟨by rfl, ?_⟩) hHeld ?_ ?_
      rotate_left
      · rintro w' ⟨s0, s1, s2, s3⟩; go_simp; first | done | with_reducible rfl
      rotate_left
      · simp only [Act.put, List.setIfInBounds_toArray, List.set_cons_zero, List.set_cons_succ, i64_w, i32_w]; rfl
      refine pure_ (i := 4) (N := (some 73)) (v := ?_) (a' := ?_) #[true, false, true, true, true, false, false, false, false, false, false, false, false, false, false, false, false, false, false, false] rfl rfl (by kernel_rfl) (fun _ _ _ h => h) (Or.inl ⟨by rfl, ?_⟩) ?_ ?_
      rotate_left
      · intro w'; go_simp; first | done | with_reducible rfl
      rotate_left
      · simp only [Act.put, List.setIfInBounds_toArray, List.set_cons_zero, List.set_cons_succ, i64_w, i32_w]; rfl
      refine take_ (i := 5) (N := (some 74)) (v := ?_) (a' := ?_) #[true, false, true, true, true, true, false, false, false, false, false, false, false, false, false, false, false, false, false, false] rfl rfl (by kernel_rfl) (fun _ _ _ h => h) (Or.inl ⟨by rfl, ?_⟩) hHeld ?_ ?_
      rotate_left
      · rintro w' ⟨s0, s1, s2, s3⟩; go_simp; first | done | with_reducible rfl
      rotate_left
      · simp only [Act.put, List.setIfInBounds_toArray, List.set_cons_zero, List.set_cons_succ, i64_w, i32_w]; rfl
      refine pure_ (i := 6) (N := (some 75)) (v := ?_) (a' := ?_) #[true, false, true, true, true, true, true, false, false, false, false, false, false, false, false, false, false, false, false, false] rfl rfl (by kernel_rfl) (fun _ _ _ h => h) (Or.inl ⟨by rfl, ?_⟩) ?_ ?_
      rotate_left
      · intro w'; go_simp; first | done | with_reducible rfl
      rotate_left
      · simp only [Act.put, List.setIfInBounds_toArray, List.set_cons_zero, List.set_cons_succ, i64_w, i32_w]; rfl
      refine pure_ (i := 7) (N := (some 76)) (v := ?_) (a' := ?_) #[true, false, true, true, true, true, true, true, false, false, false, false, false, false, false, false, false, false, false, false] rfl rfl (by kernel_rfl) (fun _ _ _ h => h) (Or.inl ⟨by rfl, ?_⟩) ?_ ?_
      rotate_left
      · intro w'; go_simp; first | done | with_reducible rfl
      rotate_left
      · simp only [Act.put, List.setIfInBounds_toArray, List.set_cons_zero, List.set_cons_succ, i64_w, i32_w]; rfl
      refine take_ (i := 8) (N := (some 77)) (v := ?_) (a' := ?_) #[true, false, true, true, true, true, true, true, true, false, false, false, false, false, false, false, false, false, false, false] rfl rfl (by kernel_rfl) (fun _ _ _ h => h) (Or.inl ⟨by rfl, ?_⟩) hHeld ?_ ?_
      rotate_left
      · rintro w' ⟨s0, s1, s2, s3⟩; go_simp; first | done | with_reducible rfl
      rotate_left
      · simp only [Act.put, List.setIfInBounds_toArray, List.set_cons_zero, List.set_cons_succ, i64_w, i32_w]; rfl
      refine pure_ (i := 9) (N := (some 78)) (v := ?_) (a' := ?_) #[true, false, true, true, true, true, true, true, true, true, false, false, false, false, false, false, false, false, false, false] rfl rfl (by kernel_rfl) (fun _ _ _ h => h) (Or.inl ⟨by rfl, ?_⟩) ?_ ?_
      rotate_left
      · intro w'; go_simp; first | done | with_reducible rfl
      rotate_left
      · simp only [Act.put, List.setIfInBounds_toArray, List.set_cons_zero, List.set_cons_succ, i64_w, i32_w]; rfl
      refine take_ (i := 10) (N := (some 79)) (v := ?_) (a' := ?_) #[true, false, true, true, true, true, true, true, true, true, true, false, false, false, false, false, false, false, false, false] rfl rfl (by kernel_rfl) (fun _ _ _ h => h) (Or.inl ⟨by rfl, ?_⟩) hHeld ?_ ?_
      rotate_left
      · rintro w' ⟨s0, s1, s2, s3⟩; go_simp; first | done | with_reducible rfl
      rotate_left
      · simp only [Act.put, List.setIfInBounds_toArray, List.set_cons_zero, List.set_cons_succ, i64_w, i32_w]; rfl
      refine pure_ (i := 11) (N := (some 80)) (v := ?_) (a' := ?_) #[true, false, true, true, true, true, true, true, true, true, true, true, false, false, false, false, false, false, false, false] rfl rfl (by kernel_rfl) (fun _ _ _ h => h) (Or.inl ⟨by rfl, ?_⟩) ?_ ?_
      rotate_left
      · intro w'; go_simp; first | done | with_reducible rfl
      rotate_left
      · simp only [Act.put, List.setIfInBounds_toArray, List.set_cons_zero, List.set_cons_succ, i64_w, i32_w]; rfl
      refine pure_ (i := 12) (N := (some 81)) (v := ?_) (a' := ?_) #[true, false, true, true, true, true, true, true, true, true, true, true, true, false, false, false, false, false, false, false] rfl rfl (by kernel_rfl) (fun _ _ _ h => h) (Or.inl ⟨by rfl, ?_⟩) ?_ ?_
      rotate_left
      · intro w'; go_simp; first | done | with_reducible rfl
      rotate_left
      · simp only [Act.put, List.setIfInBounds_toArray, List.set_cons_zero, List.set_cons_succ, i64_w, i32_w]; rfl
      refine take_ (i := 13) (N := (some 82)) (v := ?_) (a' := ?_) #[true, false, true, true, true, true, true, true, true, true, true, true, true, true, false, false, false, false, false, false] rfl rfl (by kernel_rfl) (fun _ _ _ h => h) (Or.inl ⟨by rfl, ?_⟩) hHeld ?_ ?_
      rotate_left
      · rintro w' ⟨s0, s1, s2, s3⟩; go_simp; first | done | with_reducible rfl
      rotate_left
      · simp only [Act.put, List.setIfInBounds_toArray, List.set_cons_zero, List.set_cons_succ, i64_w, i32_w]; rfl
      refine one_ (i := 1) (N := (some 70)) #[true, true, true, true, true, true, true, true, true, true, true, true, true, true, false, false, false, false, false, false] rfl rfl (by kernel_rfl) (by decide) (fun K hK => ?_)
      refine goes_ Tryd.func41 (by kernel_rfl) rfl #[.slice A n c] (by rfl) rfl rfl (by (try simp only [List.map_toArray, List.map_cons, List.map_nil]); first | done | rfl) ?_
      refine (list_calls A n c _ _ _ (S10.out.later (Below.refl _ _).drew) hcap).mono ?_
      rw [HMN.out]
      rintro e w11 ⟨⟨A', c', rfl, hS⟩, hb2⟩
      refine ⟨_, rfl, ?_⟩
      have HS := Lib.hid hS
      have hbb := (Below.refl w10.heap.size w10).drew.trans hb2
      have H11 := Lib.hid (H10.out.trans (hbb.mono H10.out.size))
      have S11 := Lib.hid (S10.out.later hbb)
      have Q11 := Lib.hid (Q10.out.later hbb)
      refine hK.out _ _ Q11.out (fun hHeld => ?_)
      clear hK K
      refine norm_ (a' := ?_) ?_ ?_
      rotate_left
      · show Act.put _ (some 70) _ = _; simp only [Act.put, List.setIfInBounds_toArray, List.set_cons_zero, List.set_cons_succ, i64_w, i32_w]; rfl
      clear hS hb2 hbb hHeld e0 e1 e2 e3 H10 S10 Q10
      refine last_ (i := 14) (N := (some 83)) #[true, true, true, true, true, true, true, true, true, true, true, true, true, true, true, false, false, false, false, false] rfl rfl (by kernel_rfl) (by decide) (fun K hK => ?_)
      refine goes_ Tryd.func40 (by kernel_rfl) rfl #[.slice A' n c', ptV (wrap64 (v0 + u0)) (wrap64 (v1 + u1)), ptV u0 u1] (by rfl) rfl rfl (by (try simp only [List.map_toArray, List.map_cons, List.map_nil]); first | done | rfl) ?_
      rw [show wrap64 (v0 + u0) = v0 + u0 from by unfold wrap64; omega, show wrap64 (v1 + u1) = v1 + u1 from by unfold wrap64; omega]
      refine (Fills_good A' n c' _ _ (v0 + u0) (v1 + u1) u0 u1 w11 HS.out (by have := HL.out; omega) HGD.out (near_iff.2 (by omega)) (near_iff.2 (by omega))).mono ?_
      rw [HF.out.2.2]
      rintro e w12 ⟨rfl, hb3⟩
      refine ⟨_, rfl, ?_⟩
      have H12 := Lib.hid (H11.out.trans (hb3.mono H11.out.size))
      have S12 := Lib.hid (S11.out.later hb3)
      have Q12 := Lib.hid (Q11.out.later hb3)
      refine hK.out _ _ ?_
      clear hK K
      refine norm_ (a' := ?_) ?_ ?_
      rotate_left
      · show Act.put _ (some 83) _ = _; simp only [Act.put, List.setIfInBounds_toArray, List.set_cons_zero, List.set_cons_succ, i64_w, i32_w]; rfl
      refine pure_ (i := 15) (N := (some 68)) (v := ?_) (a' := ?_) #[true, true, true, true, true, true, true, true, true, true, true, true, true, true, true, true, false, false, false, false] rfl rfl (by kernel_rfl) (fun _ _ _ h => h) (Or.inl ⟨by rfl, ?_⟩) ?_ ?_
      rotate_left
      · intro w'; go_simp; first | done | with_reducible rfl
      rotate_left
      · simp only [Act.put, List.setIfInBounds_toArray, List.set_cons_zero, List.set_cons_succ, i64_w, i32_w]; rfl
      refine pure_ (i := 16) (N := (some 84)) (v := ?_) (a' := ?_) #[true, true, true, true, true, true, true, true, true, true, true, true, true, true, true, true, true, false, false, false] rfl rfl (by kernel_rfl) (fun _ _ _ h => h) (Or.inl ⟨by rfl, ?_⟩) ?_ ?_
      rotate_left
      · intro w'; go_simp; first | done | with_reducible rfl
      rotate_left
      · simp only [Act.put, List.setIfInBounds_toArray, List.set_cons_zero, List.set_cons_succ, i64_w, i32_w]; rfl
      refine pure_ (i := 17) (N := (some 85)) (v := ?_) (a' := ?_) #[true, true, true, true, true, true, true, true, true, true, true, true, true, true, true, true, true, true, false, false] rfl rfl (by kernel_rfl) (fun _ _ _ h => h) (Or.inl ⟨by rfl, ?_⟩) ?_ ?_
      rotate_left
      · intro w'; go_simp; first | done | with_reducible rfl
      rotate_left
      · simp only [Act.put, List.setIfInBounds_toArray, List.set_cons_zero, List.set_cons_succ, i64_w, i32_w]; rfl
      refine pure_ (i := 18) (N := (some 13)) (v := ?_) (a' := ?_) #[true, true, true, true, true, true, true, true, true, true, true, true, true, true, true, true, true, true, true, false] rfl rfl (by kernel_rfl) (fun _ _ _ h => h) (Or.inl ⟨by rfl, ?_⟩) ?_ ?_
      rotate_left
      · intro w'; go_simp; first | done | with_reducible rfl
      rotate_left
      · simp only [Act.put, List.setIfInBounds_toArray, List.set_cons_zero, List.set_cons_succ, i64_w, i32_w]; rfl
      refine pure_ (i := 19) (N := (some 14)) (v := ?_) (a' := ?_) #[true, true, true, true, true, true, true, true, true, true, true, true, true, true, true, true, true, true, true, true] rfl rfl (by kernel_rfl) (fun _ _ _ h => h) (Or.inl ⟨by rfl, ?_⟩) ?_ ?_
      rotate_left
      · intro w'; go_simp; first | done | with_reducible rfl
      rotate_left
      · simp only [Act.put, List.setIfInBounds_toArray, List.set_cons_zero, List.set_cons_succ, i64_w, i32_w]; rfl
      refine done_ (by kernel_rfl) ?_
      clear hb3 HS H11 S11 Q11
      have e0 := Q12.out.a
      have e1 := Q12.out.b
      have e2 := Q12.out.c
      have e3 := Q12.out.d
      go_wp2_with fail
      refine (awake_ok _).mono ?_
      rintro e w13 ⟨rfl, hb13⟩
      have H13 := Lib.hid (H12.out.trans (hb13.mono H12.out.size))
      clear hb13 e0 e1 e2 e3
      go_wp2
      go_ret
      exact ⟨rfl, H13.out⟩
    · obtain ⟨q1, q2⟩ := Four.two w5 v0 v1 u0 u1
      have H6 := Lib.hid (H5.out.trans (q2.mono H5.out.size))
      have S6 := Lib.hid (S5.out.later q2)
      have Q6 := Lib.hid q1
      clear q1 q2 S5 H5 e0 e1 e2 e3 l5 k5
      generalize ((w5.alloc (.cells #[.int .i64 u0, .int .i64 u1] 29)).alloc (.cells #[.int .i64 v0, .int .i64 v1] 29)).drew = w6 at H6 S6 Q6 ⊢
      generalize hgu : w5.heap.size + 1 = gv at Q6 ⊢
      generalize hgv : w5.heap.size = gu at Q6 ⊢
      clear hgu hgv
      have e0 := Q6.out.a
      have e1 := Q6.out.b
      have e2 := Q6.out.c
      have e3 := Q6.out.d
      go_wp2_with fail
      refine start_ (n := 10) (S := Four gv gu v0 v1 u0 u1) (ds := [4]) #[false, false, false, false, false, false, false, false, false, false] (by kernel_rfl) rfl rfl (Q6.out.later (Below.refl _ _).drew) (fun hHeld => ?_)
      refine pure_ (i := 0) (N := (some 53)) (v := ?_) (a' := ?_) #[true, false, false, false, false, false, false, false, false, false] rfl rfl (by kernel_rfl) (fun _ _ _ h => h) (Or.inl ⟨by rfl, ?_⟩) ?_ ?_
      rotate_left
      · intro w'; go_simp; first | done | with_reducible rfl
      rotate_left
      · simp only [Act.put, List.setIfInBounds_toArray, List.set_cons_zero, List.set_cons_succ, i64_w, i32_w]; rfl
      refine take_ (i := 2) (N := (some 55)) (v := ?_) (a' := ?_) #[true, false, true, false, false, false, false, false, false, false] rfl rfl (by kernel_rfl) (fun _ _ _ h => h) (Or.inl ⟨by rfl, ?_⟩) hHeld ?_ ?_
      rotate_left
      · rintro w' ⟨s0, s1, s2, s3⟩; go_simp; first | done | with_reducible rfl
      rotate_left
      · simp only [Act.put, List.setIfInBounds_toArray, List.set_cons_zero, List.set_cons_succ, i64_w, i32_w]; rfl
      refine take_ (i := 3) (N := (some 56)) (v := ?_) (a' := ?_) #[true, false, true, true, false, false, false, false, false, false] rfl rfl (by kernel_rfl) (fun _ _ _ h => h) (Or.inl ⟨by rfl, ?_⟩) hHeld ?_ ?_
      rotate_left
      · rintro w' ⟨s0, s1, s2, s3⟩; go_simp; first | done | with_reducible rfl
      rotate_left
      · simp only [Act.put, List.setIfInBounds_toArray, List.set_cons_zero, List.set_cons_succ, i64_w, i32_w]; rfl
      refine one_ (i := 1) (N := (some 54)) #[true, true, true, true, false, false, false, false, false, false] rfl rfl (by kernel_rfl) (by decide) (fun K hK => ?_)
      refine goes_ Tryd.func41 (by kernel_rfl) rfl #[.slice A n c] (by rfl) rfl rfl (by (try simp only [List.map_toArray, List.map_cons, List.map_nil]); first | done | rfl) ?_
      refine (list_calls A n c _ _ _ (S6.out.later (Below.refl _ _).drew) hcap).mono ?_
      rw [HMN.out]
      rintro e w7 ⟨⟨A', c', rfl, hS⟩, hb2⟩
      refine ⟨_, rfl, ?_⟩
      have HS := Lib.hid hS
      have hbb := (Below.refl w6.heap.size w6).drew.trans hb2
      have H7 := Lib.hid (H6.out.trans (hbb.mono H6.out.size))
      have S7 := Lib.hid (S6.out.later hbb)
      have Q7 := Lib.hid (Q6.out.later hbb)
      refine hK.out _ _ Q7.out (fun hHeld => ?_)
      clear hK K
      refine norm_ (a' := ?_) ?_ ?_
      rotate_left
      · show Act.put _ (some 54) _ = _; simp only [Act.put, List.setIfInBounds_toArray, List.set_cons_zero, List.set_cons_succ, i64_w, i32_w]; rfl
      clear hS hb2 hbb hHeld e0 e1 e2 e3 H6 S6 Q6
      refine last_ (i := 4) (N := (some 57)) #[true, true, true, true, true, false, false, false, false, false] rfl rfl (by kernel_rfl) (by decide) (fun K hK => ?_)
      refine goes_ Tryd.func40 (by kernel_rfl) rfl #[.slice A' n c', ptV v0 v1, ptV u0 u1] (by rfl) rfl rfl (by (try simp only [List.map_toArray, List.map_cons, List.map_nil]); first | done | rfl) ?_
      refine (Fills_good A' n c' _ _ v0 v1 u0 u1 w7 HS.out (by have := HL.out; omega) HGD.out (near_iff.2 (by omega)) (near_iff.2 (by omega))).mono ?_
      rw [HF.out.1]
      rintro e w8 ⟨rfl, hb3⟩
      refine ⟨_, rfl, ?_⟩
      have H8 := Lib.hid (H7.out.trans (hb3.mono H7.out.size))
      have S8 := Lib.hid (S7.out.later hb3)
      have Q8 := Lib.hid (Q7.out.later hb3)
      refine hK.out _ _ ?_
      clear hK K
      refine norm_ (a' := ?_) ?_ ?_
      rotate_left
      · show Act.put _ (some 57) _ = _; simp only [Act.put, List.setIfInBounds_toArray, List.set_cons_zero, List.set_cons_succ, i64_w, i32_w]; rfl
      refine pure_ (i := 5) (N := (some 52)) (v := ?_) (a' := ?_) #[true, true, true, true, true, true, false, false, false, false] rfl rfl (by kernel_rfl) (fun _ _ _ h => h) (Or.inl ⟨by rfl, ?_⟩) ?_ ?_
      rotate_left
      · intro w'; go_simp; first | done | with_reducible rfl
      rotate_left
      · simp only [Act.put, List.setIfInBounds_toArray, List.set_cons_zero, List.set_cons_succ, i64_w, i32_w]; rfl
      refine pure_ (i := 6) (N := (some 58)) (v := ?_) (a' := ?_) #[true, true, true, true, true, true, true, false, false, false] rfl rfl (by kernel_rfl) (fun _ _ _ h => h) (Or.inl ⟨by rfl, ?_⟩) ?_ ?_
      rotate_left
      · intro w'; go_simp; first | done | with_reducible rfl
      rotate_left
      · simp only [Act.put, List.setIfInBounds_toArray, List.set_cons_zero, List.set_cons_succ, i64_w, i32_w]; rfl
      refine pure_ (i := 7) (N := (some 59)) (v := ?_) (a' := ?_) #[true, true, true, true, true, true, true, true, false, false] rfl rfl (by kernel_rfl) (fun _ _ _ h => h) (Or.inl ⟨by rfl, ?_⟩) ?_ ?_
      rotate_left
      · intro w'; go_simp; first | done | with_reducible rfl
      rotate_left
      · simp only [Act.put, List.setIfInBounds_toArray, List.set_cons_zero, List.set_cons_succ, i64_w, i32_w]; rfl
      refine pure_ (i := 8) (N := (some 9)) (v := ?_) (a' := ?_) #[true, true, true, true, true, true, true, true, true, false] rfl rfl (by kernel_rfl) (fun _ _ _ h => h) (Or.inl ⟨by rfl, ?_⟩) ?_ ?_
      rotate_left
      · intro w'; go_simp; first | done | with_reducible rfl
      rotate_left
      · simp only [Act.put, List.setIfInBounds_toArray, List.set_cons_zero, List.set_cons_succ, i64_w, i32_w]; rfl
      refine pure_ (i := 9) (N := (some 10)) (v := ?_) (a' := ?_) #[true, true, true, true, true, true, true, true, true, true] rfl rfl (by kernel_rfl) (fun _ _ _ h => h) (Or.inl ⟨by rfl, ?_⟩) ?_ ?_
      rotate_left
      · intro w'; go_simp; first | done | with_reducible rfl
      rotate_left
      · simp only [Act.put, List.setIfInBounds_toArray, List.set_cons_zero, List.set_cons_succ, i64_w, i32_w]; rfl
      refine done_ (by kernel_rfl) ?_
      clear hb3 HS H7 S7 Q7
      have e0 := Q8.out.a
      have e1 := Q8.out.b
      have e2 := Q8.out.c
      have e3 := Q8.out.d
      go_wp2_with fail
      refine start_ (n := 10) (S := Four gv gu v0 v1 u0 u1) (ds := [4]) #[false, false, false, false, false, false, false, false, false, false] (by kernel_rfl) rfl rfl (Q8.out.later (Below.refl _ _).drew) (fun hHeld => ?_)
      refine pure_ (i := 0) (N := (some 61)) (v := ?_) (a' := ?_) #[true, false, false, false, false, false, false, false, false, false] rfl rfl (by kernel_rfl) (fun _ _ _ h => h) (Or.inl ⟨by rfl, ?_⟩) ?_ ?_
      rotate_left
      · intro w'; go_simp; first | done | with_reducible rfl
      rotate_left
      · simp only [Act.put, List.setIfInBounds_toArray, List.set_cons_zero, List.set_cons_succ, i64_w, i32_w]; rfl
      refine take_ (i := 2) (N := (some 63)) (v := ?_) (a' := ?_) #[true, false, true, false, false, false, false, false, false, false] rfl rfl (by kernel_rfl) (fun _ _ _ h => h) (Or.inl ⟨by rfl, ?_⟩) hHeld ?_ ?_
      rotate_left
      · rintro w' ⟨s0, s1, s2, s3⟩; go_simp; first | done | with_reducible rfl
      rotate_left
      · simp only [Act.put, List.setIfInBounds_toArray, List.set_cons_zero, List.set_cons_succ, i64_w, i32_w]; rfl
      refine take_ (i := 3) (N := (some 64)) (v := ?_) (a' := ?_) #[true, false, true, true, false, false, false, false, false, false] rfl rfl (by kernel_rfl) (fun _ _ _ h => h) (Or.inl ⟨by rfl, ?_⟩) hHeld ?_ ?_
      rotate_left
      · rintro w' ⟨s0, s1, s2, s3⟩; go_simp; first | done | with_reducible rfl
      rotate_left
      · simp only [Act.put, List.setIfInBounds_toArray, List.set_cons_zero, List.set_cons_succ, i64_w, i32_w]; rfl
      refine one_ (i := 1) (N := (some 62)) #[true, true, true, true, false, false, false, false, false, false] rfl rfl (by kernel_rfl) (by decide) (fun K hK => ?_)
      refine goes_ Tryd.func41 (by kernel_rfl) rfl #[.slice A n c] (by rfl) rfl rfl (by (try simp only [List.map_toArray, List.map_cons, List.map_nil]); first | done | rfl) ?_
      refine (list_calls A n c _ _ _ (S8.out.later (Below.refl _ _).drew) hcap).mono ?_
      rw [HMN.out]
      rintro e w9 ⟨⟨A', c', rfl, hS⟩, hb2⟩
      refine ⟨_, rfl, ?_⟩
      have HS := Lib.hid hS
      have hbb := (Below.refl w8.heap.size w8).drew.trans hb2
      have H9 := Lib.hid (H8.out.trans (hbb.mono H8.out.size))
      have S9 := Lib.hid (S8.out.later hbb)
      have Q9 := Lib.hid (Q8.out.later hbb)
      refine hK.out _ _ Q9.out (fun hHeld => ?_)
      clear hK K
      refine norm_ (a' := ?_) ?_ ?_
      rotate_left
      · show Act.put _ (some 62) _ = _; simp only [Act.put, List.setIfInBounds_toArray, List.set_cons_zero, List.set_cons_succ, i64_w, i32_w]; rfl
      clear hS hb2 hbb hHeld e0 e1 e2 e3 H8 S8 Q8
      refine last_ (i := 4) (N := (some 65)) #[true, true, true, true, true, false, false, false, false, false] rfl rfl (by kernel_rfl) (by decide) (fun K hK => ?_)
      refine goes_ Tryd.func40 (by kernel_rfl) rfl #[.slice A' n c', ptV u0 u1, ptV v0 v1] (by rfl) rfl rfl (by (try simp only [List.map_toArray, List.map_cons, List.map_nil]); first | done | rfl) ?_
      refine (Fills_good A' n c' _ _ u0 u1 v0 v1 w9 HS.out (by have := HL.out; omega) HGD.out (near_iff.2 (by omega)) (near_iff.2 (by omega))).mono ?_
      rw [HF.out.2.1]
      rintro e w10 ⟨rfl, hb3⟩
      refine ⟨_, rfl, ?_⟩
      have H10 := Lib.hid (H9.out.trans (hb3.mono H9.out.size))
      have S10 := Lib.hid (S9.out.later hb3)
      have Q10 := Lib.hid (Q9.out.later hb3)
      refine hK.out _ _ ?_
      clear hK K
      refine norm_ (a' := ?_) ?_ ?_
      rotate_left
      · show Act.put _ (some 65) _ = _; simp only [Act.put, List.setIfInBounds_toArray, List.set_cons_zero, List.set_cons_succ, i64_w, i32_w]; rfl
      refine pure_ (i := 5) (N := (some 60)) (v := ?_) (a' := ?_) #[true, true, true, true, true, true, false, false, false, false] rfl rfl (by kernel_rfl) (fun _ _ _ h => h) (Or.inl ⟨by rfl, ?_⟩) ?_ ?_
      rotate_left
      · intro w'; go_simp; first | done | with_reducible rfl
      rotate_left
      · simp only [Act.put, List.setIfInBounds_toArray, List.set_cons_zero, List.set_cons_succ, i64_w, i32_w]; rfl
      refine pure_ (i := 6) (N := (some 66)) (v := ?_) (a' := ?_) #[true, true, true, true, true, true, true, false, false, false] rfl rfl (by kernel_rfl) (fun _ _ _ h => h) (Or.inl ⟨by rfl, ?_⟩) ?_ ?_
      rotate_left
      · intro w'; go_simp; first | done | with_reducible rfl
      rotate_left
      · simp only [Act.put, List.setIfInBounds_toArray, List.set_cons_zero, List.set_cons_succ, i64_w, i32_w]; rfl
      refine pure_ (i := 7) (N := (some 67)) (v := ?_) (a' := ?_) #[true, true, true, true, true, true, true, true, false, false] rfl rfl (by kernel_rfl) (fun _ _ _ h => h) (Or.inl ⟨by rfl, ?_⟩) ?_ ?_
      rotate_left
      · intro w'; go_simp; first | done | with_reducible rfl
      rotate_left
      · simp only [Act.put, List.setIfInBounds_toArray, List.set_cons_zero, List.set_cons_succ, i64_w, i32_w]; rfl
      refine pure_ (i := 8) (N := (some 11)) (v := ?_) (a' := ?_) #[true, true, true, true, true, true, true, true, true, false] rfl rfl (by kernel_rfl) (fun _ _ _ h => h) (Or.inl ⟨by rfl, ?_⟩) ?_ ?_
      rotate_left
      · intro w'; go_simp; first | done | with_reducible rfl
      rotate_left
      · simp only [Act.put, List.setIfInBounds_toArray, List.set_cons_zero, List.set_cons_succ, i64_w, i32_w]; rfl
      refine pure_ (i := 9) (N := (some 12)) (v := ?_) (a' := ?_) #[true, true, true, true, true, true, true, true, true, true] rfl rfl (by kernel_rfl) (fun _ _ _ h => h) (Or.inl ⟨by rfl, ?_⟩) ?_ ?_
      rotate_left
      · intro w'; go_simp; first | done | with_reducible rfl
      rotate_left
      · simp only [Act.put, List.setIfInBounds_toArray, List.set_cons_zero, List.set_cons_succ, i64_w, i32_w]; rfl
      refine done_ (by kernel_rfl) ?_
      clear hb3 HS H9 S9 Q9
      have e0 := Q10.out.a
      have e1 := Q10.out.b
      have e2 := Q10.out.c
      have e3 := Q10.out.d
      go_wp2_with fail
      refine start_ (n := 20) (S := Four gv gu v0 v1 u0 u1) (ds := [14]) #[false, false, false, false, false, false, false, false, false, false, false, false, false, false, false, false, false, false, false, false] (by kernel_rfl) rfl rfl (Q10.out.later (Below.refl _ _).drew) (fun hHeld => ?_)
      refine pure_ (i := 0) (N := (some 69)) (v := ?_) (a' := ?_) #[true, false, false, false, false, false, false, false, false, false, false, false, false, false, false, false, false, false, false, false] rfl rfl (by kernel_rfl) (fun _ _ _ h => h) (Or.inl ⟨by rfl, ?_⟩) ?_ ?_
      rotate_left
      · intro w'; go_simp; first | done | with_reducible rfl
      rotate_left
      · simp only [Act.put, List.setIfInBounds_toArray, List.set_cons_zero, List.set_cons_succ, i64_w, i32_w]; rfl
      refine pure_ (i := 2) (N := (some 71)) (v := ?_) (a' := ?_) #[true, false, true, false, false, false, false, false, false, false, false, false, false, false, false, false, false, false, false, false] rfl rfl (by kernel_rfl) (fun _ _ _ h => h) (Or.inl ⟨by rfl, ?_⟩) ?_ ?_
      rotate_left
      · intro w'; go_simp; first | done | with_reducible rfl
      rotate_left
      · simp only [Act.put, List.setIfInBounds_toArray, List.set_cons_zero, List.set_cons_succ, i64_w, i32_w]; rfl
      refine take_ (i := 3) (N := (some 72)) (v := ?_) (a' := ?_) #[true, false, true, true, false, false, false, false, false, false, false, false, false, false, false, false, false, false, false, false] rfl rfl (by kernel_rfl) (fun _ _ _ h => h) (Or.inl ⟨by rfl, ?_⟩) hHeld ?_ ?_
      rotate_left
      · rintro w' ⟨s0, s1, s2, s3⟩; go_simp; first | done | with_reducible rfl
      rotate_left
      · simp only [Act.put, List.setIfInBounds_toArray, List.set_cons_zero, List.set_cons_succ, i64_w, i32_w]; rfl
      refine pure_ (i := 4) (N := (some 73)) (v := ?_) (a' := ?_) #[true, false, true, true, true, false, false, false, false, false, false, false, false, false, false, false, false, false, false, false] rfl rfl (by kernel_rfl) (fun _ _ _ h => h) (Or.inl ⟨by rfl, ?_⟩) ?_ ?_
      rotate_left
      · intro w'; go_simp; first | done | with_reducible rfl
      rotate_left
      · simp only [Act.put, List.setIfInBounds_toArray, List.set_cons_zero, List.set_cons_succ, i64_w, i32_w]; rfl
      refine take_ (i := 5) (N := (some 74)) (v := ?_) (a' := ?_) #[true, false, true, true, true, true, false, false, false, false, false, false, false, false, false, false, false, false, false, false] rfl rfl (by kernel_rfl) (fun _ _ _ h => h) (Or.inl ⟨by rfl, ?_⟩) hHeld ?_ ?_
      rotate_left
      · rintro w' ⟨s0, s1, s2, s3⟩; go_simp; first | done | with_reducible rfl
      rotate_left
      · simp only [Act.put, List.setIfInBounds_toArray, List.set_cons_zero, List.set_cons_succ, i64_w, i32_w]; rfl
      refine pure_ (i := 6) (N := (some 75)) (v := ?_) (a' := ?_) #[true, false, true, true, true, true, true, false, false, false, false, false, false, false, false, false, false, false, false, false] rfl rfl (by kernel_rfl) (fun _ _ _ h => h) (Or.inl ⟨by rfl, ?_⟩) ?_ ?_
      rotate_left
      · intro w'; go_simp; first | done | with_reducible rfl
      rotate_left
      · simp only [Act.put, List.setIfInBounds_toArray, List.set_cons_zero, List.set_cons_succ, i64_w, i32_w]; rfl
      refine pure_ (i := 7) (N := (some 76)) (v := ?_) (a' := ?_) #[true, false, true, true, true, true, true, true, false, false, false, false, false, false, false, false, false, false, false, false] rfl rfl (by kernel_rfl) (fun _ _ _ h => h) (Or.inl ⟨by rfl, ?_⟩) ?_ ?_
      rotate_left
      · intro w'; go_simp; first | done | with_reducible rfl
      rotate_left
      · simp only [Act.put, List.setIfInBounds_toArray, List.set_cons_zero, List.set_cons_succ, i64_w, i32_w]; rfl
      refine take_ (i := 8) (N := (some 77)) (v := ?_) (a' := ?_) #[true, false, true, true, true, true, true, true, true, false, false, false, false, false, false, false, false, false, false, false] rfl rfl (by kernel_rfl) (fun _ _ _ h => h) (Or.inl ⟨by rfl, ?_⟩) hHeld ?_ ?_
      rotate_left
      · rintro w' ⟨s0, s1, s2, s3⟩; go_simp; first | done | with_reducible rfl
      rotate_left
      · simp only [Act.put, List.setIfInBounds_toArray, List.set_cons_zero, List.set_cons_succ, i64_w, i32_w]; rfl
      refine pure_ (i := 9) (N := (some 78)) (v := ?_) (a' := ?_) #[true, false, true, true, true, true, true, true, true, true, false, false, false, false, false, false, false, false, false, false] rfl rfl (by kernel_rfl) (fun _ _ _ h => h) (Or.inl ⟨by rfl, ?_⟩) ?_ ?_
      rotate_left
      · intro w'; go_simp; first | done | with_reducible rfl
      rotate_left
      · simp only [Act.put, List.setIfInBounds_toArray, List.set_cons_zero, List.set_cons_succ, i64_w, i32_w]; rfl
      refine take_ (i := 10) (N := (some 79)) (v := ?_) (a' := ?_) #[true, false, true, true, true, true, true, true, true, true, true, false, false, false, false, false, false, false, false, false] rfl rfl (by kernel_rfl) (fun _ _ _ h => h) (Or.inl ⟨by rfl, ?_⟩) hHeld ?_ ?_
      rotate_left
      · rintro w' ⟨s0, s1, s2, s3⟩; go_simp; first | done | with_reducible rfl
      rotate_left
      · simp only [Act.put, List.setIfInBounds_toArray, List.set_cons_zero, List.set_cons_succ, i64_w, i32_w]; rfl
      refine pure_ (i := 11) (N := (some 80)) (v := ?_) (a' := ?_) #[true, false, true, true, true, true, true, true, true, true, true, true, false, false, false, false, false, false, false, false] rfl rfl (by kernel_rfl) (fun _ _ _ h => h) (Or.inl ⟨by rfl, ?_⟩) ?_ ?_
      rotate_left
      · intro w'; go_simp; first | done | with_reducible rfl
      rotate_left
      · simp only [Act.put, List.setIfInBounds_toArray, List.set_cons_zero, List.set_cons_succ, i64_w, i32_w]; rfl
      refine pure_ (i := 12) (N := (some 81)) (v := ?_) (a' := ?_) #[true, false, true, true, true, true, true, true, true, true, true, true, true, false, false, false, false, false, false, false] rfl rfl (by kernel_rfl) (fun _ _ _ h => h) (Or.inl ⟨by rfl, ?_⟩) ?_ ?_
      rotate_left
      · intro w'; go_simp; first | done | with_reducible rfl
      rotate_left
      · simp only [Act.put, List.setIfInBounds_toArray, List.set_cons_zero, List.set_cons_succ, i64_w, i32_w]; rfl
      refine take_ (i := 13) (N := (some 82)) (v := ?_) (a' := ?_) #[true, false, true, true, true, true, true, true, true, true, true, true, true, true, false, false, false, false, false, false] rfl rfl (by kernel_rfl) (fun _ _ _ h => h) (Or.inl ⟨by rfl, ?_⟩) hHeld ?_ ?_
      rotate_left
      · rintro w' ⟨s0, s1, s2, s3⟩; go_simp; first | done | with_reducible rfl
      rotate_left
      · simp only [Act.put, List.setIfInBounds_toArray, List.set_cons_zero, List.set_cons_succ, i64_w, i32_w]; rfl
      refine one_ (i := 1) (N := (some 70)) #[true, true, true, true, true, true, true, true, true, true, true, true, true, true, false, false, false, false, false, false] rfl rfl (by kernel_rfl) (by decide) (fun K hK => ?_)
      refine goes_ Tryd.func41 (by kernel_rfl) rfl #[.slice A n c] (by rfl) rfl rfl (by (try simp only [List.map_toArray, List.map_cons, List.map_nil]); first | done | rfl) ?_
      refine (list_calls A n c _ _ _ (S10.out.later (Below.refl _ _).drew) hcap).mono ?_
      rw [HMN.out]
      rintro e w11 ⟨⟨A', c', rfl, hS⟩, hb2⟩
      refine ⟨_, rfl, ?_⟩
      have HS := Lib.hid hS
      have hbb := (Below.refl w10.heap.size w10).drew.trans hb2
      have H11 := Lib.hid (H10.out.trans (hbb.mono H10.out.size))
      have S11 := Lib.hid (S10.out.later hbb)
      have Q11 := Lib.hid (Q10.out.later hbb)
      refine hK.out _ _ Q11.out (fun hHeld => ?_)
      clear hK K
      refine norm_ (a' := ?_) ?_ ?_
      rotate_left
      · show Act.put _ (some 70) _ = _; simp only [Act.put, List.setIfInBounds_toArray, List.set_cons_zero, List.set_cons_succ, i64_w, i32_w]; rfl
      clear hS hb2 hbb hHeld e0 e1 e2 e3 H10 S10 Q10
      refine last_ (i := 14) (N := (some 83)) #[true, true, true, true, true, true, true, true, true, true, true, true, true, true, true, false, false, false, false, false] rfl rfl (by kernel_rfl) (by decide) (fun K hK => ?_)
      refine goes_ Tryd.func40 (by kernel_rfl) rfl #[.slice A' n c', ptV (wrap64 (v0 + u0)) (wrap64 (v1 + u1)), ptV u0 u1] (by rfl) rfl rfl (by (try simp only [List.map_toArray, List.map_cons, List.map_nil]); first | done | rfl) ?_
      rw [show wrap64 (v0 + u0) = v0 + u0 from by unfold wrap64; omega, show wrap64 (v1 + u1) = v1 + u1 from by unfold wrap64; omega]
      refine (Fills_good A' n c' _ _ (v0 + u0) (v1 + u1) u0 u1 w11 HS.out (by have := HL.out; omega) HGD.out (near_iff.2 (by omega)) (near_iff.2 (by omega))).mono ?_
      rw [HF.out.2.2]
      rintro e w12 ⟨rfl, hb3⟩
      refine ⟨_, rfl, ?_⟩
      have H12 := Lib.hid (H11.out.trans (hb3.mono H11.out.size))
      have S12 := Lib.hid (S11.out.later hb3)
      have Q12 := Lib.hid (Q11.out.later hb3)
      refine hK.out _ _ ?_
      clear hK K
      refine norm_ (a' := ?_) ?_ ?_
      rotate_left
      · show Act.put _ (some 83) _ = _; simp only [Act.put, List.setIfInBounds_toArray, List.set_cons_zero, List.set_cons_succ, i64_w, i32_w]; rfl
      refine pure_ (i := 15) (N := (some 68)) (v := ?_) (a' := ?_) #[true, true, true, true, true, true, true, true, true, true, true, true, true, true, true, true, false, false, false, false] rfl rfl (by kernel_rfl) (fun _ _ _ h => h) (Or.inl ⟨by rfl, ?_⟩) ?_ ?_
      rotate_left
      · intro w'; go_simp; first | done | with_reducible rfl
      rotate_left
      · simp only [Act.put, List.setIfInBounds_toArray, List.set_cons_zero, List.set_cons_succ, i64_w, i32_w]; rfl
      refine pure_ (i := 16) (N := (some 84)) (v := ?_) (a' := ?_) #[true, true, true, true, true, true, true, true, true, true, true, true, true, true, true, true, true, false, false, false] rfl rfl (by kernel_rfl) (fun _ _ _ h => h) (Or.inl ⟨by rfl, ?_⟩) ?_ ?_
      rotate_left
      · intro w'; go_simp; first | done | with_reducible rfl
      rotate_left
      · simp only [Act.put, List.setIfInBounds_toArray, List.set_cons_zero, List.set_cons_succ, i64_w, i32_w]; rfl
      refine pure_ (i := 17) (N := (some 85)) (v := ?_) (a' := ?_) #[true, true, true, true, true, true, true, true, true, true, true, true, true, true, true, true, true, true, false, false] rfl rfl (by kernel_rfl) (fun _ _ _ h => h) (Or.inl ⟨by rfl, ?_⟩) ?_ ?_
      rotate_left
      · intro w'; go_simp; first | done | with_reducible rfl
      rotate_left
      · simp only [Act.put, List.setIfInBounds_toArray, List.set_cons_zero, List.set_cons_succ, i64_w, i32_w]; rfl
      refine pure_ (i := 18) (N := (some 13)) (v := ?_) (a' := ?_) #[true, true, true, true, true, true, true, true, true, true, true, true, true, true, true, true, true, true, true, false] rfl rfl (by kernel_rfl) (fun _ _ _ h => h) (Or.inl ⟨by rfl, ?_⟩) ?_ ?_
      rotate_left
      · intro w'; go_simp; first | done | with_reducible rfl
      rotate_left
      · simp only [Act.put, List.setIfInBounds_toArray, List.set_cons_zero, List.set_cons_succ, i64_w, i32_w]; rfl
      refine pure_ (i := 19) (N := (some 14)) (v := ?_) (a' := ?_) #[true, true, true, true, true, true, true, true, true, true, true, true, true, true, true, true, true, true, true, true] rfl rfl (by kernel_rfl) (fun _ _ _ h => h) (Or.inl ⟨by rfl, ?_⟩) ?_ ?_
      rotate_left
      · intro w'; go_simp; first | done | with_reducible rfl
      rotate_left
      · simp only [Act.put, List.setIfInBounds_toArray, List.set_cons_zero, List.set_cons_succ, i64_w, i32_w]; rfl
      refine done_ (by kernel_rfl) ?_
      clear hb3 HS H11 S11 Q11
      have e0 := Q12.out.a
      have e1 := Q12.out.b
      have e2 := Q12.out.c
      have e3 := Q12.out.d
      go_wp2_with fail
      refine (awake_ok _).mono ?_
      rintro e w13 ⟨rfl, hb13⟩
      have H13 := Lib.hid (H12.out.trans (hb13.mono H12.out.size))
      clear hb13 e0 e1 e2 e3
      go_wp2
      go_ret
      exact ⟨rfl, H13.out⟩
end Go.Proofs.YtpfenoioeajkmaaDoor.X
end

section
set_option linter.unusedVariables false
set_option linter.unusedSimpArgs false
namespace Go.Proofs.YtpfenoioeajkmaaDoor.L
open Go.RowKit Go.Proofs.YtpfenoioeajkmaaDoorW.PrintWords Go.Proofs.YtpfenoioeajkmaaDoorW.PrintLast Go.Proofs.YtpfenoioeajkmaaDoorW.PrintMore Go.Proofs.YtpfenoioeajkmaaDoor.X Go.Proofs.YtpfenoioeajkmaaDoor.G
theorem rot_sum {s : ByteArray} (h : isO s = true) {k : Nat} (hk : k < s.size) : ∀ i, i ≤ s.size → sumx (rotF s k) i = gX s (k + i) - gX s k ∧ sumy (rotF s k) i = gY s (k + i) - gY s k
  | 0, _ => by show (0 : Int) = _ ∧ (0 : Int) = _; rw [Nat.add_zero]; omega
  | i + 1, hi => by
    obtain ⟨a, b⟩ := rot_sum h hk i (by omega)
    obtain ⟨e, l⟩ := gD_rot h hk (show i < s.size by omega)
    obtain ⟨c, d⟩ := cd_step l
    have sx := (loop_of h).sx (k + i)
    have sy := (loop_of h).sy (k + i)
    rw [sumx, sumy, a, b, c, d, ← e, ← Nat.add_assoc]
    omega
end Go.Proofs.YtpfenoioeajkmaaDoor.L
end

section
set_option linter.unusedVariables false
set_option linter.unusedSimpArgs false
namespace Go.Proofs.YtpfenoioeajkmaaDoor.X
open Go.RowKit Go.Proofs.YtpfenoioeajkmaaDoorW.PrintWords Go.Proofs.YtpfenoioeajkmaaDoorW.PrintLast Go.Proofs.YtpfenoioeajkmaaDoorW.PrintMore Go.Proofs.YtpfenoioeajkmaaDoor.L Go.Proofs.YtpfenoioeajkmaaDoor.G
theorem cut_vec {s : ByteArray} (h : isO s = true) {k : Nat} (hk : k < s.size) {i j : Nat} (hij : i ≤ j) (hj : j ≤ s.size) :
    sumx ((rotF s k).extract i j) ((rotF s k).extract i j).size = gX s (k + j) - gX s (k + i) ∧ sumy ((rotF s k).extract i j) ((rotF s k).extract i j).size = gY s (k + j) - gY s (k + i) := by
  have hsz := rot_size s (Nat.le_of_lt hk)
  have hrw := rot_W (isO_W h) (Nat.le_of_lt hk)
  have e : ((rotF s k).extract i j).size = j - i := by rw [ByteArray.size_extract]; omega
  have a1 := rot_sum h hk i (by omega)
  have a2 := rot_sum h hk j hj
  rw [← cut_sumy hrw i j (by omega), e, sumx_cut _ i j (by omega) _ (by omega), rsumy_cut _ i j (by omega) _ (by omega), show i + (j - i) = j by omega, rsumy_eq hrw j (by omega), rsumy_eq hrw i (by omega), a1.1, a1.2, a2.1, a2.2]
  omega
theorem MouldsLaid.calls (s : ByteArray) (w : World) (hs : s.size ≤ 140737488351232) :
    Calls Tryd.prog 15 #[.string s] w fun e w' => e = .returned (.bool true) ∧ Below w.heap.size w w' := by
  cases h : isO s with
  | false =>
    have ht := txt_le s
    have h' : isO (txt s) = false := by rw [txt_O]; exact h
    exact LaidLaw_no s (txt s) w 2 (.inl rfl) (text_any s) (Vectors_err (txt s) 2 (by decide) (Factor_no (txt s) (by omega) h'))
  | true =>
    have hw := isO_W h
    have h24 := isW_le hw
    have h4 := isO_4 h
    cases hf : facs s with
    | nil => exact LaidLaw_no s s w 4 (.inr rfl) (text_ok hw) (Vectors_err s 4 (by decide) (Factor_none h hf))
    | cons x l =>
      obtain ⟨k, a, b, h1, h2, h3, h4, h5, h6, rfl⟩ := mem_facs (s := s) (x := x) (by rw [hf]; exact List.mem_cons_self)
      have F := (fT_fac h h1 (by omega)).1 h6
      obtain ⟨hd, hno⟩ := fac_fills h F
      obtain ⟨e1, e2⟩ := cut_vec h h1 (i := 0) (j := a + b) (by omega) (by omega)
      obtain ⟨e3, e4⟩ := cut_vec h h1 (i := a) (j := a + b + (s.size / 2 - a - b)) (by omega) (by omega)
      have bx := box_of h
      have p1 := bx (k + (a + b))
      have p2 := bx (k + 0)
      have p3 := bx (k + (a + b + (s.size / 2 - a - b)))
      have p4 := bx (k + a)
      exact LaidLaw_yes s w h _ _ _ _ (Vectors_some s _ k a b (s.size / 2 - a - b) _ _ _ _ h24 h1 rfl (by omega) (Factor_some h hf) e1 e2 e3 e4) (by omega) (by omega) (by omega) (by omega) (laid_three h hd hno)
end Go.Proofs.YtpfenoioeajkmaaDoor.X
end
