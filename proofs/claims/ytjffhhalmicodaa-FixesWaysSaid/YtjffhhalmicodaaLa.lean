import Derived.Test.YtjffhhalmicodaaXx
import Derived.Laws.BitsLemmas
namespace Go.Proofs.Ytjffhhalmicodaa.L
open Go.RowKit Go.Proofs.YtjffhhalmicodaaW.PrintWords Go.Proofs.YtjffhhalmicodaaW.PrintLast Go.Proofs.YtjffhhalmicodaaW.PrintMore Go.Proofs.Ytjffhhalmicodaa.X

/-- a set of the states 0 .. n - 1 as a number -/
def InS (n : Nat) (a : Int) : Prop := 0 ≤ a ∧ a < 2 ^ n
def tb (a : Int) (i : Nat) : Bool := a.toNat.testBit i

theorem wrap64_nat {x : Nat} (h : x < 2 ^ 62) : IntKind.i64.wrap (x : Int) = (x : Int) := by
  rw [IntKind.wrap_i64]
  have h2 : (x : Int) < 2 ^ 62 := by exact_mod_cast h
  have : (2 : Int) ^ 62 = 4611686018427387904 := by decide
  omega

theorem inS_nat {n : Nat} {a : Int} (h : InS n a) : ∃ x : Nat, a = (x : Int) ∧ x < 2 ^ n := by
  obtain ⟨x, rfl⟩ := Int.eq_ofNat_of_zero_le h.1
  exact ⟨x, rfl, by exact_mod_cast h.2⟩
theorem inS_of {n x : Nat} (h : x < 2 ^ n) : InS n (x : Int) := ⟨Int.natCast_nonneg _, by exact_mod_cast h⟩
theorem inS_zero (n : Nat) : InS n 0 := inS_of (x := 0) (Nat.two_pow_pos n)
theorem pow_le62 {n : Nat} (h : n ≤ 62) : 2 ^ n ≤ 2 ^ 62 := Nat.pow_le_pow_right (by decide) h
theorem tb_nat (x i : Nat) : tb (x : Int) i = x.testBit i := rfl
theorem tb_zero (i : Nat) : tb 0 i = false := by simp [tb]
theorem inS_mono {n m : Nat} {a : Int} (h : InS n a) (hm : n ≤ m) : InS m a := by
  obtain ⟨x, rfl, hx⟩ := inS_nat h
  exact inS_of (Nat.lt_of_lt_of_le hx (Nat.pow_le_pow_right (by decide) hm))

theorem tb_ge {n : Nat} {a : Int} (h : InS n a) {i : Nat} (hi : n ≤ i) : tb a i = false := by
  obtain ⟨x, rfl, hx⟩ := inS_nat h
  exact Nat.testBit_lt_two_pow (Nat.lt_of_lt_of_le hx (Nat.pow_le_pow_right (by decide) hi))

theorem inS_ext {n : Nat} {a b : Int} (ha : InS n a) (hb : InS n b) (h : ∀ i, i < n → tb a i = tb b i) : a = b := by
  have hall : ∀ i, tb a i = tb b i := fun i => by
    rcases Nat.lt_or_ge i n with hi | hi
    · exact h i hi
    · rw [tb_ge ha hi, tb_ge hb hi]
  obtain ⟨x, rfl, hx⟩ := inS_nat ha
  obtain ⟨y, rfl, hy⟩ := inS_nat hb
  have : x = y := Nat.eq_of_testBit_eq hall
  rw [this]

theorem and_nat {x y : Nat} (hx : x < 2 ^ 62) (hy : y < 2 ^ 62) : bits .and .i64 (x : Int) (y : Int) = ((x &&& y : Nat) : Int) :=
  (bits_nat .i64 62 (by decide) (fun n h1 h2 => by obtain ⟨z, rfl⟩ := Int.eq_ofNat_of_zero_le h1; exact wrap64_nat (by exact_mod_cast h2)) x y hx hy).1
theorem or_nat {x y : Nat} (hx : x < 2 ^ 62) (hy : y < 2 ^ 62) : bits .or .i64 (x : Int) (y : Int) = ((x ||| y : Nat) : Int) :=
  (bits_nat .i64 62 (by decide) (fun n h1 h2 => by obtain ⟨z, rfl⟩ := Int.eq_ofNat_of_zero_le h1; exact wrap64_nat (by exact_mod_cast h2)) x y hx hy).2
theorem andNot_nat {x y : Nat} (hx : x < 2 ^ 62) (hy : y < 2 ^ 62) : bits .andNot .i64 (x : Int) (y : Int) = ((x &&& (18446744073709551615 - y) : Nat) : Int) := by
  have hp : (2 : Nat) ^ 62 < 18446744073709551616 := by decide
  have ha : x % 18446744073709551616 = x := Nat.mod_eq_of_lt (by omega)
  have hb : y % 18446744073709551616 = y := Nat.mod_eq_of_lt (by omega)
  have hl : x &&& (18446744073709551615 - y) < 2 ^ 62 := Nat.lt_of_le_of_lt Nat.and_le_left hx
  have : (BitVec.ofInt IntKind.i64.bits (x : Int) &&& ~~~ BitVec.ofInt IntKind.i64.bits (y : Int)).toNat = x &&& (18446744073709551615 - y) := by
    rw [BitVec.ofInt_natCast, BitVec.ofInt_natCast, BitVec.toNat_and, BitVec.toNat_not, BitVec.toNat_ofNat, BitVec.toNat_ofNat]
    show x % 18446744073709551616 &&& (18446744073709551616 - 1 - y % 18446744073709551616) = _
    rw [ha, hb]
  show IntKind.i64.wrap ((BitVec.ofInt IntKind.i64.bits (x : Int) &&& ~~~ BitVec.ofInt IntKind.i64.bits (y : Int)).toNat : Int) = _
  rw [this]
  exact wrap64_nat hl

theorem and_in {n : Nat} (hn : n ≤ 62) {a b : Int} (ha : InS n a) (hb : InS n b) : InS n (bits .and .i64 a b) := by
  obtain ⟨x, rfl, hx⟩ := inS_nat ha
  obtain ⟨y, rfl, hy⟩ := inS_nat hb
  rw [and_nat (Nat.lt_of_lt_of_le hx (pow_le62 hn)) (Nat.lt_of_lt_of_le hy (pow_le62 hn))]
  exact inS_of (Nat.lt_of_le_of_lt Nat.and_le_left hx)
theorem or_in {n : Nat} (hn : n ≤ 62) {a b : Int} (ha : InS n a) (hb : InS n b) : InS n (bits .or .i64 a b) := by
  obtain ⟨x, rfl, hx⟩ := inS_nat ha
  obtain ⟨y, rfl, hy⟩ := inS_nat hb
  rw [or_nat (Nat.lt_of_lt_of_le hx (pow_le62 hn)) (Nat.lt_of_lt_of_le hy (pow_le62 hn))]
  exact inS_of (Nat.or_lt_two_pow hx hy)
theorem andNot_in {n m : Nat} (hn : n ≤ 62) (hm : m ≤ 62) {a b : Int} (ha : InS n a) (hb : InS m b) : InS n (bits .andNot .i64 a b) := by
  obtain ⟨x, rfl, hx⟩ := inS_nat ha
  obtain ⟨y, rfl, hy⟩ := inS_nat hb
  rw [andNot_nat (Nat.lt_of_lt_of_le hx (pow_le62 hn)) (Nat.lt_of_lt_of_le hy (pow_le62 hm))]
  exact inS_of (Nat.lt_of_le_of_lt Nat.and_le_left hx)
theorem tb_and {n m : Nat} (hn : n ≤ 62) (hm : m ≤ 62) {a b : Int} (ha : InS n a) (hb : InS m b) (i : Nat) : tb (bits .and .i64 a b) i = (tb a i && tb b i) := by
  obtain ⟨x, rfl, hx⟩ := inS_nat ha
  obtain ⟨y, rfl, hy⟩ := inS_nat hb
  rw [and_nat (Nat.lt_of_lt_of_le hx (pow_le62 hn)) (Nat.lt_of_lt_of_le hy (pow_le62 hm))]
  exact Nat.testBit_and x y i
theorem tb_or {n m : Nat} (hn : n ≤ 62) (hm : m ≤ 62) {a b : Int} (ha : InS n a) (hb : InS m b) (i : Nat) : tb (bits .or .i64 a b) i = (tb a i || tb b i) := by
  obtain ⟨x, rfl, hx⟩ := inS_nat ha
  obtain ⟨y, rfl, hy⟩ := inS_nat hb
  rw [or_nat (Nat.lt_of_lt_of_le hx (pow_le62 hn)) (Nat.lt_of_lt_of_le hy (pow_le62 hm))]
  exact Nat.testBit_or x y i
theorem tb_andNot {n m : Nat} (hn : n ≤ 62) (hm : m ≤ 62) {a b : Int} (ha : InS n a) (hb : InS m b) (i : Nat) : tb (bits .andNot .i64 a b) i = (tb a i && !tb b i) := by
  obtain ⟨x, rfl, hx⟩ := inS_nat ha
  obtain ⟨y, rfl, hy⟩ := inS_nat hb
  have hx2 := Nat.lt_of_lt_of_le hx (pow_le62 hn)
  have hy2 := Nat.lt_of_lt_of_le hy (pow_le62 hm)
  have hp : (2 : Nat) ^ 62 < 2 ^ 64 := by decide
  rw [andNot_nat hx2 hy2, tb_nat, tb_nat, tb_nat, Nat.testBit_and]
  have he : 18446744073709551615 - y = 2 ^ 64 - (y + 1) := by
    have : (2 : Nat) ^ 64 = 18446744073709551616 := by decide
    omega
  rw [he, Nat.testBit_two_pow_sub_succ (by omega)]
  by_cases hi : i < 64
  · simp [hi]
  · have : x.testBit i = false := Nat.testBit_lt_two_pow (Nat.lt_of_lt_of_le (Nat.lt_trans hx2 hp) (Nat.pow_le_pow_right (by decide) (by omega)))
    rw [this]
    rfl

theorem and_zero {n : Nat} (hn : n ≤ 62) {a b : Int} (ha : InS n a) (hb : InS n b) : bits .and .i64 a b = 0 ↔ ∀ i, tb a i = true → tb b i = false := by
  constructor
  · intro h i hi
    have h2 := tb_and hn hn ha hb i
    rw [h, tb_zero, hi] at h2
    simpa using h2.symm
  · intro h
    refine inS_ext (and_in hn ha hb) (inS_zero n) fun i _ => ?_
    rw [tb_and hn hn ha hb, tb_zero]
    cases h1 : tb a i
    · rfl
    · rw [h i h1]; rfl
theorem andNot_zero {n : Nat} (hn : n ≤ 62) {a b : Int} (ha : InS n a) (hb : InS n b) : bits .andNot .i64 a b = 0 ↔ ∀ i, tb a i = true → tb b i = true := by
  constructor
  · intro h i hi
    have h2 := tb_andNot hn hn ha hb i
    rw [h, tb_zero, hi] at h2
    simpa using h2.symm
  · intro h
    refine inS_ext (andNot_in hn hn ha hb) (inS_zero n) fun i _ => ?_
    rw [tb_andNot hn hn ha hb, tb_zero]
    cases h1 : tb a i
    · rfl
    · rw [h i h1]; rfl

theorem pow_wrap {n : Nat} (hn : n < 62) : wrap64 (2 ^ min n 64) = ((2 ^ n : Nat) : Int) := by
  rw [Nat.min_eq_left (by omega)]
  have h := wrap64_nat (x := 2 ^ n) (Nat.pow_lt_pow_right (by decide) hn)
  rw [IntKind.wrap_i64] at h
  rw [wrap64]
  have e : ((2 ^ n : Nat) : Int) = (2 : Int) ^ n := by simp
  rw [e] at h ⊢
  exact h

theorem whereTo_spec (p : Nat → Bool) : ∀ n, n ≤ 61 → InS n (whereTo p n) ∧ ∀ i, tb (whereTo p n) i = (decide (i < n) && p i) := by
  intro n
  induction n with
  | zero => intro _; exact ⟨inS_zero 0, fun i => by simp [whereTo, tb_zero]⟩
  | succ n ih =>
    intro hn
    obtain ⟨h1, h2⟩ := ih (by omega)
    have hq : InS (n + 1) (((2 ^ n : Nat) : Int)) := inS_of (Nat.pow_lt_pow_right (by decide) (by omega))
    simp only [whereTo]
    by_cases hp : p n = true
    · rw [if_pos hp, pow_wrap (by omega)]
      refine ⟨or_in (by omega) (inS_mono h1 (by omega)) hq, fun i => ?_⟩
      rw [tb_or (by omega) (by omega) (inS_mono h1 (Nat.le_succ n)) hq, h2, tb_nat, Nat.testBit_two_pow]
      by_cases e : n = i
      · subst e
        simp [hp]
      · have : (decide (i < n + 1)) = decide (i < n) := by
          by_cases h : i < n
          · simp [h]; omega
          · simp [h]; omega
        simp [e, this]
    · rw [if_neg hp]
      refine ⟨inS_mono h1 (by omega), fun i => ?_⟩
      rw [h2]
      by_cases e : n = i
      · subst e
        simp [hp]
      · have : (decide (i < n + 1)) = decide (i < n) := by
          by_cases h : i < n
          · simp [h]; omega
          · simp [h]; omega
        rw [this]

theorem shl1 {n : Nat} (hn : n < 62) : shl .i64 1 (n : Int) = ((2 ^ n : Nat) : Int) := by
  have h := wrap64_nat (x := 2 ^ n) (Nat.pow_lt_pow_right (by decide) hn)
  have e : min (n : Int).toNat IntKind.i64.bits = n := by simp [IntKind.bits]; omega
  rw [shl, e]
  rw [show (1 : Int) * 2 ^ n = ((2 ^ n : Nat) : Int) by simp]
  exact h
theorem allOf_eq {nx : List Int} (hn : nx.length < 62) : allOf nx = ((2 ^ nx.length - 1 : Nat) : Int) := by
  have hp := Nat.two_pow_pos nx.length
  have hlt : 2 ^ nx.length < 2 ^ 62 := Nat.pow_lt_pow_right (by decide) hn
  have h := wrap64_nat (x := 2 ^ nx.length - 1) (by omega)
  rw [IntKind.wrap_i64] at h
  rw [allOf, shl1 hn, wrap64]
  rw [Int.natCast_sub hp] at h ⊢
  exact h
theorem all_in {nx : List Int} (hn : nx.length < 62) : InS nx.length (allOf nx) := by
  rw [allOf_eq hn]
  exact inS_of (Nat.sub_lt (Nat.two_pow_pos _) (by decide))
theorem tb_all {nx : List Int} (hn : nx.length < 62) (i : Nat) : tb (allOf nx) i = decide (i < nx.length) := by
  rw [allOf_eq hn, tb_nat, Nat.testBit_two_pow_sub_one]

/-- how many states are in a set -/
def card (n : Nat) (a : Int) : Nat := (List.range n).countP (tb a)
def Sub (a b : Int) : Prop := ∀ i, tb a i = true → tb b i = true
theorem Sub.refl (a : Int) : Sub a a := fun _ h => h
theorem Sub.trans {a b c : Int} (h : Sub a b) (g : Sub b c) : Sub a c := fun i hi => g i (h i hi)
theorem sub_zero (a : Int) : Sub 0 a := fun i h => by rw [tb_zero] at h; cases h
theorem sub_all {nx : List Int} (hn : nx.length < 62) {a : Int} (ha : InS nx.length a) : Sub a (allOf nx) := fun i h => by
  rw [tb_all hn]
  rcases Nat.lt_or_ge i nx.length with hi | hi
  · simp [hi]
  · rw [tb_ge ha hi] at h; cases h
theorem sub_antisymm {n : Nat} {a b : Int} (ha : InS n a) (hb : InS n b) (h : Sub a b) (g : Sub b a) : a = b :=
  inS_ext ha hb fun i _ => by
    cases h1 : tb a i
    · cases h2 : tb b i
      · rfl
      · rw [g i h2] at h1; cases h1
    · rw [h i h1]
theorem card_le {n : Nat} {a : Int} : card n a ≤ n := by
  have := List.countP_le_length (p := tb a) (l := List.range n)
  simpa [card] using this
theorem card_mono {n : Nat} {a b : Int} (h : Sub a b) : card n a ≤ card n b := List.countP_mono_left fun i _ hi => h i hi
theorem countP_eq {α : Type} {p q : α → Bool} : ∀ {l : List α}, (∀ x, p x = true → q x = true) → l.countP p = l.countP q → ∀ x ∈ l, p x = q x
  | [], _, _, x, hx => by cases hx
  | a :: l, h, e, x, hx => by
    have hm : l.countP p ≤ l.countP q := List.countP_mono_left fun i _ hi => h i hi
    rw [List.countP_cons, List.countP_cons] at e
    have hpa := h a
    have key : p a = q a ∧ l.countP p = l.countP q := by
      cases h1 : p a <;> cases h2 : q a <;> simp_all <;> omega
    rcases List.mem_cons.1 hx with rfl | hx
    · exact key.1
    · exact countP_eq h key.2 x hx
theorem card_eq {n : Nat} {a b : Int} (ha : InS n a) (hb : InS n b) (h : Sub a b) (e : card n a = card n b) : a = b :=
  inS_ext ha hb fun i hi => countP_eq h e i (List.mem_range.2 hi)
end Go.Proofs.Ytjffhhalmicodaa.L
