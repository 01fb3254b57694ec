import Derived.Test.YtjffhhalmicodaaLa
namespace Go.Proofs.Ytjffhhalmicodaa.L
open Go.RowKit Go.Proofs.YtjffhhalmicodaaW.PrintWords Go.Proofs.YtjffhhalmicodaaW.PrintLast Go.Proofs.YtjffhhalmicodaaW.PrintMore Go.Proofs.Ytjffhhalmicodaa.X

/-- a Works as documented -/
structure VW (nx mk : List Int) : Prop where
  pos : 1 ≤ nx.length
  le : nx.length ≤ 6
  len : mk.length = nx.length
  next : ∀ i : Nat, i < nx.length → InS nx.length (rd nx i)
  marks : ∀ i : Nat, i < nx.length → 0 ≤ rd mk i ∧ rd mk i ≤ 15

theorem tb_step {nx : List Int} (hn : nx.length ≤ 61) (p : Int) : InS nx.length (stepTo nx p) ∧ ∀ i, tb (stepTo nx p) i = (decide (i < nx.length) && (bits .and .i64 (rd nx i) p != 0)) := whereTo_spec _ _ hn
theorem tb_box {nx : List Int} (hn : nx.length ≤ 61) (p : Int) : InS nx.length (boxTo nx p) ∧ ∀ i, tb (boxTo nx p) i = (decide (i < nx.length) && (bits .andNot .i64 (rd nx i) p == 0)) := whereTo_spec _ _ hn

theorem step_mono {nx mk : List Int} (hv : VW nx mk) {p q : Int} (hp : InS nx.length p) (hq : InS nx.length q) (h : Sub p q) : Sub (stepTo nx p) (stepTo nx q) := by
  have hle := hv.le
  intro i hi
  rw [(tb_step (by omega) p).2] at hi
  rw [(tb_step (by omega) q).2]
  simp only [Bool.and_eq_true, decide_eq_true_eq, bne_iff_ne] at hi ⊢
  refine ⟨hi.1, fun e => hi.2 ?_⟩
  rw [and_zero (by omega) (hv.next i hi.1) hq] at e
  rw [and_zero (by omega) (hv.next i hi.1) hp]
  intro j hj
  cases h1 : tb p j
  · rfl
  · have := e j hj
    rw [h j h1] at this
    exact this
theorem box_mono {nx mk : List Int} (hv : VW nx mk) {p q : Int} (hp : InS nx.length p) (hq : InS nx.length q) (h : Sub p q) : Sub (boxTo nx p) (boxTo nx q) := by
  have hle := hv.le
  intro i hi
  rw [(tb_box (by omega) p).2] at hi
  rw [(tb_box (by omega) q).2]
  simp only [Bool.and_eq_true, decide_eq_true_eq, beq_iff_eq] at hi ⊢
  refine ⟨hi.1, ?_⟩
  rw [andNot_zero (by omega) (hv.next i hi.1) hq]
  have e := hi.2
  rw [andNot_zero (by omega) (hv.next i hi.1) hp] at e
  exact fun j hj => h j (e j hj)

/-- the states with a mark -/
def mset (mk : List Int) (j : Nat) : Int := whereTo (fun s => markOf mk j s == 1) mk.length

theorem markOf_val {m : Int} (h0 : 0 ≤ m) (h1 : m ≤ 15) {j : Nat} (_hj : j ≤ 3) : bits .and .i64 (m / 2 ^ j) 1 = if tb m j = true then 1 else 0 := by
  obtain ⟨x, rfl⟩ := Int.eq_ofNat_of_zero_le h0
  have hx : x ≤ 15 := by omega
  have e : ((x : Int) / 2 ^ j) = ((x / 2 ^ j : Nat) : Int) := by
    rw [Int.natCast_ediv]; simp
  have hb : x / 2 ^ j < 2 ^ 62 := Nat.lt_of_le_of_lt (Nat.div_le_self _ _) (by omega)
  rw [e, show (1 : Int) = ((1 : Nat) : Int) from rfl, and_nat hb (by decide), tb_nat, Nat.testBit, Nat.shiftRight_eq_div_pow, Nat.and_comm]
  have : 1 &&& x / 2 ^ j = 0 ∨ 1 &&& x / 2 ^ j = 1 := by
    rw [Nat.and_comm, Nat.and_one_is_mod]
    omega
  rcases this with h | h <;> rw [h] <;> rfl

theorem mset_spec {nx mk : List Int} (hv : VW nx mk) {j : Nat} (hj : j ≤ 3) : InS nx.length (mset mk j) ∧ ∀ i, tb (mset mk j) i = (decide (i < nx.length) && tb (rd mk i) j) := by
  have hle := hv.le
  have h := whereTo_spec (fun s => markOf mk j s == 1) mk.length (by rw [hv.len]; omega)
  rw [hv.len] at h
  unfold mset
  rw [hv.len]
  refine ⟨h.1, fun i => ?_⟩
  rw [h.2]
  by_cases hi : i < nx.length
  · have hm := hv.marks i hi
    have := markOf_val hm.1 hm.2 hj
    simp only [markOf, Nat.min_eq_left (show j ≤ 64 by omega)]
    rw [this]
    cases tb (rd mk i) j <;> simp
  · simp [hi]

theorem rmarkTo_eq {mk : List Int} {j : Nat} (hj : j ≤ 3) : ∀ m, m ≤ 6 → (∀ i : Nat, i < m → 0 ≤ rd mk i ∧ rd mk i ≤ 15) → rmarkTo mk j m = whereTo (fun s => markOf mk j s == 1) m := by
  intro m
  induction m with
  | zero => intro _ _; rfl
  | succ m ih =>
    intro hm hv
    have h := hv m (by omega)
    have hmk := markOf_val h.1 h.2 hj
    simp only [rmarkTo, whereTo]
    rw [ih (by omega) (fun i hi => hv i (by omega)), hmk]
    have hmo : markOf mk j m = if tb (rd mk m) j = true then 1 else 0 := by
      simp only [markOf, Nat.min_eq_left (show j ≤ 64 by omega)]
      exact hmk
    by_cases hb : tb (rd mk m) j = true
    · rw [if_pos hb] at hmo ⊢
      have h2 : (markOf mk j m == 1) = true := by rw [hmo]; rfl
      rw [if_pos h2, Int.one_mul]
    · rw [if_neg hb] at hmo ⊢
      have h2 : ¬ (markOf mk j m == 1) = true := by rw [hmo]; decide
      rw [if_neg h2, Int.zero_mul]
      have h1 := (whereTo_spec (fun s => markOf mk j s == 1) m (by omega)).1
      rw [show wrap64 0 = 0 by simp [wrap64]]
      refine inS_ext (n := m) (or_in (by omega) h1 (inS_zero m)) h1 fun i _ => ?_
      rw [tb_or (n := m) (m := m) (by omega) (by omega) h1 (inS_zero m), tb_zero, Bool.or_false]

/-- the sets: each one is a set of states -/
def InE (n : Nat) (s : Sets) : Prop := ∀ c, InS n (getL c s)
def SubE (s t : Sets) : Prop := ∀ c, Sub (getL c s) (getL c t)
def key (c : Nat) : Nat := if c = 120 then 0 else if c = 121 then 1 else 2
theorem getL_setL (c x : Nat) (v : Int) (s : Sets) : getL c (setL x v s) = if key c = key x then v else getL c s := by
  unfold getL setL key
  by_cases h1 : c = 120 <;> by_cases h2 : x = 120 <;> by_cases h3 : c = 121 <;> by_cases h4 : x = 121 <;> simp_all
theorem setL_setL (x : Nat) (v u : Int) (s : Sets) : setL x v (setL x u s) = setL x v s := by
  unfold setL
  by_cases h2 : x = 120 <;> by_cases h4 : x = 121 <;> simp_all
theorem inE_set {n : Nat} {s : Sets} (h : InE n s) (x : Nat) {v : Int} (hv : InS n v) : InE n (setL x v s) := fun c => by
  rw [getL_setL]; split
  · exact hv
  · exact h c
theorem subE_set {s t : Sets} (h : SubE s t) (x : Nat) {v u : Int} (hv : Sub v u) : SubE (setL x v s) (setL x u t) := fun c => by
  rw [getL_setL, getL_setL]; split
  · exact hv
  · exact h c
theorem SubE.refl (s : Sets) : SubE s s := fun _ => Sub.refl _

def it (F : Int → Int) (i0 : Int) : Nat → Int
  | 0 => i0
  | k + 1 => F (it F i0 k)

/-- where a formula holds -/
def V (nx mk : List Int) : Fm → Sets → Int
  | .mark neg j, _ => if neg = true then bits .andNot .i64 (allOf nx) (mset mk j) else mset mk j
  | .con c, _ => if c = 116 then allOf nx else 0
  | .var c, s => getL c s
  | .two c a b, s => if c = 38 then bits .and .i64 (V nx mk a s) (V nx mk b s) else bits .or .i64 (V nx mk a s) (V nx mk b s)
  | .one c a, s => if c = 60 then stepTo nx (V nx mk a s) else boxTo nx (V nx mk a s)
  | .fix c x a, s => it (fun t => V nx mk a (setL x t s)) (if c = 103 then allOf nx else 0) nx.length

theorem it_in {n : Nat} {F : Int → Int} {i0 : Int} (h0 : InS n i0) (hF : ∀ t, InS n t → InS n (F t)) : ∀ k, InS n (it F i0 k)
  | 0 => h0
  | k + 1 => hF _ (it_in h0 hF k)
theorem it_sub {n : Nat} {F G : Int → Int} {i0 : Int} (h0 : InS n i0) (hF : ∀ t, InS n t → InS n (F t)) (hG : ∀ t, InS n t → InS n (G t)) (h : ∀ t u, InS n t → InS n u → Sub t u → Sub (F t) (G u)) : ∀ k, Sub (it F i0 k) (it G i0 k)
  | 0 => Sub.refl _
  | k + 1 => h _ _ (it_in h0 hF k) (it_in h0 hG k) (it_sub h0 hF hG h k)

theorem V_spec {nx mk : List Int} (hv : VW nx mk) : ∀ f, WF f → (∀ s, InE nx.length s → InS nx.length (V nx mk f s)) ∧ ∀ s t, InE nx.length s → InE nx.length t → SubE s t → Sub (V nx mk f s) (V nx mk f t) := by
  have hle := hv.le
  intro f
  induction f with
  | mark neg j =>
    intro hw
    refine ⟨fun s _ => ?_, fun s t _ _ _ => Sub.refl _⟩
    simp only [V]
    split
    · exact andNot_in (by omega) (by omega) (all_in (by omega)) (mset_spec hv hw).1
    · exact (mset_spec hv hw).1
  | con c =>
    intro hw
    refine ⟨fun s _ => ?_, fun s t _ _ _ => Sub.refl _⟩
    simp only [V]
    split
    · exact all_in (by omega)
    · exact inS_zero _
  | var c => intro hw; exact ⟨fun s h => h c, fun s t _ _ h => h c⟩
  | two c a b iha ihb =>
    intro hw
    have ha := iha hw.2.1
    have hb := ihb hw.2.2
    refine ⟨fun s h => ?_, fun s t hs ht h => ?_⟩
    · simp only [V]
      split
      · exact and_in (by omega) (ha.1 s h) (hb.1 s h)
      · exact or_in (by omega) (ha.1 s h) (hb.1 s h)
    · simp only [V]
      split
      · intro i hi
        rw [tb_and (by omega) (by omega) (ha.1 s hs) (hb.1 s hs), Bool.and_eq_true] at hi
        rw [tb_and (by omega) (by omega) (ha.1 t ht) (hb.1 t ht), ha.2 s t hs ht h i hi.1, hb.2 s t hs ht h i hi.2]
        rfl
      · intro i hi
        rw [tb_or (by omega) (by omega) (ha.1 s hs) (hb.1 s hs), Bool.or_eq_true] at hi
        rw [tb_or (by omega) (by omega) (ha.1 t ht) (hb.1 t ht), Bool.or_eq_true]
        rcases hi with hi | hi
        · exact .inl (ha.2 s t hs ht h i hi)
        · exact .inr (hb.2 s t hs ht h i hi)
  | one c a iha =>
    intro hw
    have ha := iha hw.2
    refine ⟨fun s h => ?_, fun s t hs ht h => ?_⟩
    · simp only [V]
      split
      · exact (tb_step (by omega) _).1
      · exact (tb_box (by omega) _).1
    · simp only [V]
      split
      · exact step_mono hv (ha.1 s hs) (ha.1 t ht) (ha.2 s t hs ht h)
      · exact box_mono hv (ha.1 s hs) (ha.1 t ht) (ha.2 s t hs ht h)
  | fix c x a iha =>
    intro hw
    have ha := iha hw.2.2
    have h0 : InS nx.length (if c = 103 then allOf nx else 0) := by
      split
      · exact all_in (by omega)
      · exact inS_zero _
    refine ⟨fun s h => ?_, fun s t hs ht h => ?_⟩
    · simp only [V]
      exact it_in h0 (fun t ht => ha.1 _ (inE_set h x ht)) _
    · simp only [V]
      exact it_sub h0 (fun u hu => ha.1 _ (inE_set hs x hu)) (fun u hu => ha.1 _ (inE_set ht x hu)) (fun u v hu hv' huv => ha.2 _ _ (inE_set hs x hu) (inE_set ht x hv') (subE_set h x huv)) _

/-- a chain that does not stand still has as many steps as its measure allows -/
theorem chain_stands {c : Nat → Int} {F : Int → Int} (hc : ∀ k, c (k + 1) = F (c k)) {φ : Nat → Nat} {n : Nat} (hφ : ∀ k, φ k ≤ n) (hup : ∀ k, φ k ≤ φ (k + 1)) (heq : ∀ k, φ (k + 1) = φ k → c (k + 1) = c k) : ∀ m, n ≤ m → c (m + 1) = c m := by
  have stay : ∀ j, c (j + 1) = c j → ∀ d, c (j + d) = c j := by
    intro j h d
    induction d with
    | zero => rfl
    | succ d ih => rw [← Nat.add_assoc, hc, ih, ← hc, h]
  have key : ∀ m, (∃ j, j < m ∧ c (j + 1) = c j) ∨ m ≤ φ m := by
    intro m
    induction m with
    | zero => exact .inr (Nat.zero_le _)
    | succ m ih =>
      rcases ih with ⟨j, hj, h⟩ | h
      · exact .inl ⟨j, by omega, h⟩
      · by_cases e : φ (m + 1) = φ m
        · exact .inl ⟨m, by omega, heq m e⟩
        · have := hup m
          exact .inr (by omega)
  intro m hm
  rcases key (m + 1) with ⟨j, hj, h⟩ | h
  · have e1 := stay j h (m + 1 - j)
    have e2 := stay j h (m - j)
    rw [show j + (m + 1 - j) = m + 1 by omega] at e1
    rw [show j + (m - j) = m by omega] at e2
    rw [e1, e2]
  · have := hφ (m + 1)
    omega

theorem it_stands {nx mk : List Int} (hv : VW nx mk) {F : Int → Int} {g : Prop} [Decidable g] (hF : ∀ t, InS nx.length t → InS nx.length (F t)) (hm : ∀ t u, InS nx.length t → InS nx.length u → Sub t u → Sub (F t) (F u)) :
    ∀ m, nx.length ≤ m → it F (if g then allOf nx else 0) (m + 1) = it F (if g then allOf nx else 0) m := by
  have hle := hv.le
  have h0 : InS nx.length (if g then allOf nx else 0) := by
    split
    · exact all_in (by omega)
    · exact inS_zero _
  have hin := it_in h0 hF
  by_cases hg : g
  · rw [if_pos hg] at hin ⊢
    have hdown : ∀ k, Sub (it F (allOf nx) (k + 1)) (it F (allOf nx) k) := by
      intro k
      induction k with
      | zero => exact sub_all (by omega) (hin 1)
      | succ k ih => exact hm _ _ (hin (k + 1)) (hin k) ih
    refine chain_stands (F := F) (φ := fun k => nx.length - card nx.length (it F (allOf nx) k)) (fun k => rfl) (fun k => Nat.sub_le _ _) (fun k => ?_) (fun k h => ?_)
    · have := card_mono (n := nx.length) (hdown k)
      show _ - _ ≤ _ - _
      omega
    · have h1 := card_mono (n := nx.length) (hdown k)
      have h2 := card_le (n := nx.length) (a := it F (allOf nx) k)
      have h3 : nx.length - card nx.length (it F (allOf nx) (k + 1)) = nx.length - card nx.length (it F (allOf nx) k) := h
      exact card_eq (hin (k + 1)) (hin k) (hdown k) (by omega)
  · rw [if_neg hg] at hin ⊢
    have hup : ∀ k, Sub (it F 0 k) (it F 0 (k + 1)) := by
      intro k
      induction k with
      | zero => exact sub_zero _
      | succ k ih => exact hm _ _ (hin k) (hin (k + 1)) ih
    refine chain_stands (F := F) (φ := fun k => card nx.length (it F 0 k)) (fun k => rfl) (fun k => card_le) (fun k => card_mono (hup k)) (fun k h => ?_)
    exact (card_eq (hin k) (hin (k + 1)) (hup k) h.symm).symm
end Go.Proofs.Ytjffhhalmicodaa.L
