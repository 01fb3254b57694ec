import Derived.Test.YtjffhhalmicodaaLr
import Derived.Test.YtjffhhalmicodaaPBx6
import Derived.Test.YtjffhhalmicodaaXd
set_option linter.unusedVariables false
set_option linter.unusedSimpArgs false
namespace Go.Proofs.Ytjffhhalmicodaa.L
open Go.RowKit Go.Proofs.YtjffhhalmicodaaW.PrintWords Go.Proofs.YtjffhhalmicodaaW.PrintLast Go.Proofs.YtjffhhalmicodaaW.PrintMore Go.Proofs.Ytjffhhalmicodaa.X
open Go.Proofs.Ytjffhhalmicodaa.PB (comfitref08_Set.f comfitref08_Reach.f comfitref08_Reach.l0 comfitref08_Reach.l1 comfitref08_Always.f comfitref08_Always.l0 comfitref08_Always.l1 comfitlaw08_FixesReaches.f comfitlaw08_FixesReaches.j0)
open Go.Proofs.Ytjffhhalmicodaa.PA (fixes_Works_isSet.f fixes_Works_all.f)

/-- one pass, state by state -/
def sweep (g : Nat → Int → Int) : Nat → Int → Int
  | 0, t => t
  | m + 1, t => g m (sweep g m t)
def gR (nx : List Int) (m : Nat) (t : Int) : Int := if bits .and .i64 (rd nx m) t = 0 then t else bits .or .i64 t ((2 ^ m : Nat) : Int)
def gA (nx : List Int) (m : Nat) (t : Int) : Int := if bits .and .i64 (rd nx m) t = 0 then bits .andNot .i64 t ((2 ^ m : Nat) : Int) else t

theorem Reach_inner {nx mk : List Int} (hn : nx.length ≤ 6) (r t : Int) : ∀ d i k : Nat, i + d = nx.length → comfitref08_Reach.l1 (k + d + 1) (sweep (gR nx) i t) (nx.length : Int) r nx (nx.length : Int) (i : Int) nx mk = comfitref08_Reach.l0 k (sweep (gR nx) nx.length t) (nx.length : Int) (wrap64 (r + 1)) nx mk := by
  intro d
  induction d with
  | zero =>
    intro i k hi
    obtain rfl : i = nx.length := by omega
    rw [comfitref08_Reach.l1, if_neg (by omega)]
  | succ d ih =>
    intro i k hi
    have hs : shl .i64 1 (i : Int) = ((2 ^ i : Nat) : Int) := shl1 (by omega)
    have hw : wrap64 ((i : Int) + 1) = ((i + 1 : Nat) : Int) := by unfold wrap64; omega
    rw [comfitref08_Reach.l1, if_pos (by omega), if_pos (by omega), if_pos (by omega), hs, hw, ← ih (i + 1) k (by omega)]
    show (if _ then _ else _) = comfitref08_Reach.l1 _ (gR nx i (sweep (gR nx) i t)) _ _ _ _ _ _ _
    rw [gR]
    by_cases hc : bits .and .i64 (rd nx i) (sweep (gR nx) i t) = 0
    · rw [if_pos hc, if_pos hc]
      rfl
    · rw [if_neg hc, if_neg hc]
      rfl
theorem Reach_outer {nx mk : List Int} (hn : nx.length ≤ 6) (s : Int) : ∀ d r : Nat, r + d = nx.length → ∃ k, comfitref08_Reach.l0 k (it (sweep (gR nx) nx.length) s r) (nx.length : Int) (r : Int) nx mk = some (it (sweep (gR nx) nx.length) s nx.length) := by
  intro d
  induction d with
  | zero =>
    intro r hr
    obtain rfl : r = nx.length := by omega
    exact ⟨1, by rw [comfitref08_Reach.l0, if_neg (by omega)]⟩
  | succ d ih =>
    intro r hr
    obtain ⟨k, hk⟩ := ih (r + 1) (by omega)
    refine ⟨k + nx.length + 1 + 1, ?_⟩
    have hw : wrap64 ((r : Int) + 1) = ((r + 1 : Nat) : Int) := by unfold wrap64; omega
    have h := Reach_inner (nx := nx) (mk := mk) hn (r : Int) (it (sweep (gR nx) nx.length) s r) nx.length 0 k (by omega)
    rw [hw] at h
    rw [comfitref08_Reach.l0, if_pos (by omega)]
    exact h.trans hk
theorem Reach_ref {nx mk : List Int} (hn : nx.length ≤ 6) (s : Int) : ∃ k, comfitref08_Reach.f k nx mk s = some (it (sweep (gR nx) nx.length) s nx.length) := by
  obtain ⟨k, hk⟩ := Reach_outer (nx := nx) (mk := mk) hn s nx.length 0 (by omega)
  exact ⟨k, hk⟩

theorem Always_inner {nx mk : List Int} (hn : nx.length ≤ 6) (r t : Int) : ∀ d i k : Nat, i + d = nx.length → comfitref08_Always.l1 (k + d + 1) (sweep (gA nx) i t) (nx.length : Int) r nx (nx.length : Int) (i : Int) nx mk = comfitref08_Always.l0 k (sweep (gA nx) nx.length t) (nx.length : Int) (wrap64 (r + 1)) nx mk := by
  intro d
  induction d with
  | zero =>
    intro i k hi
    obtain rfl : i = nx.length := by omega
    rw [comfitref08_Always.l1, if_neg (by omega)]
  | succ d ih =>
    intro i k hi
    have hs : shl .i64 1 (i : Int) = ((2 ^ i : Nat) : Int) := shl1 (by omega)
    have hw : wrap64 ((i : Int) + 1) = ((i + 1 : Nat) : Int) := by unfold wrap64; omega
    rw [comfitref08_Always.l1, if_pos (by omega), if_pos (by omega), if_pos (by omega), hs, hw, ← ih (i + 1) k (by omega)]
    show (if _ then _ else _) = comfitref08_Always.l1 _ (gA nx i (sweep (gA nx) i t)) _ _ _ _ _ _ _
    rw [gA]
    by_cases hc : bits .and .i64 (rd nx i) (sweep (gA nx) i t) = 0
    · rw [if_pos hc, if_pos hc]
      rfl
    · rw [if_neg hc, if_neg hc]
      rfl
theorem Always_outer {nx mk : List Int} (hn : nx.length ≤ 6) (s : Int) : ∀ d r : Nat, r + d = nx.length → ∃ k, comfitref08_Always.l0 k (it (sweep (gA nx) nx.length) s r) (nx.length : Int) (r : Int) nx mk = some (it (sweep (gA nx) nx.length) s nx.length) := by
  intro d
  induction d with
  | zero =>
    intro r hr
    obtain rfl : r = nx.length := by omega
    exact ⟨1, by rw [comfitref08_Always.l0, if_neg (by omega)]⟩
  | succ d ih =>
    intro r hr
    obtain ⟨k, hk⟩ := ih (r + 1) (by omega)
    refine ⟨k + nx.length + 1 + 1, ?_⟩
    have hw : wrap64 ((r : Int) + 1) = ((r + 1 : Nat) : Int) := by unfold wrap64; omega
    have h := Always_inner (nx := nx) (mk := mk) hn (r : Int) (it (sweep (gA nx) nx.length) s r) nx.length 0 k (by omega)
    rw [hw] at h
    rw [comfitref08_Always.l0, if_pos (by omega)]
    exact h.trans hk
theorem Always_ref {nx mk : List Int} (hn : nx.length ≤ 6) (s : Int) : ∃ k, comfitref08_Always.f k nx mk s = some (it (sweep (gA nx) nx.length) s nx.length) := by
  obtain ⟨k, hk⟩ := Always_outer (nx := nx) (mk := mk) hn s nx.length 0 (by omega)
  exact ⟨k, hk⟩

theorem reach_it (nx : List Int) (s : Int) : ∀ k, reachTo nx s k = it (fun t => bits .or .i64 t (stepTo nx t)) s k
  | 0 => rfl
  | k + 1 => by rw [reachTo, reach_it nx s k]; rfl
theorem always_it (nx : List Int) (s : Int) : ∀ k, alwaysTo nx s k = it (fun t => bits .and .i64 t (stepTo nx t)) s k
  | 0 => rfl
  | k + 1 => by rw [alwaysTo, always_it nx s k]; rfl

theorem one_in {nx mk : List Int} (_hv : VW nx mk) {m : Nat} (hm : m < nx.length) : InS nx.length (((2 ^ m : Nat) : Int)) := inS_of (Nat.pow_lt_pow_right (by decide) hm)

section
variable {nx mk : List Int} (hv : VW nx mk)
include hv
theorem meets_mono {m : Nat} (hm : m < nx.length) {t u : Int} (ht : InS nx.length t) (hu : InS nx.length u) (h : Sub t u) (h0 : bits .and .i64 (rd nx m) u = 0) : bits .and .i64 (rd nx m) t = 0 := by
  have hle := hv.le
  rw [and_zero (by omega) (hv.next m hm) hu] at h0
  rw [and_zero (by omega) (hv.next m hm) ht]
  intro i hi
  cases h1 : tb t i
  · rfl
  · have := h0 i hi
    rw [h i h1] at this
    exact this
theorem gR_in {m : Nat} (hm : m < nx.length) {t : Int} (ht : InS nx.length t) : InS nx.length (gR nx m t) := by
  have hle := hv.le
  unfold gR
  split
  · exact ht
  · exact or_in (by omega) ht (one_in hv hm)
theorem gA_in {m : Nat} (hm : m < nx.length) {t : Int} (ht : InS nx.length t) : InS nx.length (gA nx m t) := by
  have hle := hv.le
  unfold gA
  split
  · exact andNot_in (by omega) (by omega) ht (one_in hv hm)
  · exact ht
theorem sweepR_in {t : Int} (ht : InS nx.length t) : ∀ m, m ≤ nx.length → InS nx.length (sweep (gR nx) m t)
  | 0, _ => ht
  | m + 1, h => gR_in hv (by omega) (sweepR_in ht m (by omega))
theorem sweepA_in {t : Int} (ht : InS nx.length t) : ∀ m, m ≤ nx.length → InS nx.length (sweep (gA nx) m t)
  | 0, _ => ht
  | m + 1, h => gA_in hv (by omega) (sweepA_in ht m (by omega))
theorem gR_up {m : Nat} (hm : m < nx.length) {t : Int} (ht : InS nx.length t) : Sub t (gR nx m t) := by
  have hle := hv.le
  unfold gR
  split
  · exact Sub.refl _
  · intro i hi
    rw [tb_or (by omega) (by omega) ht (one_in hv hm), hi]
    rfl
theorem gA_down {m : Nat} (hm : m < nx.length) {t : Int} (ht : InS nx.length t) : Sub (gA nx m t) t := by
  have hle := hv.le
  unfold gA
  split
  · intro i hi
    rw [tb_andNot (by omega) (by omega) ht (one_in hv hm), Bool.and_eq_true] at hi
    exact hi.1
  · exact Sub.refl _
/-- a pass adds at least what one step adds -/
theorem sweepR_spec {t : Int} (ht : InS nx.length t) : ∀ m, m ≤ nx.length → Sub t (sweep (gR nx) m t) ∧ ∀ i, i < m → bits .and .i64 (rd nx i) t ≠ 0 → tb (sweep (gR nx) m t) i = true := by
  have hle := hv.le
  intro m
  induction m with
  | zero => exact fun _ => ⟨Sub.refl _, fun i hi => by omega⟩
  | succ m ih =>
    intro hm
    obtain ⟨h1, h2⟩ := ih (by omega)
    have hin := sweepR_in hv ht m (by omega)
    have hup := gR_up hv (show m < nx.length by omega) hin
    refine ⟨h1.trans hup, fun i hi hne => ?_⟩
    rcases Nat.lt_or_ge i m with h | h
    · exact hup i (h2 i h hne)
    · obtain rfl : i = m := by omega
      show tb (gR nx i (sweep (gR nx) i t)) i = true
      have : bits .and .i64 (rd nx i) (sweep (gR nx) i t) ≠ 0 := fun e => hne (meets_mono hv (by omega) ht hin h1 e)
      rw [gR, if_neg this, tb_or (by omega) (by omega) hin (one_in hv (by omega)), tb_nat, Nat.testBit_two_pow]
      simp
theorem sweepA_spec {t : Int} (ht : InS nx.length t) : ∀ m, m ≤ nx.length → Sub (sweep (gA nx) m t) t ∧ ∀ i, i < m → bits .and .i64 (rd nx i) t = 0 → tb (sweep (gA nx) m t) i = false := by
  have hle := hv.le
  intro m
  induction m with
  | zero => exact fun _ => ⟨Sub.refl _, fun i hi => by omega⟩
  | succ m ih =>
    intro hm
    obtain ⟨h1, h2⟩ := ih (by omega)
    have hin := sweepA_in hv ht m (by omega)
    have hup := gA_down hv (show m < nx.length by omega) hin
    refine ⟨Sub.trans hup h1, fun i hi hne => ?_⟩
    rcases Nat.lt_or_ge i m with h | h
    · have := h2 i h hne
      cases e : tb (sweep (gA nx) (m + 1) t) i
      · rfl
      · rw [hup i e] at this; exact this
    · obtain rfl : i = m := by omega
      show tb (gA nx i (sweep (gA nx) i t)) i = false
      have : bits .and .i64 (rd nx i) (sweep (gA nx) i t) = 0 := meets_mono hv (by omega) hin ht h1 hne
      rw [gA, if_pos this, tb_andNot (by omega) (by omega) hin (one_in hv (by omega)), tb_nat, Nat.testBit_two_pow]
      simp
/-- a pass stays in a set that one step does not leave -/
theorem sweepR_le {t L : Int} (ht : InS nx.length t) (hL : InS nx.length L) (hs : Sub (stepTo nx L) L) (h : Sub t L) : ∀ m, m ≤ nx.length → Sub (sweep (gR nx) m t) L := by
  have hle := hv.le
  intro m
  induction m with
  | zero => exact fun _ => h
  | succ m ih =>
    intro hm
    have h1 := ih (by omega)
    have hin := sweepR_in hv ht m (by omega)
    show Sub (gR nx m (sweep (gR nx) m t)) L
    rw [gR]
    split
    · exact h1
    · rename_i hne
      intro i hi
      rw [tb_or (by omega) (by omega) hin (one_in hv (by omega)), tb_nat, Nat.testBit_two_pow, Bool.or_eq_true, decide_eq_true_eq] at hi
      rcases hi with hi | rfl
      · exact h1 i hi
      · refine hs m ?_
        rw [(tb_step (by omega) L).2]
        have : bits .and .i64 (rd nx m) L ≠ 0 := fun e => hne (meets_mono hv (by omega) hin hL h1 e)
        simp [this]
        omega
theorem sweepA_ge {t L : Int} (ht : InS nx.length t) (hL : InS nx.length L) (hs : Sub L (stepTo nx L)) (h : Sub L t) : ∀ m, m ≤ nx.length → Sub L (sweep (gA nx) m t) := by
  have hle := hv.le
  intro m
  induction m with
  | zero => exact fun _ => h
  | succ m ih =>
    intro hm
    have h1 := ih (by omega)
    have hin := sweepA_in hv ht m (by omega)
    show Sub L (gA nx m (sweep (gA nx) m t))
    rw [gA]
    split
    · rename_i he
      intro i hi
      rw [tb_andNot (by omega) (by omega) hin (one_in hv (by omega)), h1 i hi, tb_nat, Nat.testBit_two_pow]
      by_cases e : m = i
      · subst e
        have h3 := hs m hi
        rw [(tb_step (by omega) L).2, Bool.and_eq_true, bne_iff_ne] at h3
        exact absurd (meets_mono hv (by omega) hL hin h1 he) h3.2
      · simp [e]
    · exact h1

theorem R_in {t : Int} (ht : InS nx.length t) : InS nx.length (bits .or .i64 t (stepTo nx t)) := by
  have hle := hv.le
  exact or_in (by omega) ht (tb_step (by omega) t).1
theorem A_in {t : Int} (ht : InS nx.length t) : InS nx.length (bits .and .i64 t (stepTo nx t)) := by
  have hle := hv.le
  exact and_in (by omega) ht (tb_step (by omega) t).1

theorem reach_eq {s : Int} (hs : InS nx.length s) : reachTo nx s nx.length = it (sweep (gR nx) nx.length) s nx.length := by
  have hle := hv.le
  rw [reach_it]
  have hin := it_in hs (fun t ht => R_in hv ht)
  have gin := it_in hs (fun t ht => sweepR_in hv ht nx.length (Nat.le_refl _))
  have up : ∀ t, InS nx.length t → Sub t (bits .or .i64 t (stepTo nx t)) := fun t ht i hi => by
    rw [tb_or (by omega) (by omega) ht (tb_step (by omega) t).1, hi]; rfl
  have stand := chain_stands (F := fun t => bits .or .i64 t (stepTo nx t)) (c := it (fun t => bits .or .i64 t (stepTo nx t)) s) (φ := fun k => card nx.length (it (fun t => bits .or .i64 t (stepTo nx t)) s k)) (n := nx.length) (fun k => rfl) (fun k => card_le) (fun k => card_mono (up _ (hin k))) (fun k h => (card_eq (hin k) (hin (k + 1)) (up _ (hin k)) h.symm).symm) nx.length (Nat.le_refl _)
  have hL := hin nx.length
  have hsub : Sub (stepTo nx (it (fun t => bits .or .i64 t (stepTo nx t)) s nx.length)) (it (fun t => bits .or .i64 t (stepTo nx t)) s nx.length) := by
    intro i hi
    have e : bits .or .i64 (it (fun t => bits .or .i64 t (stepTo nx t)) s nx.length) (stepTo nx (it (fun t => bits .or .i64 t (stepTo nx t)) s nx.length)) = it (fun t => bits .or .i64 t (stepTo nx t)) s nx.length := stand
    rw [← e, tb_or (by omega) (by omega) hL (tb_step (by omega) _).1, hi, Bool.or_true]
  have hs0 : ∀ k, Sub s (it (fun t => bits .or .i64 t (stepTo nx t)) s k) := by
    intro k
    induction k with
    | zero => exact Sub.refl _
    | succ k ih => exact ih.trans (up _ (hin k))
  refine sub_antisymm hL (gin nx.length) ?_ ?_
  · have : ∀ k, Sub (it (fun t => bits .or .i64 t (stepTo nx t)) s k) (it (sweep (gR nx) nx.length) s k) := by
      intro k
      induction k with
      | zero => exact Sub.refl _
      | succ k ih =>
        obtain ⟨h1, h2⟩ := sweepR_spec hv (gin k) nx.length (Nat.le_refl _)
        intro i hi
        have hi' : tb (bits .or .i64 (it (fun t => bits .or .i64 t (stepTo nx t)) s k) (stepTo nx (it (fun t => bits .or .i64 t (stepTo nx t)) s k))) i = true := hi
        rw [tb_or (by omega) (by omega) (hin k) (tb_step (by omega) _).1, Bool.or_eq_true] at hi'
        rcases hi' with hi' | hi'
        · exact h1 i (ih i hi')
        · have h3 := step_mono hv (hin k) (gin k) ih i hi'
          rw [(tb_step (by omega) _).2, Bool.and_eq_true, decide_eq_true_eq, bne_iff_ne] at h3
          exact h2 i h3.1 h3.2
    exact this _
  · have : ∀ k, Sub (it (sweep (gR nx) nx.length) s k) (it (fun t => bits .or .i64 t (stepTo nx t)) s nx.length) := by
      intro k
      induction k with
      | zero => exact hs0 _
      | succ k ih => exact sweepR_le hv (gin k) hL hsub ih nx.length (Nat.le_refl _)
    exact this _

theorem always_eq {s : Int} (hs : InS nx.length s) : alwaysTo nx s nx.length = it (sweep (gA nx) nx.length) s nx.length := by
  have hle := hv.le
  rw [always_it]
  have hin := it_in hs (fun t ht => A_in hv ht)
  have gin := it_in hs (fun t ht => sweepA_in hv ht nx.length (Nat.le_refl _))
  have down : ∀ t, InS nx.length t → Sub (bits .and .i64 t (stepTo nx t)) t := fun t ht i hi => by
    rw [tb_and (by omega) (by omega) ht (tb_step (by omega) t).1, Bool.and_eq_true] at hi; exact hi.1
  have stand := chain_stands (F := fun t => bits .and .i64 t (stepTo nx t)) (c := it (fun t => bits .and .i64 t (stepTo nx t)) s) (φ := fun k => nx.length - card nx.length (it (fun t => bits .and .i64 t (stepTo nx t)) s k)) (n := nx.length) (fun k => rfl) (fun k => Nat.sub_le _ _) (fun k => by
      have := card_mono (n := nx.length) (down _ (hin k))
      show _ - _ ≤ _ - card nx.length (bits .and .i64 (it (fun t => bits .and .i64 t (stepTo nx t)) s k) (stepTo nx (it (fun t => bits .and .i64 t (stepTo nx t)) s k)))
      omega) (fun k h => by
      have h1 := card_mono (n := nx.length) (down _ (hin k))
      have h2 := card_le (n := nx.length) (a := it (fun t => bits .and .i64 t (stepTo nx t)) s k)
      have h3 : nx.length - card nx.length (bits .and .i64 (it (fun t => bits .and .i64 t (stepTo nx t)) s k) (stepTo nx (it (fun t => bits .and .i64 t (stepTo nx t)) s k))) = nx.length - card nx.length (it (fun t => bits .and .i64 t (stepTo nx t)) s k) := h
      exact card_eq (hin (k + 1)) (hin k) (down _ (hin k)) (by show card nx.length (bits .and .i64 (it (fun t => bits .and .i64 t (stepTo nx t)) s k) (stepTo nx (it (fun t => bits .and .i64 t (stepTo nx t)) s k))) = _; omega)) nx.length (Nat.le_refl _)
  have hL := hin nx.length
  have hsub : Sub (it (fun t => bits .and .i64 t (stepTo nx t)) s nx.length) (stepTo nx (it (fun t => bits .and .i64 t (stepTo nx t)) s nx.length)) := by
    intro i hi
    have e : bits .and .i64 (it (fun t => bits .and .i64 t (stepTo nx t)) s nx.length) (stepTo nx (it (fun t => bits .and .i64 t (stepTo nx t)) s nx.length)) = it (fun t => bits .and .i64 t (stepTo nx t)) s nx.length := stand
    rw [← e, tb_and (by omega) (by omega) hL (tb_step (by omega) _).1, Bool.and_eq_true] at hi
    exact hi.2
  have hs0 : ∀ k, Sub (it (fun t => bits .and .i64 t (stepTo nx t)) s k) s := by
    intro k
    induction k with
    | zero => exact Sub.refl _
    | succ k ih => exact Sub.trans (down _ (hin k)) ih
  refine sub_antisymm hL (gin nx.length) ?_ ?_
  · have : ∀ k, Sub (it (fun t => bits .and .i64 t (stepTo nx t)) s nx.length) (it (sweep (gA nx) nx.length) s k) := by
      intro k
      induction k with
      | zero => exact hs0 _
      | succ k ih => exact sweepA_ge hv (gin k) hL hsub ih nx.length (Nat.le_refl _)
    exact this _
  · have : ∀ k, Sub (it (sweep (gA nx) nx.length) s k) (it (fun t => bits .and .i64 t (stepTo nx t)) s k) := by
      intro k
      induction k with
      | zero => exact Sub.refl _
      | succ k ih =>
        obtain ⟨h1, h2⟩ := sweepA_spec hv (gin k) nx.length (Nat.le_refl _)
        intro i hi
        have hi2 : tb (sweep (gA nx) nx.length (it (sweep (gA nx) nx.length) s k)) i = true := hi
        show tb (bits .and .i64 (it (fun t => bits .and .i64 t (stepTo nx t)) s k) (stepTo nx (it (fun t => bits .and .i64 t (stepTo nx t)) s k))) i = true
        rw [tb_and (by omega) (by omega) (hin k) (tb_step (by omega) _).1, Bool.and_eq_true]
        refine ⟨ih i (h1 i hi2), step_mono hv (gin k) (hin k) ih i ?_⟩
        have hlt : i < nx.length := by
          rcases Nat.lt_or_ge i nx.length with h | h
          · exact h
          · have := tb_ge (gin (k + 1)) h
            rw [hi] at this; cases this
        rw [(tb_step (by omega) _).2, Bool.and_eq_true, decide_eq_true_eq, bne_iff_ne]
        refine ⟨hlt, fun e => ?_⟩
        have := h2 i hlt e
        rw [hi2] at this; cases this
    exact this _
end

theorem isSet_true {nx mk : List Int} (hv : VW nx mk) {s : Int} (hs : InS nx.length s) : fixes_Works_isSet.f nx mk s = some true := by
  have hle := hv.le
  unfold fixes_Works_isSet.f fixes_Works_all.f
  rw [valid_true hv]
  simp only [Option.bind_some, if_true]
  rw [if_pos hs.1]
  have h := allOf_eq (nx := nx) (by omega)
  unfold allOf at h
  rw [h]
  congr 1
  refine decide_eq_true ?_
  have hp := Nat.two_pow_pos nx.length
  rw [Int.natCast_sub hp]
  have := hs.2
  have e : ((2 ^ nx.length : Nat) : Int) = (2 : Int) ^ nx.length := by simp
  omega
theorem isSet_false {nx mk : List Int} {s : Int} (h : ¬ (VW nx mk ∧ InS nx.length s)) : fixes_Works_isSet.f nx mk s = some false := by
  unfold fixes_Works_isSet.f fixes_Works_all.f
  by_cases hv : VW nx mk
  · have hle := hv.le
    rw [valid_true hv]
    simp only [Option.bind_some, if_true]
    by_cases h0 : s ≥ 0
    · rw [if_pos h0]
      have h2 := allOf_eq (nx := nx) (by omega)
      unfold allOf at h2
      rw [h2]
      congr 1
      refine decide_eq_false fun g => h ⟨hv, h0, ?_⟩
      have hp := Nat.two_pow_pos nx.length
      rw [Int.natCast_sub hp] at g
      have e : ((2 ^ nx.length : Nat) : Int) = (2 : Int) ^ nx.length := by simp
      omega
    · rw [if_neg h0]
  · rw [valid_false hv]
    rfl
theorem ref_Set {nx mk : List Int} (hv : VW nx mk) (s : Int) : ∃ b, comfitref08_Set.f nx mk s = some b ∧ (b = true ↔ InS nx.length s) := by
  have hle := hv.le
  unfold comfitref08_Set.f
  by_cases h0 : s ≥ 0
  · rw [if_pos h0, shl_len hle]
    refine ⟨_, rfl, ?_⟩
    rw [decide_eq_true_eq]
    exact ⟨fun h => ⟨h0, h⟩, fun h => h.2⟩
  · rw [if_neg h0]
    exact ⟨false, rfl, by simp; exact fun h => h0 h.1⟩

theorem Pure_FixesReaches (nx mk : List Int) (s : Int) : ∃ k, comfitlaw08_FixesReaches.f k nx mk s = some true := by
  obtain ⟨k0, hk0⟩ := ready nx mk ByteArray.empty
  have j0t : ∀ k, k0 ≤ k → comfitlaw08_FixesReaches.j0 (k + 1) s 0 2 0 2 true nx mk = some true := by
    intro k hk
    rw [comfitlaw08_FixesReaches.j0, if_pos rfl, if_pos rfl, if_pos rfl, if_pos rfl, if_pos rfl, (hk0 k hk).awake]
    rfl
  by_cases hg : VW nx mk ∧ InS nx.length s
  · obtain ⟨hv, hs⟩ := hg
    obtain ⟨b, hb, hbt⟩ := ref_Set hv s
    obtain rfl : b = true := hbt.2 hs
    obtain ⟨k1, h1⟩ := Reach_ref (nx := nx) (mk := mk) hv.le s
    obtain ⟨k2, h2⟩ := Always_ref (nx := nx) (mk := mk) hv.le s
    have hr : fixes_Reach.f (nx.take 9) (mk.take 9) s = some (reachTo nx s nx.length, 0) := by
      unfold fixes_Reach.f
      rw [(take_of hv).1, (take_of hv).2, isSet_true hv hs]
      rfl
    have ha : fixes_Always.f (nx.take 9) (mk.take 9) s = some (alwaysTo nx s nx.length, 0) := by
      unfold fixes_Always.f
      rw [(take_of hv).1, (take_of hv).2, isSet_true hv hs]
      rfl
    refine ⟨max k0 (max k1 k2) + 1, ?_⟩
    have hk : k0 ≤ max k0 (max k1 k2) := Nat.le_max_left _ _
    unfold comfitlaw08_FixesReaches.f
    rw [Of_eq]
    simp only [Option.bind_some, hr, ha, (hk0 _ (Nat.le_succ_of_le hk)).valid true (by simp [hv]), if_true, hb, Bool.not_true]
    rw [comfitlaw08_FixesReaches.j0, if_neg (by decide), lift (fun k => PB.comfitref08_Reach.mono _ _ _ k) h1 (by omega)]
    simp only [Option.bind_some]
    rw [if_pos (reach_eq hv hs), lift (fun k => PB.comfitref08_Always.mono _ _ _ k) h2 (by omega)]
    simp only [Option.bind_some]
    rw [if_pos (always_eq hv hs), if_pos trivial, if_pos trivial, (hk0 _ hk).awake]
    rfl
  · have hn : ¬ (VW (nx.take 9) (mk.take 9) ∧ InS (nx.take 9).length s) := by
      rintro ⟨g1, g2⟩
      have g3 := VW_take.1 g1
      rw [(take_of g3).1] at g2
      exact hg ⟨g3, g2⟩
    have hr : fixes_Reach.f (nx.take 9) (mk.take 9) s = some (0, 2) := by
      unfold fixes_Reach.f
      rw [isSet_false hn]
      rfl
    have ha : fixes_Always.f (nx.take 9) (mk.take 9) s = some (0, 2) := by
      unfold fixes_Always.f
      rw [isSet_false hn]
      rfl
    refine ⟨k0 + 1, ?_⟩
    unfold comfitlaw08_FixesReaches.f
    rw [Of_eq]
    by_cases hv : VW nx mk
    · obtain ⟨b, hb, hbt⟩ := ref_Set hv s
      have : b = false := by
        cases b
        · rfl
        · exact absurd ⟨hv, hbt.1 rfl⟩ hg
      subst this
      simp only [Option.bind_some, hr, ha, (hk0 _ (Nat.le_succ k0)).valid true (by simp [hv]), if_true, hb, Bool.not_false]
      exact j0t k0 (Nat.le_refl _)
    · simp only [Option.bind_some, hr, ha, (hk0 _ (Nat.le_succ k0)).valid false (by simp [hv])]
      exact j0t k0 (Nat.le_refl _)
end Go.Proofs.Ytjffhhalmicodaa.L
