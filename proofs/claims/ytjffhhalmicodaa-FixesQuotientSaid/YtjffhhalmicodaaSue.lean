/- Texts of this claim, merged by a program (wip/tools/shake.py); what nothing names is left out. -/
import Derived.KernelRfl
import Derived.Laws.StructEq
import Derived.Laws.Cover2
import Derived.Test.YtjffhhalmicodaaProg
import Derived.Below
import Derived.Deep.Draws
import Derived.Deep.AppendLies
import Derived.Maps.AppendAt
import Derived.OwnWalk
import Derived.Laws.BytesArg
import Derived.Laws.MakeOwn
import Derived.Laws.OwnMore
import Derived.Deep.OwnRows
import Derived.Tactics
import Derived.Lib.ConvBytes
import Derived.Laws.Slices
import Derived.WalkKit
import Derived.RowKit3
import Derived.Deep.LoopGhost
import Derived.Deep.QuietTactic
import Derived.BigQuiet
import Derived.WideLaws
import Derived.Deep.DeepCutAuto
import Derived.Deep.CutBlock
import Derived.Deep.RegionHeld3
import Derived.Laws.Rows
import Derived.Lib.AppendStr
import Derived.ArgAppend
import Derived.Laws.IdiomCopy
import Derived.OrdersHeld
import Derived.Laws.BitsLemmas
import Derived.RowKit
import Derived.RegionTactic
import Derived.ChangeAlike
import Derived.Test.YtjffhhalmicodaaSud
section
namespace Go.Proofs.Ytjffhhalmicodaa.L
open Go.RowKit Go.Proofs.YtjffhhalmicodaaW.PrintWords Go.Proofs.YtjffhhalmicodaaW.PrintLast Go.Proofs.YtjffhhalmicodaaW.PrintMore Go.Proofs.Ytjffhhalmicodaa.X
structure VW (nx mk : List Int) : Prop where
  pos : 1 ≤ nx.length
  le : nx.length ≤ 6
  len : mk.length = nx.length
  next : ∀ i : Nat, i < nx.length → InS nx.length (rd nx i)
  marks : ∀ i : Nat, i < nx.length → 0 ≤ rd mk i ∧ rd mk i ≤ 15
theorem tb_step {nx : List Int} (hn : nx.length ≤ 61) (p : Int) : InS nx.length (stepTo nx p) ∧ ∀ i, tb (stepTo nx p) i = (decide (i < nx.length) && (bits .and .i64 (rd nx i) p != 0)) := whereTo_spec _ _ hn
theorem tb_box {nx : List Int} (hn : nx.length ≤ 61) (p : Int) : InS nx.length (boxTo nx p) ∧ ∀ i, tb (boxTo nx p) i = (decide (i < nx.length) && (bits .andNot .i64 (rd nx i) p == 0)) := whereTo_spec _ _ hn
theorem step_mono {nx mk : List Int} (hv : VW nx mk) {p q : Int} (hp : InS nx.length p) (hq : InS nx.length q) (h : Sub p q) : Sub (stepTo nx p) (stepTo nx q) := by
  have hle := hv.le
  intro i hi
  rw [(tb_step (by omega) p).2] at hi
  rw [(tb_step (by omega) q).2]
  simp only [Bool.and_eq_true, decide_eq_true_eq, bne_iff_ne] at hi ⊢
  refine ⟨hi.1, fun e => hi.2 ?_⟩
  rw [and_zero (by omega) (hv.next i hi.1) hq] at e
  rw [and_zero (by omega) (hv.next i hi.1) hp]
  intro j hj
  cases h1 : tb p j
  · rfl
  · have := e j hj
    rw [h j h1] at this
    exact this
theorem box_mono {nx mk : List Int} (hv : VW nx mk) {p q : Int} (hp : InS nx.length p) (hq : InS nx.length q) (h : Sub p q) : Sub (boxTo nx p) (boxTo nx q) := by
  have hle := hv.le
  intro i hi
  rw [(tb_box (by omega) p).2] at hi
  rw [(tb_box (by omega) q).2]
  simp only [Bool.and_eq_true, decide_eq_true_eq, beq_iff_eq] at hi ⊢
  refine ⟨hi.1, ?_⟩
  rw [andNot_zero (by omega) (hv.next i hi.1) hq]
  have e := hi.2
  rw [andNot_zero (by omega) (hv.next i hi.1) hp] at e
  exact fun j hj => h j (e j hj)
def mset (mk : List Int) (j : Nat) : Int := whereTo (fun s => markOf mk j s == 1) mk.length
theorem markOf_val {m : Int} (h0 : 0 ≤ m) (h1 : m ≤ 15) {j : Nat} (_hj : j ≤ 3) : bits .and .i64 (m / 2 ^ j) 1 = if tb m j = true then 1 else 0 := by
  obtain ⟨x, rfl⟩ := Int.eq_ofNat_of_zero_le h0
  have hx : x ≤ 15 := by omega
  have e : ((x : Int) / 2 ^ j) = ((x / 2 ^ j : Nat) : Int) := by
    rw [Int.natCast_ediv]; simp
  have hb : x / 2 ^ j < 2 ^ 62 := Nat.lt_of_le_of_lt (Nat.div_le_self _ _) (by omega)
  rw [e, show (1 : Int) = ((1 : Nat) : Int) from rfl, and_nat hb (by decide), tb_nat, Nat.testBit, Nat.shiftRight_eq_div_pow, Nat.and_comm]
  have : 1 &&& x / 2 ^ j = 0 ∨ 1 &&& x / 2 ^ j = 1 := by
    rw [Nat.and_comm, Nat.and_one_is_mod]
    omega
  rcases this with h | h <;> rw [h] <;> rfl
theorem mset_spec {nx mk : List Int} (hv : VW nx mk) {j : Nat} (hj : j ≤ 3) : InS nx.length (mset mk j) ∧ ∀ i, tb (mset mk j) i = (decide (i < nx.length) && tb (rd mk i) j) := by
  have hle := hv.le
  have h := whereTo_spec (fun s => markOf mk j s == 1) mk.length (by rw [hv.len]; omega)
  rw [hv.len] at h
  unfold mset
  rw [hv.len]
  refine ⟨h.1, fun i => ?_⟩
  rw [h.2]
  by_cases hi : i < nx.length
  · have hm := hv.marks i hi
    have := markOf_val hm.1 hm.2 hj
    simp only [markOf, Nat.min_eq_left (show j ≤ 64 by omega)]
    rw [this]
    cases tb (rd mk i) j <;> simp
  · simp [hi]
theorem rmarkTo_eq {mk : List Int} {j : Nat} (hj : j ≤ 3) : ∀ m, m ≤ 6 → (∀ i : Nat, i < m → 0 ≤ rd mk i ∧ rd mk i ≤ 15) → rmarkTo mk j m = whereTo (fun s => markOf mk j s == 1) m := by
  intro m
  induction m with
  | zero => intro _ _; rfl
  | succ m ih =>
    intro hm hv
    have h := hv m (by omega)
    have hmk := markOf_val h.1 h.2 hj
    simp only [rmarkTo, whereTo]
    rw [ih (by omega) (fun i hi => hv i (by omega)), hmk]
    have hmo : markOf mk j m = if tb (rd mk m) j = true then 1 else 0 := by
      simp only [markOf, Nat.min_eq_left (show j ≤ 64 by omega)]
      exact hmk
    by_cases hb : tb (rd mk m) j = true
    · rw [if_pos hb] at hmo ⊢
      have h2 : (markOf mk j m == 1) = true := by rw [hmo]; rfl
      rw [if_pos h2, Int.one_mul]
    · rw [if_neg hb] at hmo ⊢
      have h2 : ¬ (markOf mk j m == 1) = true := by rw [hmo]; decide
      rw [if_neg h2, Int.zero_mul]
      have h1 := (whereTo_spec (fun s => markOf mk j s == 1) m (by omega)).1
      rw [show wrap64 0 = 0 by simp [wrap64]]
      refine inS_ext (n := m) (or_in (by omega) h1 (inS_zero m)) h1 fun i _ => ?_
      rw [tb_or (n := m) (m := m) (by omega) (by omega) h1 (inS_zero m), tb_zero, Bool.or_false]
def InE (n : Nat) (s : Sets) : Prop := ∀ c, InS n (getL c s)
def SubE (s t : Sets) : Prop := ∀ c, Sub (getL c s) (getL c t)
def key (c : Nat) : Nat := if c = 120 then 0 else if c = 121 then 1 else 2
theorem getL_setL (c x : Nat) (v : Int) (s : Sets) : getL c (setL x v s) = if key c = key x then v else getL c s := by
  unfold getL setL key
  by_cases h1 : c = 120 <;> by_cases h2 : x = 120 <;> by_cases h3 : c = 121 <;> by_cases h4 : x = 121 <;> simp_all
theorem setL_setL (x : Nat) (v u : Int) (s : Sets) : setL x v (setL x u s) = setL x v s := by
  unfold setL
  by_cases h2 : x = 120 <;> by_cases h4 : x = 121 <;> simp_all
theorem inE_set {n : Nat} {s : Sets} (h : InE n s) (x : Nat) {v : Int} (hv : InS n v) : InE n (setL x v s) := fun c => by
  rw [getL_setL]; split
  · exact hv
  · exact h c
theorem subE_set {s t : Sets} (h : SubE s t) (x : Nat) {v u : Int} (hv : Sub v u) : SubE (setL x v s) (setL x u t) := fun c => by
  rw [getL_setL, getL_setL]; split
  · exact hv
  · exact h c
theorem SubE.refl (s : Sets) : SubE s s := fun _ => Sub.refl _
def it (F : Int → Int) (i0 : Int) : Nat → Int
  | 0 => i0
  | k + 1 => F (it F i0 k)
def V (nx mk : List Int) : Fm → Sets → Int
  | .mark neg j, _ => if neg = true then bits .andNot .i64 (allOf nx) (mset mk j) else mset mk j
  | .con c, _ => if c = 116 then allOf nx else 0
  | .var c, s => getL c s
  | .two c a b, s => if c = 38 then bits .and .i64 (V nx mk a s) (V nx mk b s) else bits .or .i64 (V nx mk a s) (V nx mk b s)
  | .one c a, s => if c = 60 then stepTo nx (V nx mk a s) else boxTo nx (V nx mk a s)
  | .fix c x a, s => it (fun t => V nx mk a (setL x t s)) (if c = 103 then allOf nx else 0) nx.length
theorem it_in {n : Nat} {F : Int → Int} {i0 : Int} (h0 : InS n i0) (hF : ∀ t, InS n t → InS n (F t)) : ∀ k, InS n (it F i0 k)
  | 0 => h0
  | k + 1 => hF _ (it_in h0 hF k)
theorem it_sub {n : Nat} {F G : Int → Int} {i0 : Int} (h0 : InS n i0) (hF : ∀ t, InS n t → InS n (F t)) (hG : ∀ t, InS n t → InS n (G t)) (h : ∀ t u, InS n t → InS n u → Sub t u → Sub (F t) (G u)) : ∀ k, Sub (it F i0 k) (it G i0 k)
  | 0 => Sub.refl _
  | k + 1 => h _ _ (it_in h0 hF k) (it_in h0 hG k) (it_sub h0 hF hG h k)
theorem V_spec {nx mk : List Int} (hv : VW nx mk) : ∀ f, WF f → (∀ s, InE nx.length s → InS nx.length (V nx mk f s)) ∧ ∀ s t, InE nx.length s → InE nx.length t → SubE s t → Sub (V nx mk f s) (V nx mk f t) := by
  have hle := hv.le
  intro f
  induction f with
  | mark neg j =>
    intro hw
    refine ⟨fun s _ => ?_, fun s t _ _ _ => Sub.refl _⟩
    simp only [V]
    split
    · exact andNot_in (by omega) (by omega) (all_in (by omega)) (mset_spec hv hw).1
    · exact (mset_spec hv hw).1
  | con c =>
    intro hw
    refine ⟨fun s _ => ?_, fun s t _ _ _ => Sub.refl _⟩
    simp only [V]
    split
    · exact all_in (by omega)
    · exact inS_zero _
  | var c => intro hw; exact ⟨fun s h => h c, fun s t _ _ h => h c⟩
  | two c a b iha ihb =>
    intro hw
    have ha := iha hw.2.1
    have hb := ihb hw.2.2
    refine ⟨fun s h => ?_, fun s t hs ht h => ?_⟩
    · simp only [V]
      split
      · exact and_in (by omega) (ha.1 s h) (hb.1 s h)
      · exact or_in (by omega) (ha.1 s h) (hb.1 s h)
    · simp only [V]
      split
      · intro i hi
        rw [tb_and (by omega) (by omega) (ha.1 s hs) (hb.1 s hs), Bool.and_eq_true] at hi
        rw [tb_and (by omega) (by omega) (ha.1 t ht) (hb.1 t ht), ha.2 s t hs ht h i hi.1, hb.2 s t hs ht h i hi.2]
        rfl
      · intro i hi
        rw [tb_or (by omega) (by omega) (ha.1 s hs) (hb.1 s hs), Bool.or_eq_true] at hi
        rw [tb_or (by omega) (by omega) (ha.1 t ht) (hb.1 t ht), Bool.or_eq_true]
        rcases hi with hi | hi
        · exact .inl (ha.2 s t hs ht h i hi)
        · exact .inr (hb.2 s t hs ht h i hi)
  | one c a iha =>
    intro hw
    have ha := iha hw.2
    refine ⟨fun s h => ?_, fun s t hs ht h => ?_⟩
    · simp only [V]
      split
      · exact (tb_step (by omega) _).1
      · exact (tb_box (by omega) _).1
    · simp only [V]
      split
      · exact step_mono hv (ha.1 s hs) (ha.1 t ht) (ha.2 s t hs ht h)
      · exact box_mono hv (ha.1 s hs) (ha.1 t ht) (ha.2 s t hs ht h)
  | fix c x a iha =>
    intro hw
    have ha := iha hw.2.2
    have h0 : InS nx.length (if c = 103 then allOf nx else 0) := by
      split
      · exact all_in (by omega)
      · exact inS_zero _
    refine ⟨fun s h => ?_, fun s t hs ht h => ?_⟩
    · simp only [V]
      exact it_in h0 (fun t ht => ha.1 _ (inE_set h x ht)) _
    · simp only [V]
      exact it_sub h0 (fun u hu => ha.1 _ (inE_set hs x hu)) (fun u hu => ha.1 _ (inE_set ht x hu)) (fun u v hu hv' huv => ha.2 _ _ (inE_set hs x hu) (inE_set ht x hv') (subE_set h x huv)) _
theorem chain_stands {c : Nat → Int} {F : Int → Int} (hc : ∀ k, c (k + 1) = F (c k)) {φ : Nat → Nat} {n : Nat} (hφ : ∀ k, φ k ≤ n) (hup : ∀ k, φ k ≤ φ (k + 1)) (heq : ∀ k, φ (k + 1) = φ k → c (k + 1) = c k) : ∀ m, n ≤ m → c (m + 1) = c m := by
  have stay : ∀ j, c (j + 1) = c j → ∀ d, c (j + d) = c j := by
    intro j h d
    induction d with
    | zero => rfl
    | succ d ih => rw [← Nat.add_assoc, hc, ih, ← hc, h]
  have key : ∀ m, (∃ j, j < m ∧ c (j + 1) = c j) ∨ m ≤ φ m := by
    intro m
    induction m with
    | zero => exact .inr (Nat.zero_le _)
    | succ m ih =>
      rcases ih with ⟨j, hj, h⟩ | h
      · exact .inl ⟨j, by omega, h⟩
      · by_cases e : φ (m + 1) = φ m
        · exact .inl ⟨m, by omega, heq m e⟩
        · have := hup m
          exact .inr (by omega)
  intro m hm
  rcases key (m + 1) with ⟨j, hj, h⟩ | h
  · have e1 := stay j h (m + 1 - j)
    have e2 := stay j h (m - j)
    rw [show j + (m + 1 - j) = m + 1 by omega] at e1
    rw [show j + (m - j) = m by omega] at e2
    rw [e1, e2]
  · have := hφ (m + 1)
    omega
theorem it_stands {nx mk : List Int} (hv : VW nx mk) {F : Int → Int} {g : Prop} [Decidable g] (hF : ∀ t, InS nx.length t → InS nx.length (F t)) (hm : ∀ t u, InS nx.length t → InS nx.length u → Sub t u → Sub (F t) (F u)) :
    ∀ m, nx.length ≤ m → it F (if g then allOf nx else 0) (m + 1) = it F (if g then allOf nx else 0) m := by
  have hle := hv.le
  have h0 : InS nx.length (if g then allOf nx else 0) := by
    split
    · exact all_in (by omega)
    · exact inS_zero _
  have hin := it_in h0 hF
  by_cases hg : g
  · rw [if_pos hg] at hin ⊢
    have hdown : ∀ k, Sub (it F (allOf nx) (k + 1)) (it F (allOf nx) k) := by
      intro k
      induction k with
      | zero => exact sub_all (by omega) (hin 1)
      | succ k ih => exact hm _ _ (hin (k + 1)) (hin k) ih
    refine chain_stands (F := F) (φ := fun k => nx.length - card nx.length (it F (allOf nx) k)) (fun k => rfl) (fun k => Nat.sub_le _ _) (fun k => ?_) (fun k h => ?_)
    · have := card_mono (n := nx.length) (hdown k)
      show _ - _ ≤ _ - _
      omega
    · have h1 := card_mono (n := nx.length) (hdown k)
      have h2 := card_le (n := nx.length) (a := it F (allOf nx) k)
      have h3 : nx.length - card nx.length (it F (allOf nx) (k + 1)) = nx.length - card nx.length (it F (allOf nx) k) := h
      exact card_eq (hin (k + 1)) (hin k) (hdown k) (by omega)
  · rw [if_neg hg] at hin ⊢
    have hup : ∀ k, Sub (it F 0 k) (it F 0 (k + 1)) := by
      intro k
      induction k with
      | zero => exact sub_zero _
      | succ k ih => exact hm _ _ (hin k) (hin (k + 1)) ih
    refine chain_stands (F := F) (φ := fun k => card nx.length (it F 0 k)) (fun k => rfl) (fun k => card_le) (fun k => card_mono (hup k)) (fun k h => ?_)
    exact (card_eq (hin k) (hin (k + 1)) (hup k) h.symm).symm
end Go.Proofs.Ytjffhhalmicodaa.L
end

section
set_option linter.unusedVariables false
namespace Go.Proofs.Ytjffhhalmicodaa.L
open Go.RowKit Go.Proofs.YtjffhhalmicodaaW.PrintWords Go.Proofs.YtjffhhalmicodaaW.PrintLast Go.Proofs.YtjffhhalmicodaaW.PrintMore Go.Proofs.Ytjffhhalmicodaa.X
theorem lift {α : Type} {f : Nat → Option α} (h : ∀ k, LeO (f k) (f (k + 1))) {k : Nat} {r : α} (hr : f k = some r) : ∀ {m}, k ≤ m → f m = some r := by
  intro m hm
  obtain ⟨d, rfl⟩ := Nat.exists_eq_add_of_le hm
  induction d with
  | zero => exact hr
  | succ d ih => exact h _ _ (ih (by omega))
theorem first_of {P : Nat → Prop} : ∀ n, P n → ∃ J, J ≤ n ∧ P J ∧ ∀ j, j < J → ¬ P j := by
  intro n
  induction n using Nat.strongRecOn with
  | ind n ih =>
    intro h
    by_cases e : ∃ j, j < n ∧ P j
    · obtain ⟨j, hj, hp⟩ := e
      obtain ⟨J, h1, h2⟩ := ih j hj hp
      exact ⟨J, by omega, h2⟩
    · exact ⟨n, Nat.le_refl _, h, fun j hj hp => e ⟨j, hj, hp⟩⟩
theorem it_stay {F : Int → Int} {i0 : Int} {J : Nat} (h : it F i0 (J + 1) = it F i0 J) : ∀ d, it F i0 (J + d) = it F i0 J := by
  intro d
  induction d with
  | zero => rfl
  | succ d ih =>
    show F (it F i0 (J + d)) = _
    rw [ih]
    exact h
theorem wrap_small {c : Int} (h0 : 0 ≤ c) (h1 : c < 1000000) : wrap64 (c + 1) = c + 1 := by unfold wrap64; omega
theorem rloop_at {nx mk : List Int} {x : Nat} {a : Fm} {s : Sets} {F : Int → Int} {i0 : Int} (hF : ∀ j, ∃ k, rholdF nx mk k a (setL x (it F i0 j) s) = some (it F i0 (j + 1))) {J : Nat} (hJ : it F i0 (J + 1) = it F i0 J) (hne : ∀ j, j < J → it F i0 (j + 1) ≠ it F i0 j) :
    ∀ d j s' (cnt : Int), j + d = J → (∀ v, setL x v s' = setL x v s) → 0 ≤ cnt → cnt + d < 1000000 → ∃ k, rloopF nx mk k x a (it F i0 j) cnt s' = some (it F i0 J, cnt + d) := by
  intro d
  induction d with
  | zero =>
    intro j s' cnt hj hs h0 h1
    obtain rfl : j = J := by omega
    obtain ⟨k, hk⟩ := hF j
    refine ⟨k + 1, ?_⟩
    rw [rloopF, hs, hk]
    simp only [Option.bind_some]
    rw [if_pos hJ]
    simp
  | succ d ih =>
    intro j s' cnt hj hs h0 h1
    obtain ⟨k, hk⟩ := hF j
    obtain ⟨k2, hk2⟩ := ih (j + 1) (setL x (it F i0 j) s') (cnt + 1) (by omega) (fun v => by rw [setL_setL, hs]) (by omega) (by omega)
    refine ⟨max k k2 + 1, ?_⟩
    rw [rloopF, hs, lift (fun k => (rholdF_mono nx mk k).1 _ _) hk (Nat.le_max_left k k2)]
    simp only [Option.bind_some]
    rw [if_neg (hne j (by omega)), wrap_small h0 (by omega), ← hs, lift (fun k => (rholdF_mono nx mk k).2 _ _ _ _ _) hk2 (Nat.le_max_right k k2)]
    congr 2
    omega
def i0Of (nx : List Int) (c : Nat) : Int := if c = 103 then allOf nx else 0
def FOf (nx mk : List Int) (x : Nat) (a : Fm) (s : Sets) : Int → Int := fun t => V nx mk a (setL x t s)
theorem i0_in {nx mk : List Int} (hv : VW nx mk) (c : Nat) : InS nx.length (i0Of nx c) := by
  have := hv.le
  unfold i0Of
  split
  · exact all_in (by omega)
  · exact inS_zero _
theorem F_in {nx mk : List Int} (hv : VW nx mk) {x : Nat} {a : Fm} (ha : WF a) {s : Sets} (hs : InE nx.length s) : ∀ t, InS nx.length t → InS nx.length (FOf nx mk x a s t) := fun t ht => (V_spec hv a ha).1 _ (inE_set hs x ht)
theorem F_mono {nx mk : List Int} (hv : VW nx mk) {x : Nat} {a : Fm} (ha : WF a) {s : Sets} (hs : InE nx.length s) : ∀ t u, InS nx.length t → InS nx.length u → Sub t u → Sub (FOf nx mk x a s t) (FOf nx mk x a s u) := fun t u ht hu h => (V_spec hv a ha).2 _ _ (inE_set hs x ht) (inE_set hs x hu) (subE_set (SubE.refl s) x h)
theorem steps_of {nx mk : List Int} (hv : VW nx mk) (c x : Nat) {a : Fm} (ha : WF a) {s : Sets} (hs : InE nx.length s) : ∃ J, J ≤ nx.length ∧ it (FOf nx mk x a s) (i0Of nx c) (J + 1) = it (FOf nx mk x a s) (i0Of nx c) J ∧ (∀ j, j < J → it (FOf nx mk x a s) (i0Of nx c) (j + 1) ≠ it (FOf nx mk x a s) (i0Of nx c) j) ∧ it (FOf nx mk x a s) (i0Of nx c) J = V nx mk (.fix c x a) s := by
  have h := it_stands hv (g := c = 103) (F_in hv (x := x) ha hs) (F_mono hv ha hs) nx.length (Nat.le_refl _)
  obtain ⟨J, h1, h2, h3⟩ := first_of (P := fun j => it (FOf nx mk x a s) (i0Of nx c) (j + 1) = it (FOf nx mk x a s) (i0Of nx c) j) nx.length h
  refine ⟨J, h1, h2, h3, ?_⟩
  have := it_stay h2 (nx.length - J)
  rw [show J + (nx.length - J) = nx.length by omega] at this
  rw [← this]
  rfl
theorem rhold_total {nx mk : List Int} (hv : VW nx mk) : ∀ f, WF f → ∀ s, InE nx.length s → ∃ k, rholdF nx mk k f s = some (V nx mk f s) := by
  have hle := hv.le
  intro f
  induction f with
  | mark neg j =>
    intro hw s hs
    refine ⟨1, ?_⟩
    rw [rholdF, V, rmarkTo_eq hw mk.length (by rw [hv.len]; omega) (fun i hi => hv.marks i (by rw [hv.len] at hi; exact hi))]
    rfl
  | con c => intro hw s hs; exact ⟨1, by rw [rholdF, V]⟩
  | var c => intro hw s hs; exact ⟨1, by rw [rholdF, V]⟩
  | two c a b iha ihb =>
    intro hw s hs
    obtain ⟨k1, h1⟩ := iha hw.2.1 s hs
    obtain ⟨k2, h2⟩ := ihb hw.2.2 s hs
    refine ⟨max k1 k2 + 1, ?_⟩
    rw [rholdF, lift (fun k => (rholdF_mono nx mk k).1 _ _) h1 (Nat.le_max_left k1 k2), lift (fun k => (rholdF_mono nx mk k).1 _ _) h2 (Nat.le_max_right k1 k2), V]
    rfl
  | one c a iha =>
    intro hw s hs
    obtain ⟨k1, h1⟩ := iha hw.2 s hs
    refine ⟨k1 + 1, ?_⟩
    rw [rholdF, h1, V]
    rfl
  | fix c x a iha =>
    intro hw s hs
    obtain ⟨J, hJ, h1, h2, h3⟩ := steps_of hv c x hw.2.2 hs
    obtain ⟨k, hk⟩ := rloop_at (nx := nx) (mk := mk) (x := x) (a := a) (s := s) (fun j => iha hw.2.2 _ (inE_set hs x (it_in (i0_in hv c) (F_in hv hw.2.2 hs) j))) h1 h2 J 0 s 1 (by omega) (fun _ => rfl) (by omega) (by omega)
    refine ⟨k + 1, ?_⟩
    rw [rholdF]
    have e : it (FOf nx mk x a s) (i0Of nx c) 0 = if c = 103 then allOf nx else 0 := rfl
    rw [e] at hk
    rw [hk, ← h3]
    rfl
def Sc : List Nat → Fm → Prop
  | _, .mark _ _ => True
  | _, .con _ => True
  | b, .var c => c ∈ b
  | b, .two _ a c => Sc b a ∧ Sc b c
  | b, .one _ a => Sc b a
  | b, .fix _ x a => x ∉ b ∧ Sc (b ++ [x]) a
theorem parse_sc : ∀ n l b f r, parse n l b = some (f, r) → Sc b f := by
  intro n
  induction n with
  | zero => intro l b f r h; simp [parse] at h
  | succ n ih =>
    intro l b f r h
    cases l with
    | nil => simp [parse] at h
    | cons c l =>
      simp only [parse] at h
      by_cases h1 : isMk c = true
      · rw [if_pos h1] at h
        simp only [Option.some.injEq, Prod.mk.injEq] at h
        obtain ⟨rfl, rfl⟩ := h
        trivial
      · rw [if_neg h1] at h
        by_cases h2 : c = 45
        · rw [if_pos h2] at h
          cases l with
          | nil => cases h
          | cons d t =>
            simp only at h
            by_cases h3 : isMk d = true
            · rw [if_pos h3] at h
              simp only [Option.some.injEq, Prod.mk.injEq] at h
              obtain ⟨rfl, rfl⟩ := h
              trivial
            · rw [if_neg h3] at h
              cases h
        · rw [if_neg h2] at h
          by_cases h3 : c = 116 ∨ c = 102
          · rw [if_pos h3] at h
            simp only [Option.some.injEq, Prod.mk.injEq] at h
            obtain ⟨rfl, rfl⟩ := h
            trivial
          · rw [if_neg h3] at h
            by_cases h4 : isLt c = true
            · rw [if_pos h4] at h
              by_cases h5 : c ∈ b
              · rw [if_pos h5] at h
                simp only [Option.some.injEq, Prod.mk.injEq] at h
                obtain ⟨rfl, rfl⟩ := h
                exact h5
              · rw [if_neg h5] at h
                cases h
            · rw [if_neg h4] at h
              by_cases h6 : c = 109 ∨ c = 103
              · rw [if_pos h6] at h
                cases l with
                | nil => cases h
                | cons d t =>
                  simp only at h
                  by_cases h7 : isLt d = true ∧ d ∉ b
                  · rw [if_pos h7] at h
                    obtain ⟨p, hp, h⟩ := Option.bind_eq_some_iff.mp h
                    simp only [Option.some.injEq, Prod.mk.injEq] at h
                    obtain ⟨rfl, rfl⟩ := h
                    exact ⟨h7.2, ih _ _ _ _ hp⟩
                  · rw [if_neg h7] at h
                    cases h
              · rw [if_neg h6] at h
                by_cases h7 : c = 38 ∨ c = 124
                · rw [if_pos h7] at h
                  obtain ⟨p, hp, h⟩ := Option.bind_eq_some_iff.mp h
                  obtain ⟨q, hq, h⟩ := Option.bind_eq_some_iff.mp h
                  simp only [Option.some.injEq, Prod.mk.injEq] at h
                  obtain ⟨rfl, rfl⟩ := h
                  exact ⟨ih _ _ _ _ hp, ih _ _ _ _ hq⟩
                · rw [if_neg h7] at h
                  by_cases h8 : c = 60 ∨ c = 91
                  · rw [if_pos h8] at h
                    obtain ⟨p, hp, h⟩ := Option.bind_eq_some_iff.mp h
                    simp only [Option.some.injEq, Prod.mk.injEq] at h
                    obtain ⟨rfl, rfl⟩ := h
                    exact (show Sc b p.1 from ih l b p.1 p.2 hp)
                  · rw [if_neg h8] at h
                    cases h
def Rel (b : List Nat) (m : List (Int × Int)) (s : Sets) : Prop := ∀ c, c ∈ b → (findL m (c : Int)).getD 0 = getL c s
def Lets (b : List Nat) : Prop := ∀ c, c ∈ b → 120 ≤ c ∧ c ≤ 122
theorem key_ne {c x : Nat} (hc : 120 ≤ c ∧ c ≤ 122) (hx : 120 ≤ x ∧ x ≤ 122) (h : c ≠ x) : key c ≠ key x := by
  unfold key
  split <;> split <;> (try split) <;> (try split) <;> omega
theorem rel_put {b : List Nat} {m : List (Int × Int)} {s : Sets} {x : Nat} (hb : Lets b) (hx : 120 ≤ x ∧ x ≤ 122) (hn : x ∉ b) (h : Rel b m s) (v : Int) : Rel (b ++ [x]) (putL m (x : Int) v) (setL x v s) := by
  intro c hc
  rw [findL_putL, getL_setL]
  by_cases e : x = c
  · subst e
    rw [if_pos rfl, if_pos rfl]
    rfl
  · have hcb : c ∈ b := by
      rcases List.mem_append.1 hc with h | h
      · exact h
      · exact absurd (List.mem_singleton.1 h).symm e
    rw [if_neg (by omega), if_neg (key_ne (hb c hcb) hx (fun h => e h.symm))]
    exact h c hcb
theorem loop_at {nx mk : List Int} {b : List Nat} {x : Nat} {a : Fm} {s : Sets} (hb : Lets b) (hx : 120 ≤ x ∧ x ≤ 122) (hn : x ∉ b) {F : Int → Int} {i0 : Int}
    (hF : ∀ j m, Rel (b ++ [x]) m (setL x (it F i0 j) s) → ∃ k m', holdF nx mk k a m = some (it F i0 (j + 1), m') ∧ ∀ c ∈ b ++ [x], findL m' (c : Int) = findL m (c : Int)) {J : Nat} (hJ : it F i0 (J + 1) = it F i0 J) (hne : ∀ j, j < J → it F i0 (j + 1) ≠ it F i0 j) :
    ∀ d j m (cnt : Int), j + d = J → Rel b m s → 0 ≤ cnt → cnt + d < 1000000 → ∃ k m', loopF nx mk k x a (it F i0 j) cnt m = some (it F i0 J, cnt + d + 1, m') ∧ ∀ c ∈ b, findL m' (c : Int) = findL m (c : Int) := by
  have keep : ∀ (m m' : List (Int × Int)) v, (∀ c ∈ b ++ [x], findL m' (c : Int) = findL (putL m (x : Int) v) (c : Int)) → ∀ c ∈ b, findL m' (c : Int) = findL m (c : Int) := by
    intro m m' v h c hc
    rw [h c (List.mem_append.2 (.inl hc)), findL_putL, if_neg]
    intro e
    have : x = c := by omega
    exact hn (this ▸ hc)
  intro d
  induction d with
  | zero =>
    intro j m cnt hj hr h0 h1
    obtain rfl : j = J := by omega
    obtain ⟨k, m', hk, hm⟩ := hF j _ (rel_put hb hx hn hr (it F i0 j))
    refine ⟨k + 1, m', ?_, keep _ _ _ hm⟩
    rw [loopF, hk]
    simp only [Option.bind_some]
    rw [if_pos hJ, wrap_small h0 (by omega)]
    simp
  | succ d ih =>
    intro j m cnt hj hr h0 h1
    obtain ⟨k, m', hk, hm⟩ := hF j _ (rel_put hb hx hn hr (it F i0 j))
    have hm2 := keep _ _ _ hm
    obtain ⟨k2, m2, hk2, hm3⟩ := ih (j + 1) m' (cnt + 1) (by omega) (fun c hc => by rw [hm2 c hc]; exact hr c hc) (by omega) (by omega)
    refine ⟨max k k2 + 1, m2, ?_, fun c hc => by rw [hm3 c hc, hm2 c hc]⟩
    rw [loopF, lift (fun k => (holdF_mono nx mk k).1 _ _) hk (Nat.le_max_left k k2)]
    simp only [Option.bind_some]
    rw [if_neg (hne j (by omega)), wrap_small h0 (by omega), lift (fun k => (holdF_mono nx mk k).2 _ _ _ _ _) hk2 (Nat.le_max_right k k2)]
    congr 3
    omega
theorem neg_mark {nx mk : List Int} (hv : VW nx mk) {j : Nat} (hj : j ≤ 3) : whereTo (fun s => markOf mk j s == 0) nx.length = bits .andNot .i64 (allOf nx) (mset mk j) := by
  have hle := hv.le
  have h := whereTo_spec (fun s => markOf mk j s == 0) nx.length (by omega)
  have hm := mset_spec hv hj
  refine inS_ext h.1 (andNot_in (by omega) (by omega) (all_in (by omega)) hm.1) fun i hi => ?_
  rw [h.2, tb_andNot (by omega) (by omega) (all_in (by omega)) hm.1, hm.2, tb_all (by omega)]
  have hmi := hv.marks i hi
  have := markOf_val hmi.1 hmi.2 hj
  simp only [markOf, Nat.min_eq_left (show j ≤ 64 by omega)]
  rw [this]
  cases tb (rd mk i) j <;> simp [hi]
theorem hold_total {nx mk : List Int} (hv : VW nx mk) : ∀ f, WF f → ∀ b m s, Lets b → Sc b f → Rel b m s → InE nx.length s → ∃ k m', holdF nx mk k f m = some (V nx mk f s, m') ∧ ∀ c ∈ b, findL m' (c : Int) = findL m (c : Int) := by
  have hle := hv.le
  intro f
  induction f with
  | mark neg j =>
    intro hw b m s hb hsc hr hs
    refine ⟨1, m, ?_, fun _ _ => rfl⟩
    rw [holdF, V]
    cases neg with
    | true =>
      simp only [if_true]
      rw [neg_mark hv hw]
    | false =>
      simp only [Bool.false_eq_true, if_false]
      rw [mset, hv.len]
  | con c =>
    intro hw b m s hb hsc hr hs
    refine ⟨1, m, ?_, fun _ _ => rfl⟩
    rw [holdF, V]
    rcases hw with rfl | rfl
    · rfl
    · rfl
  | var c =>
    intro hw b m s hb hsc hr hs
    refine ⟨1, m, ?_, fun _ _ => rfl⟩
    rw [holdF, V, hr c hsc]
  | two c a b' iha ihb =>
    intro hw b m s hb hsc hr hs
    obtain ⟨k1, m1, h1, g1⟩ := iha hw.2.1 b m s hb hsc.1 hr hs
    obtain ⟨k2, m2, h2, g2⟩ := ihb hw.2.2 b m1 s hb hsc.2 (fun c hc => by rw [g1 c hc]; exact hr c hc) hs
    refine ⟨max k1 k2 + 1, m2, ?_, fun c hc => by rw [g2 c hc, g1 c hc]⟩
    rw [holdF, if_pos hw.1, lift (fun k => (holdF_mono nx mk k).1 _ _) h1 (Nat.le_max_left k1 k2)]
    simp only [Option.bind_some]
    rw [lift (fun k => (holdF_mono nx mk k).1 _ _) h2 (Nat.le_max_right k1 k2), V]
    rfl
  | one c a iha =>
    intro hw b m s hb hsc hr hs
    obtain ⟨k1, m1, h1, g1⟩ := iha hw.2 b m s hb hsc hr hs
    refine ⟨k1 + 1, m1, ?_, g1⟩
    rw [holdF, if_pos hw.1, h1, V]
    rfl
  | fix c x a iha =>
    intro hw b m s hb hsc hr hs
    obtain ⟨J, hJ, h1, h2, h3⟩ := steps_of hv c x hw.2.2 hs
    have hb2 : Lets (b ++ [x]) := fun c hc => by
      rcases List.mem_append.1 hc with h | h
      · exact hb c h
      · rw [List.mem_singleton.1 h]; exact hw.2.1
    obtain ⟨k, m', hk, hm⟩ := loop_at (nx := nx) (mk := mk) (a := a) (s := s) hb hw.2.1 hsc.1 (fun j m hr => iha hw.2.2 (b ++ [x]) m _ hb2 hsc.2 hr (inE_set hs x (it_in (i0_in hv c) (F_in hv hw.2.2 hs) j))) h1 h2 J 0 m 0 (by omega) hr (by omega) (by omega)
    refine ⟨k + 1, m', ?_, hm⟩
    rw [holdF, if_pos hw.1]
    have e : it (FOf nx mk x a s) (i0Of nx c) 0 = if c = 103 then allOf nx else 0 := rfl
    rw [e] at hk
    rw [hk, ← h3]
    rfl
theorem inE_zero (n : Nat) : InE n (0, 0, 0) := fun c => by
  unfold getL
  split
  · exact inS_zero n
  · split <;> exact inS_zero n
theorem whole_sc {l : List Nat} {f : Fm} (h : whole l = some f) : Sc [] f := by
  unfold whole at h
  obtain ⟨p, hp, h⟩ := Option.bind_eq_some_iff.mp h
  split at h
  · injection h with h
    subst h
    exact parse_sc _ _ _ _ _ hp
  · cases h
theorem both_holds {nx mk : List Int} (hv : VW nx mk) {l : List Nat} {f : Fm} (h : whole l = some f) : ∃ k m, rholdF nx mk k f (0, 0, 0) = some (V nx mk f (0, 0, 0)) ∧ holdF nx mk k f [] = some (V nx mk f (0, 0, 0), m) := by
  obtain ⟨k1, h1⟩ := rhold_total hv f (whole_str h).2 (0, 0, 0) (inE_zero _)
  obtain ⟨k2, m, h2, _⟩ := hold_total hv f (whole_str h).2 [] [] (0, 0, 0) (fun c hc => by cases hc) (whole_sc h) (fun c hc => by cases hc) (inE_zero _)
  exact ⟨max k1 k2, m, lift (fun k => (rholdF_mono nx mk k).1 _ _) h1 (Nat.le_max_left k1 k2), lift (fun k => (holdF_mono nx mk k).1 _ _) h2 (Nat.le_max_right k1 k2)⟩
end Go.Proofs.Ytjffhhalmicodaa.L
end

section
set_option linter.unusedVariables false
set_option linter.unusedSimpArgs false
namespace Go.Proofs.Ytjffhhalmicodaa.X
open Go.RowKit Go.Proofs.YtjffhhalmicodaaW.PrintWords Go.Proofs.YtjffhhalmicodaaW.PrintLast Go.Proofs.YtjffhhalmicodaaW.PrintMore
def pairV (p : Int × Int) : Value := .agg #[.int .i64 p.1, .int .i64 p.2]
theorem pair_eq (a b c d : Int) (w : World) : (Op.equalIn 10000 99 (.agg #[.int .i64 a, .int .i64 b]) (.agg #[.int .i64 c, .int .i64 d])).run Try.prog w = .ok (a == c && b == d) w := by
  have u3 := Try.underlying3
  have a3 := Try.isAgg3
  have z3 := Try.sizeOf3
  rw [show (10000 : Nat) = 9999 + 1 from rfl, Op.equalIn]
  simp only [Sem.run_bind, run_underlying Try.underlying99, Result.andThen_ok]
  simp only [Std.Legacy.Range.forIn_eq_forIn_range', Std.Legacy.Range.size, Nat.sub_zero, Nat.add_sub_cancel, Nat.div_one, List.range'_succ, List.range'_zero, List.forIn_cons, List.forIn_nil]
  go_simp
  by_cases h1 : a = c <;> by_cases h2 : b = d <;> simp [h1, h2]
theorem pair_check (em : Bool) (p : Int × Int) (w : World) : (Instr.checkKey em 10000 99 (pairV p)).run Try.prog w = .ok () w := by
  have u3 := Try.underlying3
  have a3 := Try.isAgg3
  have z3 := Try.sizeOf3
  unfold pairV
  rw [show (10000 : Nat) = 9998 + 1 + 1 from rfl, Instr.checkKey]
  simp only [Sem.run_bind, run_underlying Try.underlying99, Result.andThen_ok]
  simp only [Std.Legacy.Range.forIn_eq_forIn_range', Std.Legacy.Range.size, Nat.sub_zero, Nat.add_sub_cancel, Nat.div_one, List.range'_succ, List.range'_zero, List.forIn_cons, List.forIn_nil]
  have hk : ∀ (a : Int) w, (Instr.checkKey em (9998 + 1) 3 (.int .i64 a)).run Try.prog w = .ok () w := fun a w => Go.MapKept.run_checkKey u3 (show Go.MapKept.IsKey (.int .i64) (.int .i64 a) from rfl) em 9998
  go_simp
theorem pair_find (k : Int × Int) : ∀ (es : List MapEntry) (l : List (Int × Int)) (i : Nat) (w : World), es.map (·.key) = l.map pairV → (Instr.findAsking 99 (pairV k) es i).run Try.prog w = .ok ((es[l.findIdx (· = k)]?).map fun e => (i + l.findIdx (· = k), e.val)) w
  | [], [], i, w, _ => by simp [Instr.findAsking]
  | [], _ :: _, i, w, h => by simp at h
  | _ :: _, [], i, w, h => by simp at h
  | e :: es, a :: l, i, w, h => by
    simp only [List.map_cons, List.cons.injEq] at h
    have he := pair_eq k.1 k.2 a.1 a.2 w
    have ih := pair_find k es l (i + 1) w h.2
    unfold Instr.findAsking
    rw [Sem.run_bind, h.1]
    show ((Op.equalIn 10000 99 (pairV k) (pairV a)).run Try.prog w).andThen _ = _
    unfold pairV at he ⊢
    rw [he]
    by_cases hk : a = k
    · subst hk
      simp [List.findIdx_cons]
    · have hb : (k.1 == a.1 && k.2 == a.2) = false := by
        rw [Bool.eq_false_iff]
        intro hb
        rw [Bool.and_eq_true, beq_iff_eq, beq_iff_eq] at hb
        exact hk (Prod.ext hb.1.symm hb.2.symm)
      rw [hb]
      unfold pairV at ih
      simp only [Result.andThen_ok, Bool.false_eq_true, if_false, ih, List.findIdx_cons, hk, decide_false, cond_false, List.getElem?_cons_succ]
      cases es[l.findIdx (· = k)]? with
      | none => rfl
      | some x =>
        simp only [Option.map_some]
        rw [show i + 1 + l.findIdx (· = k) = i + (l.findIdx (· = k) + 1) by omega]
theorem pair_find0 (k : Int × Int) (es : List MapEntry) (l : List (Int × Int)) (w : World) (h : es.map (·.key) = l.map pairV) : (Instr.findKey 99 (pairV k) es).run Try.prog w = .ok ((es[l.findIdx (· = k)]?).map fun e => (l.findIdx (· = k), e.val)) w := by
  cases es with
  | nil =>
    cases l with
    | nil => simp [Instr.findKey, run_underlying Try.underlying99, Instr.findNow]
    | cons a l => simp at h
  | cons e es =>
    have hf := pair_find k (e :: es) l 0 w h
    have hn : Instr.findNow (.array 2 3) (pairV k) (e :: es) 0 = none := by
      unfold Instr.findNow
      rfl
    simp only [Instr.findKey, Sem.run_bind, run_underlying Try.underlying99, Result.andThen_ok, hn]
    rw [hf]
    simp
theorem keyOk_pair : KeyOk Try.prog 99 pairV where
  inj := fun a b h => by
    unfold pairV at h
    simp only [Value.agg.injEq, Array.mk.injEq, List.cons.injEq, Value.int.injEq, true_and, and_true] at h
    exact Prod.ext h.1 h.2
  check := fun b k w => pair_check b k w
  find := fun k es l w h => pair_find0 k es l w h
  stays := fun k w => by simp [Instr.keyThatStays, Instr.sameBits, pairV]
end Go.Proofs.Ytjffhhalmicodaa.X
end

section
set_option linter.unusedVariables false
set_option linter.unusedSimpArgs false
namespace Go.Proofs.Ytjffhhalmicodaa.X
open Go.RowKit Go.Proofs.YtjffhhalmicodaaW.PrintWords Go.Proofs.YtjffhhalmicodaaW.PrintLast Go.Proofs.YtjffhhalmicodaaW.PrintMore
def numTo (key : Nat → Int × Int) : Nat → List ((Int × Int) × Int) × List Int
  | 0 => ([], [])
  | k + 1 => match findL (numTo key k).1 (key k) with
    | some v => ((numTo key k).1, (numTo key k).2 ++ [v])
    | none => (putL (numTo key k).1 (key k) ((numTo key k).1.length : Int), (numTo key k).2 ++ [((numTo key k).1.length : Int)])
theorem numTo_len (key : Nat → Int × Int) : ∀ k, (numTo key k).2.length = k
  | 0 => rfl
  | k + 1 => by
    have := numTo_len key k
    rw [numTo]
    split <;> simp [this]
def cls (key : Nat → Int × Int) (i : Nat) : Int := (findL (numTo key i).1 (key i)).getD ((numTo key i).1.length : Int)
def cnt (key : Nat → Int × Int) (i : Nat) : Nat := (numTo key i).1.length
theorem num_succ (key : Nat → Int × Int) (k : Nat) : (numTo key (k + 1)).2 = (numTo key k).2 ++ [cls key k] := by
  unfold cls
  rw [numTo]
  split
  · rename_i v h; simp [h]
  · rename_i h; simp [h]
theorem rd_num (key : Nat → Int × Int) (n i : Nat) (h : i < n) : rd (numTo key n).2 (i : Int) = cls key i := by
  induction n with
  | zero => omega
  | succ n ih =>
    have hl := numTo_len key n
    rw [num_succ]
    unfold rd at ih ⊢
    rw [Int.toNat_natCast] at ih ⊢
    rw [List.getD_eq_getElem?_getD] at ih ⊢
    by_cases hi : i < n
    · rw [List.getElem?_append_left (by omega)]
      exact ih hi
    · obtain rfl : i = n := by omega
      rw [List.getElem?_append_right (by omega), hl]
      simp
theorem num_map (key : Nat → Int × Int) (n : Nat) :
    (∀ i, i < n → findL (numTo key n).1 (key i) = some (cls key i)) ∧ (∀ k v, findL (numTo key n).1 k = some v → ∃ i, i < n ∧ key i = k ∧ cls key i = v ∧ 0 ≤ v ∧ v < cnt key n ∧ ∀ j, j < i → key j ≠ key i) := by
  induction n with
  | zero => exact ⟨fun i h => by omega, fun k v h => by simp [numTo, findL] at h⟩
  | succ n ih =>
    obtain ⟨h1, h2⟩ := ih
    cases hf : findL (numTo key n).1 (key n) with
    | some v =>
      have e : (numTo key (n + 1)).1 = (numTo key n).1 := by rw [numTo, hf]
      have hc : cls key n = v := by unfold cls; rw [hf]; rfl
      unfold cnt
      rw [e]
      refine ⟨fun i hi => ?_, fun k u h => ?_⟩
      · by_cases hin : i < n
        · exact h1 i hin
        · obtain rfl : i = n := by omega
          rw [hf, hc]
      · obtain ⟨i, a, b⟩ := h2 k u h
        exact ⟨i, by omega, b⟩
    | none =>
      have e : (numTo key (n + 1)).1 = (numTo key n).1 ++ [(key n, ((numTo key n).1.length : Int))] := by rw [numTo, hf]; exact putL_none hf
      have e' : (numTo key (n + 1)).1 = putL (numTo key n).1 (key n) ((numTo key n).1.length : Int) := by rw [numTo, hf]
      have hc : cls key n = ((numTo key n).1.length : Int) := by unfold cls; rw [hf]; rfl
      have hne : ∀ j, j < n → key j ≠ key n := fun j hj he => by
        have := h1 j hj
        rw [he, hf] at this
        cases this
      have hcn : cnt key (n + 1) = cnt key n + 1 := by unfold cnt; rw [e]; simp
      refine ⟨fun i hi => ?_, fun k u h => ?_⟩
      · rw [e', findL_putL]
        by_cases hin : i < n
        · rw [if_neg (fun q => hne i hin q.symm)]
          exact h1 i hin
        · obtain rfl : i = n := by omega
          rw [if_pos rfl, hc]
      · rw [e', findL_putL] at h
        by_cases hk : key n = k
        · rw [if_pos hk] at h
          injection h with h
          refine ⟨n, by omega, hk, by rw [hc, h], by omega, ?_, hne⟩
          rw [hcn]
          unfold cnt
          omega
        · rw [if_neg hk] at h
          obtain ⟨i, a, b, c, d, f, g⟩ := h2 k u h
          exact ⟨i, by omega, b, c, d, by omega, g⟩
theorem cnt_le (key : Nat → Int × Int) : ∀ n, cnt key n ≤ n
  | 0 => Nat.le_refl _
  | n + 1 => by
    have := cnt_le key n
    unfold cnt at this ⊢
    rw [numTo]
    split
    · simp; omega
    · rename_i h
      simp only [putL_none h, List.length_append, List.length_singleton]
      omega
theorem cnt_step (key : Nat → Int × Int) (n : Nat) : (cnt key (n + 1) = cnt key n ∧ ∃ j, j < n ∧ key j = key n) ∨ (cnt key (n + 1) = cnt key n + 1 ∧ cls key n = cnt key n ∧ ∀ j, j < n → key j ≠ key n) := by
  cases hf : findL (numTo key n).1 (key n) with
  | some v =>
    left
    obtain ⟨i, a, b, _⟩ := (num_map key n).2 _ _ hf
    refine ⟨?_, i, a, b⟩
    unfold cnt
    rw [numTo, hf]
  | none =>
    right
    refine ⟨?_, by unfold cls cnt; rw [hf]; rfl, fun j hj he => ?_⟩
    · unfold cnt
      rw [numTo, hf]
      simp [putL_none hf]
    · have := (num_map key n).1 j hj
      rw [he, hf] at this
      cases this
theorem cnt_mono (key : Nat → Int × Int) {m n : Nat} (h : m ≤ n) : cnt key m ≤ cnt key n := by
  induction n with
  | zero => obtain rfl : m = 0 := by omega
            exact Nat.le_refl _
  | succ n ih =>
    by_cases e : m = n + 1
    · rw [e]; exact Nat.le_refl _
    · have := ih (by omega)
      rcases cnt_step key n with h | h <;> omega
theorem cls_range (key : Nat → Int × Int) {i n : Nat} (h : i < n) : 0 ≤ cls key i ∧ cls key i < cnt key n := by
  obtain ⟨j, a, b, c, d, e, f⟩ := (num_map key n).2 _ _ ((num_map key n).1 i h)
  exact ⟨d, e⟩
theorem cls_eq (key : Nat → Int × Int) (i j : Nat) : cls key i = cls key j ↔ key i = key j := by
  have hi := (num_map key (i + j + 1)).1 i (by omega)
  have hj := (num_map key (i + j + 1)).1 j (by omega)
  constructor
  · intro h
    obtain ⟨a, a1, a2, a3, _, _, a4⟩ := (num_map key (i + j + 1)).2 _ _ hi
    obtain ⟨b, b1, b2, b3, _, _, b4⟩ := (num_map key (i + j + 1)).2 _ _ hj
    have new : ∀ a, (∀ j, j < a → key j ≠ key a) → cls key a = cnt key a ∧ cnt key (a + 1) = cnt key a + 1 := fun a ha => by
      rcases cnt_step key a with ⟨_, j, hj, e⟩ | ⟨e1, e2, _⟩
      · exact absurd e (ha j hj)
      · exact ⟨e2, e1⟩
    have na := new a a4
    have nb := new b b4
    rcases Nat.lt_trichotomy a b with hab | rfl | hab
    · have := cnt_mono key (show a + 1 ≤ b by omega)
      omega
    · rw [← a2, ← b2]
    · have := cnt_mono key (show b + 1 ≤ a by omega)
      omega
  · intro h
    rw [h, hj] at hi
    injection hi with hi
    exact hi.symm
theorem cls_has (key : Nat → Int × Int) : ∀ n v : Nat, v < cnt key n → ∃ i, i < n ∧ cls key i = v ∧ ∀ j, j < i → cls key j ≠ v ∧ cls key j < v
  | 0, v, h => by simp [cnt, numTo] at h
  | n + 1, v, h => by
    rcases cnt_step key n with ⟨e, _⟩ | ⟨e, e2, e3⟩
    · obtain ⟨i, a, b⟩ := cls_has key n v (by omega)
      exact ⟨i, by omega, b⟩
    · by_cases hv : v < cnt key n
      · obtain ⟨i, a, b⟩ := cls_has key n v hv
        exact ⟨i, by omega, b⟩
      · refine ⟨n, by omega, by omega, fun j hj => ?_⟩
        have := cls_range key hj
        omega
theorem cls_congr {key key' : Nat → Int × Int} {n : Nat} (h : ∀ i j, i < n → j < n → (key i = key j ↔ key' i = key' j)) : ∀ i, i < n → cls key i = cls key' i ∧ cnt key i = cnt key' i := by
  have hc : ∀ m, m ≤ n → cnt key m = cnt key' m := by
    intro m
    induction m with
    | zero => intro _; rfl
    | succ m ih =>
      intro hm
      have := ih (by omega)
      rcases cnt_step key m with ⟨e, j, hj, hk⟩ | ⟨e, e2, e3⟩ <;> rcases cnt_step key' m with ⟨f, j', hj', hk'⟩ | ⟨f, f2, f3⟩
      · omega
      · exact absurd ((h j m (by omega) (by omega)).1 hk) (f3 j hj)
      · exact absurd ((h j' m (by omega) (by omega)).2 hk') (e3 j' hj')
      · omega
  intro i
  induction i using Nat.strongRecOn with
  | ind i ih =>
    intro hi
    refine ⟨?_, hc i (by omega)⟩
    rcases cnt_step key i with ⟨e, j, hj, hk⟩ | ⟨e, e2, e3⟩
    · rw [← (cls_eq key j i).2 hk, ← (cls_eq key' j i).2 ((h j i (by omega) hi).1 hk)]
      exact (ih j hj (by omega)).1
    · rcases cnt_step key' i with ⟨f, j', hj', hk'⟩ | ⟨f, f2, f3⟩
      · exact absurd ((h j' i (by omega) hi).2 hk') (e3 j' hj')
      · rw [e2, f2, hc i (by omega)]
theorem num_congr {key key' : Nat → Int × Int} {n : Nat} (h : ∀ i j, i < n → j < n → (key i = key j ↔ key' i = key' j)) : (numTo key n).2 = (numTo key' n).2 ∧ cnt key n = cnt key' n := by
  have hx := cls_congr h
  constructor
  · have : ∀ m, m ≤ n → (numTo key m).2 = (numTo key' m).2 := by
      intro m
      induction m with
      | zero => intro _; rfl
      | succ m ih =>
        intro hm
        rw [num_succ, num_succ, ih (by omega), (hx m (by omega)).1]
    exact this n (Nat.le_refl _)
  · cases n with
    | zero => rfl
    | succ m =>
      have h1 := (hx m (by omega)).2
      rcases cnt_step key m with ⟨e, j, hj, hk⟩ | ⟨e, e2, e3⟩ <;> rcases cnt_step key' m with ⟨f, j', hj', hk'⟩ | ⟨f, f2, f3⟩
      · omega
      · exact absurd ((h j m (by omega) (by omega)).1 hk) (f3 j hj)
      · exact absurd ((h j' m (by omega) (by omega)).2 hk') (e3 j' hj')
      · omega
def markKey (mk : List Int) (s : Nat) : Int × Int := (rd mk s, 0)
def setTo (nx last : List Int) (s : Nat) : Nat → Int
  | 0 => 0
  | t + 1 => if bits .and .i64 (shr .i64 (rd nx s) (t : Int)) 1 = 1 then bits .or .i64 (setTo nx last s t) (shl .i64 1 (rd last (t : Int))) else setTo nx last s t
def setKey (nx last : List Int) (s : Nat) : Int × Int := (rd last s, setTo nx last s last.length)
end Go.Proofs.Ytjffhhalmicodaa.X
end

section
set_option linter.unusedVariables false
set_option linter.unusedSimpArgs false
namespace Go.Proofs.Ytjffhhalmicodaa.X
open Go.RowKit Go.Proofs.YtjffhhalmicodaaW.PrintWords Go.Proofs.YtjffhhalmicodaaW.PrintLast Go.Proofs.YtjffhhalmicodaaW.PrintMore
theorem R_notmap {α : Type} {d : Kd α} {e : TypeId} {w : World} {base : Nat} {ok : Nat → Prop} {v : Value} {xs : List α} (h : d.R e w base ok v xs) {r : Nat} {es : Array MapEntry} {c : Nat} (hb : w.heap[r]? = some (.map es c)) : d.R e w base (fun k => ok k ∧ k ≠ r) v xs :=
  Kd.R_mono (Kd.R_bound h) (fun k hk => ⟨hk.1, by
    obtain ⟨_, _, _, q, hq, cells', hc⟩ := hk
    rintro rfl
    rw [hc] at hb
    cases hb⟩)
def KeyFn (w : World) (g : Nat) (lb : Array Value) (n : Nat) (key : Nat → Int × Int) : Prop :=
  ∀ (W : World) (s : Nat), s < n → Below w.heap.size w W → Calls Try.prog g (#[.int .i64 s] ++ lb) W fun e w' => e = .returned (pairV (key s)) ∧ Below W.heap.size W w'
structure NS (w : World) (gw r : Nat) (cells : Array Value) (key : Nat → Int × Int) (k : Nat) (sl : Value) (wr : World) : Prop where
  below : Below w.heap.size w wr
  box : wr.heap[gw]? = some (.cells cells 28 (0, 0))
  newb : w.heap.size ≤ gw
  map : IsM pairV (Value.int .i64) wr r (numTo key k).1
  newm : w.heap.size ≤ r
  own : Kd.R (Kd.int .i64) 3 wr w.heap.size (fun _ => True) sl (numTo key k).2
theorem NS.step {w : World} {gw r : Nat} {cells : Array Value} {key : Nat → Int × Int} {k : Nat} {sl : Value} {wr w2 : World} (h : NS w gw r cells key k sl wr) (hb : Below wr.heap.size wr w2) : NS w gw r cells key k sl w2 :=
  ⟨h.below.trans (hb.mono h.below.size), (hb.block gw (Array.getElem?_eq_some_iff.1 h.box).1).trans h.box, h.newb, h.map.below hb, h.newm, Kd.R_below h.own hb⟩
theorem info3' : (Try.prog.info? 3).map (fun i => (i.zero, i.size, i.bytes)) = some (some (.int .i64 0), 1, 8) := by kernel_rfl
theorem NS.push {w : World} {gw r : Nat} {cells : Array Value} {key : Nat → Int × Int} {k : Nat} {sl v1 : Value} {w2 w1 : World} {x : Int} (hbl : Below w.heap.size w w2) (hbox : w2.heap[gw]? = some (.cells cells 28 (0, 0))) (hnb : w.heap.size ≤ gw) (hnm : w.heap.size ≤ r) {mp : List ((Int × Int) × Int)} (hmap : IsM pairV (Value.int .i64) w2 r mp) {xs : List Int} (hown : Kd.R (Kd.int .i64) 3 w2 w.heap.size (fun _ => True) sl xs)
    (hnum : numTo key (k + 1) = (mp, xs ++ [x])) (hv : Kd.R (Kd.int .i64) 3 w1 w.heap.size (fun _ => True) v1 (xs ++ [x])) (hb : Below w.heap.size w w1) (hg : w2.grownBy w1 sl.ownBlock) : NS w gw r cells key (k + 1) v1 w1 := by
  refine ⟨hb, blk_grown hbox hg (Kd.R_ne hown hbox (by decide)), hnb, ?_, hnm, ?_⟩
  · rw [hnum]
    refine hmap.of_heap (hg.block r hmap.lt ?_)
    intro e
    obtain ⟨es, clock, hblk, _⟩ := hmap
    have h2 := R_notmap hown hblk
    exact (h2.1 r e.symm).2 rfl
  · rw [hnum]
    exact hv
theorem map_len_event {P : Program} {ops : Array Oper} {rest : List Oper} {o : Oper} {a : Act} {Q : Exit → Act → World → Prop} {W : World} {α β : Type} [DecidableEq α] {enc : α → Value} {encv : β → Value} (hgd : o.guard = none) (m : Operand) (t : TypeId) (ho : o.op = Op.call { callee := Callee.builtin Builtin.len, args := #[m], argTypes := #[t] }) {K E : TypeId} (hu : P.underlying t = some (.map K E)) {r : Nat} {l : List (α × β)}
    (hm : a.eval m = .map (some r)) (hM : IsM enc encv W r l)
    (h : wpList P ops Q rest (a.put o.dst (.int .i64 (l.length : Int))) W) : wpList P ops Q (o :: rest) a W := by
  obtain ⟨es, clock, hb, hl⟩ := hM
  have hlen : es.size = l.length := by
    have := congrArg List.length hl
    simpa using this
  refine Kd.event_run hgd ?_ h
  have h1 : (Builtin.len_ #[t] o.type #[.map (some r)]).run P W = .ok (.int .i64 (l.length : Int)) W := by
    simp [Builtin.len_, run_underlying hu, MapKept.run_getObj_map hb, goInt, Result.andThen, hlen]
  simp [execOp, ho, resolve, invoke, builtin, hm, h1, Result.andThen]
structure NP (w : World) (gw r : Nat) (cells : Array Value) (mp : List ((Int × Int) × Int)) (xs : List Int) (sl : Value) (wr : World) : Prop where
  below : Below w.heap.size w wr
  box : wr.heap[gw]? = some (.cells cells 28 (0, 0))
  newb : w.heap.size ≤ gw
  map : IsM pairV (Value.int .i64) wr r mp
  newm : w.heap.size ≤ r
  own : Kd.R (Kd.int .i64) 3 wr w.heap.size (fun _ => True) sl xs
theorem NS.put {w : World} {gw r : Nat} {cells : Array Value} {key : Nat → Int × Int} {k : Nat} {sl : Value} {wr w1 : World} (h : NS w gw r cells key k sl wr) {mp : List ((Int × Int) × Int)} (hm : IsM pairV (Value.int .i64) w1 r mp) (hk : KeepBut wr w1 r none) (hb : ∀ B u, Below B u wr → B ≤ r → Below B u w1) : NP w gw r cells mp (numTo key k).2 sl w1 := by
  have hne : gw ≠ r := by
    obtain ⟨es, clock, hblk, _⟩ := h.map
    intro e
    have := h.box
    rw [e, hblk] at this
    cases this
  refine ⟨hb _ _ h.below h.newm, hk.blk h.box hne (by simp), h.newb, hm, h.newm, ?_⟩
  obtain ⟨es, clock, hblk, _⟩ := h.map
  exact Kd.R_mono (Kd.R_keep (R_notmap h.own hblk) hk (fun _ hk => hk.2)) (fun _ hk => hk.1)
set_option maxRecDepth 100000 in
set_option maxHeartbeats 2000000 in
theorem numbered_calls (g : Nat) (lb : Array Value) (eg : ∀ args w, (callFunc g args).run Try.prog w = .ok (.enter g args) w) (key : Nat → Int × Int) (A0 : Option Addr) (n c0 : Nat) (A1 : Option Addr) (m c1 : Nat) (w : World) (hn : n ≤ 1000) (hp : KeyFn w g lb n key) :
    Calls Try.prog 81 #[.agg #[.slice A0 n c0, .slice A1 m c1], .func (.func g) #[] lb] w fun e w' => ∃ v, e = .returned v ∧ Kd.R (Kd.int .i64) 3 w' w.heap.size (fun _ => True) v (numTo key n).2 ∧ Below w.heap.size w w' := by
  have hu := Try.underlying28
  have hz0 : ∀ w, (zeroValue 3).run Try.prog w = .ok (.int .i64 0) w := fun _ => by kernel_rfl
  have HZ := Lib.hid hz0
  have HP := Lib.hid hp
  clear hz0 hp
  go_enter Try.func81, Try.ntmps81
  go_wp2_with (first | ((with_reducible refine gate_dst (N := 2) rfl ?_); refine box_event ?hg (N := 2) ?hd (cs := #[.slice A0 n c0, .slice A1 m c1]) (t := 28) ?hr ?_; (case hd => rfl); (case hg => rfl); (case hr => first | (go_simp; done) | (go_simp; rfl)); intro gw hgw wb hbw hbb; have HBX := Lib.hid hbw; have HGW := Lib.hid (Nat.le_of_eq hgw.symm); have HB0 := Lib.hid (below_step (Below.refl w.heap.size w) hbb); have hw0 : wb.cell? ⟨gw, 0, none⟩ = some (.slice A0 n c0) := (blk_cell hbw 0).trans rfl; clear hgw hbw hbb) | ((with_reducible refine gate_op (op := .makeMap 108 none) rfl ?_); refine map_make_event rfl 108 rfl ?_; intro r wm hr hm hb; have HNS := Lib.hid (show NS w gw r #[.slice A0 n c0, .slice A1 m c1] key 0 (.slice none 0 0) wm from ⟨HB0.out.trans (hb.mono HB0.out.size), (hb.block gw (Array.getElem?_eq_some_iff.1 HBX.out).1).trans HBX.out, HGW.out, IsM.mk' (enc := pairV) (encv := Value.int .i64) (l := []) hm rfl, by rw [hr]; exact HB0.out.size, Kd.R_nil _ _ _ _ _⟩); have j0_ := pw_cell_below hb hw0; clear hw0 hm hb hr; have hw0 := j0_; clear j0_) | fail)
  clear HBX HB0 HGW
  go_wp2_with fail
  go_loopw [6, 14] (fun v i wr => ∃ (k : Nat) (sl : Value), k ≤ n ∧ i = .int .i64 k ∧ v = sl ∧ Hid (NS w gw r #[.slice A0 n c0, .slice A1 m c1] key k sl wr)) (fun _ i _ => n - (intOf i).toNat)
  case atStart => exact ⟨0, _, by omega, rfl, rfl, HNS⟩
  case round =>
    clear HNS
    obtain ⟨k, sl, hk, rfl, rfl, HNS⟩ := hrel
    by_cases hlt : k < n
    · have hcall := HP.out wr k hlt HNS.out.below
      have HC := Lib.hid hcall
      clear hcall
      cases hf : findL (numTo key k).1 (key k) with
      | some x =>
        have HF := Lib.hid hf
        have HN := Lib.hid (show numTo key (k + 1) = ((numTo key k).1, (numTo key k).2 ++ [x]) by rw [numTo, hf])
        clear hf
        go_wp2_with fail
        refine HC.out.mono ?_
        rintro e w2 ⟨rfl, hb⟩
        have HNS2 := Lib.hid (HNS.out.step hb)
        have hxs : ((numTo key k).2.length + 1) * 8 ≤ 140737488355328 := by rw [numTo_len]; omega
        have HXS := Lib.hid hxs
        clear hb hxs HNS HC
        obtain ⟨A, cp, rfl⟩ := Kd.R_slice HNS2.out.own
        go_wp2_with (first | ((with_reducible refine gate_dst (N := 22) rfl ?_); refine map_get_event rfl 108 (.tmp 18) (.tmp 21) true rfl Try.underlying108 (enc := pairV) (encv := Value.int .i64) HZ.out keyOk_pair (key k) rfl rfl HNS2.out.map ?_; rw [HF.out]; simp only [if_true, Option.getD_some, Option.isSome_some]) | (at_builtin; refine Kd.R_append (Kd.int .i64) (w0 := w) w.heap.size rfl (.tmp 34) (.tmp 36) 22 3 (.int .i64 0) 8 rfl Try.underlying22 info3' rfl (by decide) (by decide) (.slice A (numTo key k).2.length cp) (numTo key k).2 x [.int .i64 x] (fun _ => True) (fun _ => False) rfl rfl rfl (fun _ h => h.elim) (fun _ _ => trivial) HNS2.out.own HNS2.out.below HNS2.out.below.size HXS.out ?_; intro v1 w1 hv hb hg hat; have HNS3 := Lib.hid (NS.push HNS2.out.below HNS2.out.box HNS2.out.newb HNS2.out.newm HNS2.out.map HNS2.out.own HN.out hv hb hg); clear hv hb hg hat) | fail)
        go_roundw
        case rel => exact ⟨k + 1, _, by omega, by go_num, rfl, HNS3⟩
        case measure => simp [intOf]; omega
      | none =>
        have HF := Lib.hid hf
        have HN := Lib.hid (show numTo key (k + 1) = (putL (numTo key k).1 (key k) ((numTo key k).1.length : Int), (numTo key k).2 ++ [((numTo key k).1.length : Int)]) by rw [numTo, hf])
        clear hf
        go_wp2_with fail
        refine HC.out.mono ?_
        rintro e w2 ⟨rfl, hb⟩
        have HNS2 := Lib.hid (HNS.out.step hb)
        have hxs : ((numTo key k).2.length + 1) * 8 ≤ 140737488355328 := by rw [numTo_len]; omega
        have HXS := Lib.hid hxs
        clear hb hxs HNS HC
        obtain ⟨A, cp, rfl⟩ := Kd.R_slice HNS2.out.own
        have hcall2 := HP.out w2 k hlt HNS2.out.below
        have HC2 := Lib.hid hcall2
        clear hcall2
        go_wp2_with (first | ((with_reducible refine gate_dst (N := 22) rfl ?_); refine map_get_event rfl 108 (.tmp 18) (.tmp 21) true rfl Try.underlying108 (enc := pairV) (encv := Value.int .i64) HZ.out keyOk_pair (key k) rfl rfl HNS2.out.map ?_; rw [HF.out]; simp only [if_true, Option.getD_none, Option.isSome_none]) | ((with_reducible refine gate_dst (N := 28) rfl ?_); refine map_len_event rfl (.tmp 27) 108 rfl Try.underlying108 (enc := pairV) (encv := Value.int .i64) rfl HNS2.out.map ?_) | fail)
        refine HC2.out.mono ?_
        rintro e w3 ⟨rfl, hb3⟩
        have HNS3 := Lib.hid (HNS2.out.step hb3)
        clear hb3 HNS2 HC2
        go_wp2_with (first | ((with_reducible refine gate_op (op := .mapUpdate 108 (.tmp 29) (.tmp 32) (.tmp 33)) rfl ?_); refine map_put_event rfl 108 (.tmp 29) (.tmp 32) (.tmp 33) (Or.inr rfl) Try.underlying108 keyOk_pair (enc := pairV) (encv := Value.int .i64) (key k) ((numTo key k).1.length : Int) rfl rfl rfl HNS3.out.map ?_; intro wn hmm hkm hlm; have HNP := Lib.hid (NS.put HNS3.out hmm hkm hlm); clear hmm hkm hlm HNS3) | (at_builtin; refine Kd.R_append (Kd.int .i64) (w0 := w) w.heap.size rfl (.tmp 34) (.tmp 36) 22 3 (.int .i64 0) 8 rfl Try.underlying22 info3' rfl (by decide) (by decide) (.slice A (numTo key k).2.length cp) (numTo key k).2 ((numTo key k).1.length : Int) [.int .i64 ((numTo key k).1.length : Int)] (fun _ => True) (fun _ => False) rfl rfl rfl (fun _ h => h.elim) (fun _ _ => trivial) HNP.out.own HNP.out.below HNP.out.below.size HXS.out ?_; intro v1 w1 hv hb hg hat; have HNS4 := Lib.hid (NS.push HNP.out.below HNP.out.box HNP.out.newb HNP.out.newm HNP.out.map HNP.out.own HN.out hv hb hg); clear hv hb hg hat) | fail)
        go_roundw
        case rel => exact ⟨k + 1, _, by omega, by go_num, rfl, HNS4⟩
        case measure => simp [intOf]; omega
    · obtain rfl : k = n := by omega
      go_wp2
      go_ret
      exact ⟨_, rfl, HNS.out.own, HNS.out.below⟩
end Go.Proofs.Ytjffhhalmicodaa.X
end

section
set_option linter.unusedVariables false
set_option linter.unusedSimpArgs false
namespace Go.Proofs.Ytjffhhalmicodaa.X
open Go.RowKit Go.Proofs.YtjffhhalmicodaaW.PrintWords Go.Proofs.YtjffhhalmicodaaW.PrintLast Go.Proofs.YtjffhhalmicodaaW.PrintMore
theorem setCells_blk {g : Nat} {e : TypeId} : ∀ (vs : List Value) (o : Nat) (w : World) (cur : Array Value), w.heap[g]? = some (.cells cur e (0, 0)) → o + vs.length ≤ cur.size →
    ∃ cur', (w.setCells g o vs).heap[g]? = some (.cells cur' e (0, 0)) ∧ cur'.toList = cur.toList.take o ++ vs ++ cur.toList.drop (o + vs.length)
  | [], o, w, cur, h, _ => ⟨cur, h, by simp⟩
  | v :: vs, o, w, cur, h, hl => by
    obtain ⟨cur', h1, h2⟩ := setCells_blk vs (o + 1) (w.setCell ⟨g, o, none⟩ v) (cur.setIfInBounds o v) (blk_set h o v) (by simp at hl ⊢; omega)
    refine ⟨cur', h1, ?_⟩
    have hlt : o < cur.toList.length := by simp at hl ⊢; omega
    rw [h2, Array.toList_setIfInBounds, List.length_cons]
    have e1 : (cur.toList.set o v).take (o + 1) = cur.toList.take o ++ [v] := by
      rw [List.take_succ_eq_append_getElem (by simpa using hlt), List.take_set_of_le (Nat.le_refl _)]
      simp
    have e2 : (cur.toList.set o v).drop (o + 1 + vs.length) = cur.toList.drop (o + (vs.length + 1)) := by
      rw [List.drop_set_of_lt (by omega)]
      congr 1
      omega
    rw [e1, e2]
    simp
theorem setCells_other {g : Nat} : ∀ (vs : List Value) (o : Nat) (w : World), (w.setCells g o vs).os = w.os ∧ (w.setCells g o vs).tape = w.tape ∧ (w.setCells g o vs).output = w.output ∧ (w.setCells g o vs).heap.size = w.heap.size ∧ ∀ k, k ≠ g → (w.setCells g o vs).heap[k]? = w.heap[k]?
  | [], o, w => ⟨rfl, rfl, rfl, rfl, fun _ _ => rfl⟩
  | v :: vs, o, w => by
    obtain ⟨h1, h2, h3, h4, h5⟩ := setCells_other (g := g) vs (o + 1) (w.setCell ⟨g, o, none⟩ v)
    refine ⟨h1.trans rfl, h2.trans rfl, h3.trans rfl, h4.trans (by simp [World.setCell]), fun k hk => (h5 k hk).trans (Below.heap_setCell w ⟨g, o, none⟩ v k hk)⟩
section
variable {P : Program} {ops : Array Oper} {rest : List Oper} {o : Oper} {a : Act} {Q : Exit → Act → World → Prop} {W : World}
theorem whole_store_event (hN : o.dst = none) (hgd : o.guard = none) (t : TypeId) (p x : Operand) (ho : o.op = .store t p x) {g : Nat} {e : TypeId} {cur : Array Value} (u : Value) (seg : List Value) (haddr : a.eval p = .pointer (some ⟨g, 0, none⟩)) (hx : a.eval x = u) (hu : u.cells.toList = seg) (ht : (P.info? t).map (·.size) = some seg.length) (hsz : cur.size = seg.length) (h1 : ∀ q ∈ seg, q.oneCell' = true) (hh : W.heap[g]? = some (.cells cur e (0, 0)))
    (h : ∀ w1, w1.heap[g]? = some (.cells seg.toArray e (0, 0)) → KeepBut W w1 g none → (∀ B u, Below B u W → B ≤ g → Below B u w1) → wpList P ops Q rest a w1) : wpList P ops Q (o :: rest) a W := by
  obtain ⟨i, hi, hs⟩ := Option.map_eq_some_iff.1 ht
  have hc : u.cells.size = i.size := by rw [hs, ← hu, Array.length_toList]
  have hst := run_storeCells_cells (P := P) g 0 seg 0 W (fun j hj => by rw [cell_of_row W g _ cur e (0, 0) hh]; simp; omega) (fun j _ => blk_frozen hh _) h1
  simp only [Nat.add_zero] at hst
  obtain ⟨cur', k1, k2⟩ := setCells_blk seg 0 W cur hh (by omega)
  obtain ⟨s1, s2, s3, s4, s5⟩ := setCells_other (g := g) seg 0 W
  have hcur : cur' = seg.toArray := by
    apply Array.toList_inj.1
    rw [k2]
    simp [hsz]
  subst hcur
  refine wpList_plain hgd fun K hK => ?_
  have hrun : (execOp a.eval o).run P W = .ok .skip (W.setCells g 0 seg) := by
    unfold execOp
    simp [ho, haddr, hx, Instr.storeAt, Instr.sureAddr, storeVar, sizeOf, typeInfo, hi, hc, hu, hst, Result.andThen]
  unfold Oper.wp
  rw [hrun]
  show K (a.put o.dst undef) (W.setCells g 0 seg)
  rw [hN]
  exact hK _ _ (h _ k1 ⟨by rw [s4]; exact Nat.le_refl _, fun i _ hne _ => s5 i hne⟩ (fun B u hb hB => hb.trans ⟨s1, s2, s3, by rw [s4]; exact Nat.le_refl _, fun k hk => s5 k (by omega)⟩))
end
end Go.Proofs.Ytjffhhalmicodaa.X
end

section
set_option linter.unusedVariables false
set_option linter.unusedSimpArgs false
namespace Go.Proofs.Ytjffhhalmicodaa.X
open Go.RowKit Go.Proofs.YtjffhhalmicodaaW.PrintWords Go.Proofs.YtjffhhalmicodaaW.PrintLast Go.Proofs.YtjffhhalmicodaaW.PrintMore
theorem info99 : (Try.prog.info? 99).map (·.size) = some 2 := by kernel_rfl
theorem pair_cells (a b : Int) : (pairV (a, b)).cells.toList = [.int .i64 a, .int .i64 b] := rfl
theorem pair_one (a b : Int) : ∀ q ∈ [Value.int .i64 a, .int .i64 b], q.oneCell' = true := by simp [Value.oneCell']
set_option maxRecDepth 100000 in
set_option maxHeartbeats 1000000 in
theorem mark_calls (bw b off m c1 s : Nat) (x : Int) (W : World) (hw : W.cell? ⟨bw, 1, none⟩ = some (.slice (some ⟨b, off, none⟩) m c1))
    (hsn : s < m) (_hn : m ≤ 9223372036854775807) (hx : W.cell? ⟨b, off + s, none⟩ = some (.int .i64 x)) :
    Calls Try.prog 82 #[.int .i64 s, .pointer (some ⟨bw, 0, none⟩)] W fun e w' => e = .returned (pairV (x, 0)) ∧ Below W.heap.size W w' := by
  have hu := Try.underlying28
  have h1 : (s : Int) < (m : Int) := by omega
  have hz : ∀ w, (zeroValue 99).run Try.prog w = .ok (.agg #[.int .i64 0, .int .i64 0]) w := fun _ => by kernel_rfl
  go_enter Try.func82, Try.ntmps82
  go_wp2_with (first | ((with_reducible refine gate_dst (N := 3) rfl ?_); refine box_event ?hg (N := 3) ?hd (cs := #[.int .i64 0, .int .i64 0]) (t := 99) ?hr ?_; (case hd => rfl); (case hg => rfl); (case hr => kernel_rfl); intro gw hgw wb hbw hbb; have k0_ := pw_cell_below hbb hw; have k1_ := pw_cell_below hbb hx; clear hw hx; have hw := k0_; have hx := k1_; clear k0_ k1_; have HGW := Lib.hid (Nat.le_of_eq hgw.symm); have HB := Lib.hid hbb; have HBW := Lib.hid hbw; clear hbb hbw hgw) | ((with_reducible refine gate_op (op := .store 99 (.tmp 3) (.tmp 9)) rfl ?_); refine whole_store_event rfl rfl 99 (.tmp 3) (.tmp 9) rfl (g := gw) (cur := #[.int .i64 0, .int .i64 0]) (pairV (x, 0)) [.int .i64 x, .int .i64 0] rfl rfl (pair_cells x 0) info99 rfl (pair_one x 0) HBW.out ?_; intro w1 hw1 hk1 hb1; have HB1 := Lib.hid (hb1 _ _ HB.out HGW.out); have g0 : w1.cell? ⟨gw, 0, none⟩ = some (.int .i64 x) := (blk_cell hw1 0).trans rfl; have g1 : w1.cell? ⟨gw, 1, none⟩ = some (.int .i64 0) := (blk_cell hw1 1).trans rfl; clear hw1 hk1 hb1 HB HBW) | fail)
  exact bodyPost_ret (v := pairV (x, 0)) (by simp [results, Try.results82, go_sem, pairV, g0, g1, Result.andThen]) rfl ⟨rfl, HB1.out⟩
theorem shr_at (x : Int) {t : Nat} (h : t ≤ 64) : shr .i64 x (t : Int) = x / 2 ^ t := by
  unfold shr
  rw [Int.toNat_natCast, show min t IntKind.i64.bits = t from Nat.min_eq_left h]
theorem shl_at {y : Int} (h0 : 0 ≤ y) (h : y ≤ 64) : shl .i64 1 y = wrap64 (2 ^ y.toNat) := by
  unfold shl
  rw [show min y.toNat IntKind.i64.bits = y.toNat from Nat.min_eq_left (show y.toNat ≤ 64 by omega), Int.one_mul, IntKind.wrap_i64]
  unfold wrap64
  omega
set_option maxRecDepth 100000 in
set_option maxHeartbeats 2000000 in
theorem next_calls (bw b off n c0 s bl b2 off2 c2 : Nat) (nx last : List Int) (hl : last.length = nx.length) (hn : n = nx.length) (W : World) (hw : W.cell? ⟨bw, 0, none⟩ = some (.slice (some ⟨b, off, none⟩) n c0)) (hlc : W.cell? ⟨bl, 0, none⟩ = some (.slice (some ⟨b2, off2, none⟩) n c2))
    (hsn : s < n) (_hn : n ≤ 61) (hx : W.cell? ⟨b, off + s, none⟩ = some (.int .i64 (rd nx s))) (hy : ∀ i : Nat, i < n → W.cell? ⟨b2, off2 + i, none⟩ = some (.int .i64 (rd last i))) (hr : ∀ i : Nat, i < n → 0 ≤ rd last i ∧ rd last i < n) :
    Calls Try.prog 83 #[.int .i64 s, .pointer (some ⟨bl, 0, none⟩), .pointer (some ⟨bw, 0, none⟩)] W fun e w' => e = .returned (pairV (setKey nx last s)) ∧ Below W.heap.size W w' := by
  have hu := Try.underlying28
  have h1 : (s : Int) < (n : Int) := by omega
  have HY := Lib.hid hy
  have HR := Lib.hid hr
  have HN := Lib.hid hn
  have HL := Lib.hid hl
  have hys := hy s hsn
  clear hy hr hn hl
  go_enter Try.func83, Try.ntmps83
  go_wp2_with (first | ((with_reducible refine gate_dst (N := 4) rfl ?_); refine box_event ?hg (N := 4) ?hd (cs := #[.int .i64 0, .int .i64 0]) (t := 99) ?hr ?_; (case hd => rfl); (case hg => rfl); (case hr => kernel_rfl); intro gw hgw wb hbw hbb; have k0_ := pw_cell_below hbb hw; have k1_ := pw_cell_below hbb hx; have k2_ := pw_cell_below hbb hlc; have k3_ := pw_cell_below hbb hys; have HY2 := Lib.hid (show ∀ i : Nat, i < n → wb.cell? ⟨b2, off2 + i, none⟩ = some (.int .i64 (rd last i)) from fun i hi => pw_cell_below hbb (HY.out i hi)); clear hw hx hlc hys; have hw := k0_; have hx := k1_; have hlc := k2_; have hys := k3_; clear k0_ k1_ k2_ k3_; have HGW := Lib.hid (Nat.le_of_eq hgw.symm); have HB := Lib.hid hbb; have HBW := Lib.hid hbw; clear hbb hbw hgw HY) | fail)
  go_loop [5, 10] (fun v i => ∃ t : Nat, t ≤ n ∧ i = .int .i64 t ∧ v = .int .i64 (setTo nx last s t)) (fun _ i => n - (intOf i).toNat)
  case atStart => exact ⟨0, by omega, rfl, rfl⟩
  case round =>
    obtain ⟨t, ht, rfl, rfl⟩ := hrel
    by_cases hlt : t < n
    · have hy := HY2.out t hlt
      have hr := HR.out t hlt
      have hsh : ((t : Int)) < 64 := by omega
      by_cases hb : bits .and .i64 (shr .i64 (rd nx s) (t : Int)) 1 = 1
      · have HB3 := Lib.hid (show bits .or .i64 (setTo nx last s t) (wrap64 (2 ^ (rd last (t : Int)).toNat)) = setTo nx last s (t + 1) by rw [setTo, if_pos hb, shl_at hr.1 (by omega)])
        have hbb : (bits .and .i64 (rd nx s / 2 ^ t) 1 == 1) = true := by rw [← shr_at _ (show t ≤ 64 by omega)]; exact beq_iff_eq.2 hb
        clear hb
        go_wp2
        go_round
        case rel => exact ⟨t + 1, by omega, by go_num, by rw [← HB3.out]⟩
        case measure => simp [intOf]; omega
      · have HB3 := Lib.hid (show setTo nx last s t = setTo nx last s (t + 1) by rw [setTo, if_neg hb])
        have hbb : (bits .and .i64 (rd nx s / 2 ^ t) 1 == 1) = false := by rw [← shr_at _ (show t ≤ 64 by omega)]; exact beq_eq_false_iff_ne.2 hb
        clear hb
        go_wp2
        go_round
        case rel => exact ⟨t + 1, by omega, by go_num, by rw [← HB3.out]⟩
        case measure => simp [intOf]; omega
    · obtain rfl : t = n := by omega
      go_wp2_with (first | ((with_reducible refine gate_op (op := .store 99 (.tmp 4) (.tmp 34)) rfl ?_); refine whole_store_event rfl rfl 99 (.tmp 4) (.tmp 34) rfl (g := gw) (cur := #[.int .i64 0, .int .i64 0]) (pairV (rd last s, setTo nx last s t)) [.int .i64 (rd last s), .int .i64 (setTo nx last s t)] rfl rfl (pair_cells _ _) info99 rfl (pair_one _ _) HBW.out ?_; intro w1 hw1 hk1 hb1; have HB1 := Lib.hid (hb1 _ _ HB.out HGW.out); have g0 : w1.cell? ⟨gw, 0, none⟩ = some (.int .i64 (rd last s)) := (blk_cell hw1 0).trans rfl; have g1 : w1.cell? ⟨gw, 1, none⟩ = some (.int .i64 (setTo nx last s t)) := (blk_cell hw1 1).trans rfl; clear hw1 hk1 hb1 HB HBW) | fail)
      exact bodyPost_ret (v := pairV (rd last s, setTo nx last s t)) (by simp [results, Try.results83, go_sem, pairV, g0, g1, Result.andThen]) rfl ⟨by unfold setKey; rw [HL.out, ← HN.out], HB1.out⟩
end Go.Proofs.Ytjffhhalmicodaa.X
end

section
namespace Go.Proofs.Ytjffhhalmicodaa.PB
open Go.RowKit Go.Proofs.YtjffhhalmicodaaW.PrintWords Go.Proofs.YtjffhhalmicodaaW.PrintLast Go.Proofs.YtjffhhalmicodaaW.PrintMore
attribute [local go_sem] max2_int min2_int max_two min_two max_three min_three max_four min_four
set_option linter.unusedVariables false
set_option linter.unusedSimpArgs false
def errW : Option Int → Value
  | none => .nilIface
  | some c => .iface 0 (.int .i64 c)
theorem errW_none : errW none = .nilIface := rfl
theorem errW_some (c : Int) : errW (some c) = .iface 0 (.int .i64 c) := rfl
theorem info3 : (Try.prog.info? 3).map (fun i => (i.zero, i.size, i.bytes)) = some (some (.int .i64 0), 1, 8) := by kernel_rfl
end Go.Proofs.Ytjffhhalmicodaa.PB
end

section
namespace Go.Proofs.Ytjffhhalmicodaa.PB
open Go.RowKit Go.Proofs.YtjffhhalmicodaaW.PrintWords Go.Proofs.YtjffhhalmicodaaW.PrintLast Go.Proofs.YtjffhhalmicodaaW.PrintMore
attribute [local go_sem] max2_int min2_int max_two min_two max_three min_three max_four min_four
set_option linter.unusedVariables false
set_option linter.unusedSimpArgs false
mutual
def comfitref08_Valid.j0 : Nat → Int → Bool → List Int → List Int → Option (Bool)
  | 0, _, _, _, _ => none
  | k + 1, x3, x21, x121000, x121001 => if x21 = true then (some false) else (comfitref08_Valid.l0 k x3 x121000 (x121000.length : Int) 0 x121000 x121001)
def comfitref08_Valid.l0 : Nat → Int → List Int → Int → Int → List Int → List Int → Option (Bool)
  | 0, _, _, _, _, _, _ => none
  | k + 1, x3, x23, x24, x25, x121000, x121001 => if x25 < x24 then (if 0 ≤ x25 then (if x25 < (x23.length : Int) then (if (rd x23 x25) < 0 then (some false) else (if 0 ≤ x3 then (if (rd x23 x25) ≥ (shl .i64 1 x3) then (some false) else (if x25 < (x121001.length : Int) then (if (rd x121001 x25) < 0 then (some false) else (if (rd x121001 x25) > 15 then (some false) else (comfitref08_Valid.l0 k x3 x23 x24 (wrap64 (x25 + 1)) x121000 x121001))) else (none))) else (none))) else (none)) else (none)) else (some true)
end
def comfitref08_Valid.f (k : Nat) (l0_0 : List Int) (l0_1 : List Int) : Option (Bool) := if (l0_0.length : Int) < 1 then (comfitref08_Valid.j0 k (l0_0.length : Int) true l0_0 l0_1) else (if (l0_0.length : Int) > 6 then (comfitref08_Valid.j0 k (l0_0.length : Int) true l0_0 l0_1) else (comfitref08_Valid.j0 k (l0_0.length : Int) ((l0_1.length : Int) != (l0_0.length : Int)) l0_0 l0_1))
theorem comfitref08_Valid.mono_l : ∀ k, (∀ y0 y1 y2 y3, LeO (comfitref08_Valid.j0 k y0 y1 y2 y3) (comfitref08_Valid.j0 (k + 1) y0 y1 y2 y3)) ∧ (∀ y0 y1 y2 y3 y4 y5, LeO (comfitref08_Valid.l0 k y0 y1 y2 y3 y4 y5) (comfitref08_Valid.l0 (k + 1) y0 y1 y2 y3 y4 y5))
  | 0 => ⟨fun _ _ _ _ r h => by simp [comfitref08_Valid.j0] at h, fun _ _ _ _ _ _ r h => by simp [comfitref08_Valid.l0] at h⟩
  | k + 1 => by
    obtain ⟨ih0, ih1⟩ := comfitref08_Valid.mono_l k
    refine ⟨?_, ?_⟩
    · intro y0 y1 y2 y3
      unfold comfitref08_Valid.j0
      repeat' first
      | (with_reducible exact ih0 _ _ _ _)
      | (with_reducible exact ih1 _ _ _ _ _ _)
      | (with_reducible exact LeO.refl _)
      | (with_reducible exact LeO.none _)
      | (with_reducible refine LeO.ite ?_ ?_)
      | (with_reducible refine LeO.bind ?_ (fun _ => ?_))
      | exact ih0 _ _ _ _
      | exact ih1 _ _ _ _ _ _
      | exact LeO.none _
      | refine LeO.ite ?_ ?_
      | refine LeO.bind ?_ (fun _ => ?_)
    · intro y0 y1 y2 y3 y4 y5
      unfold comfitref08_Valid.l0
      repeat' first
      | (with_reducible exact ih0 _ _ _ _)
      | (with_reducible exact ih1 _ _ _ _ _ _)
      | (with_reducible exact LeO.refl _)
      | (with_reducible exact LeO.none _)
      | (with_reducible refine LeO.ite ?_ ?_)
      | (with_reducible refine LeO.bind ?_ (fun _ => ?_))
      | exact ih0 _ _ _ _
      | exact ih1 _ _ _ _ _ _
      | exact LeO.none _
      | refine LeO.ite ?_ ?_
      | refine LeO.bind ?_ (fun _ => ?_)
theorem comfitref08_Valid.mono : ∀ a0 a1 k, LeO (comfitref08_Valid.f k a0 a1) (comfitref08_Valid.f (k + 1) a0 a1) := by
  intro a0 a1 k
  obtain ⟨ih0, ih1⟩ := comfitref08_Valid.mono_l k
  unfold comfitref08_Valid.f
  repeat' first
      | (with_reducible exact ih0 _ _ _ _)
      | (with_reducible exact ih1 _ _ _ _ _ _)
      | (with_reducible exact LeO.refl _)
      | (with_reducible exact LeO.none _)
      | (with_reducible refine LeO.ite ?_ ?_)
      | (with_reducible refine LeO.bind ?_ (fun _ => ?_))
      | exact ih0 _ _ _ _
      | exact ih1 _ _ _ _ _ _
      | exact LeO.none _
      | refine LeO.ite ?_ ?_
      | refine LeO.bind ?_ (fun _ => ?_)
set_option maxHeartbeats 8000000 in
set_option maxRecDepth 100000 in
theorem comfitref08_Valid.calls (k : Nat) (A0_0 : Option Addr) (c0_0 : Nat) (l0_0 : List Int) (A0_1 : Option Addr) (c0_1 : Nat) (l0_1 : List Int) (r : Bool) (w : World) (hr0_0 : Kd.C (Kd.int .i64) w A0_0 l0_0.length l0_0) (hc0_0 : l0_0.length ≤ c0_0) (hr0_1 : Kd.C (Kd.int .i64) w A0_1 l0_1.length l0_1) (hc0_1 : l0_1.length ≤ c0_1) (h : comfitref08_Valid.f k l0_0 l0_1 = some r) :
    Calls Try.prog 21 #[.agg #[.slice A0_0 l0_0.length c0_0, .slice A0_1 l0_1.length c0_1]] w fun e w' => e = .returned (.bool r) ∧ Below w.heap.size w w' := by
  have hu24 := Try.underlying24
  have HR0_0 := Aside0.mk hr0_0
  have HC0_0 := Aside0.mk hc0_0
  clear hr0_0 hc0_0
  have HR0_1 := Aside0.mk hr0_1
  have HC0_1 := Aside0.mk hc0_1
  clear hr0_1 hc0_1
  have HB := Aside0.mk (Below.refl w.heap.size w)
  have H : (if (l0_0.length : Int) < 1 then (comfitref08_Valid.j0 k (l0_0.length : Int) true l0_0 l0_1) else (if (l0_0.length : Int) > 6 then (comfitref08_Valid.j0 k (l0_0.length : Int) true l0_0 l0_1) else (comfitref08_Valid.j0 k (l0_0.length : Int) ((l0_1.length : Int) != (l0_0.length : Int)) l0_0 l0_1))) = some r := h
  clear h
  have HC2 := Aside0.mk H
  clear H
  go_enter Try.func21, Try.ntmps21
  go_upto_region 2 with (first | ((with_reducible refine gate_dst (N := 1) rfl ?_); (try (refine gate_guard (by rfl) ?_; dsimp only)); refine box_event ?hg (N := 1) ?hd (cs := #[.slice A0_0 l0_0.length c0_0, .slice A0_1 l0_1.length c0_1]) (t := 24) ?hr ?_; (case hd => rfl); (case hg => rfl); (case hr => first | (go_simp; done) | (go_simp; rfl)); intro gb120 hg w3 hbox hb; have n0_ := Aside0.mk (below_step (by repeat (first | (with_reducible first | exact HB.out | apply below_alloc | apply pw_below_drewN | apply below_drew1) | exact HB.out)) hb); have n1_ := Aside0.mk (hbox); have n2_ := Aside0.mk ((by rw [hg]; exact (below_size (by repeat (first | (with_reducible first | exact HB.out | apply below_alloc | apply pw_below_drewN | apply below_drew1) | exact HB.out))) : w.heap.size ≤ gb120)); have n3_ := Aside0.mk ((by rw [hg]; exact (below_size (by repeat (first | (with_reducible first | exact HB.out | apply below_alloc | apply pw_below_drewN | apply below_drew1) | exact HB.out))) : w.heap.size ≤ gb120)); clear HB; have HB := n0_; have BK120 := n1_; have GW120 := n2_; have GE120 := n3_; clear n0_ n1_ n2_ n3_; clear hb hbox hg; have hcz4_0 : w3.cell? ⟨gb120, 0, none⟩ = some (.slice A0_0 l0_0.length c0_0) := (blk_cell BK120.out 0).trans rfl; have hcz4_1 : w3.cell? ⟨gb120, 1, none⟩ = some (.slice A0_1 l0_1.length c0_1) := (blk_cell BK120.out 1).trans rfl; have hfz4_0 := blk_frozen BK120.out 0; have hfz4_1 := blk_frozen BK120.out 1))
  (try simp only [Act.put, List.setIfInBounds_toArray, List.set_cons_zero, List.set_cons_succ])
  go_cut [21] (fun v21 wc => ∃ (kq : Nat) (x21_1 : Bool), v21 = .bool x21_1 ∧ Aside0 (comfitref08_Valid.j0 kq (l0_0.length : Int) x21_1 l0_0 l0_1 = some r) ∧ Aside0 (kq ≤ k) ∧ Aside0 (wc.heap[gb120]? = some (.cells #[(.slice A0_0 l0_0.length c0_0), (.slice A0_1 l0_1.length c0_1)] 24 (0, 0))) ∧ Aside0 (Below w.heap.size w wc))
  case first =>
    have H := HC2.out
    clear HC2
    by_cases c5 : (l0_0.length : Int) < 1
    · rw [if_pos c5] at H
      have c5b0 : decide ((l0_0.length : Int) < 1) = true := decide_eq_true c5
      have c5b1 : decide (l0_0.length < 1) = true := decide_eq_true (by omega)
      clear c5
      (first | rw [c5b0] | (simp only [i64_w, i32_w]; rw [c5b0]) | skip)
      have H' := Aside0.mk H
      clear H
      go_wp2
      go_meet
      case rel => exact ⟨_, (true), (by first | rfl | (simp; done) | (simp [*]; done)), H', ⟨by first | omega | exact Nat.le_refl _⟩, ⟨by (with_reducible repeat (first | refine blk_drewN ?_ _ | refine blk_drew ?_ | refine blk_alloc ?_ _)); exact BK120.out⟩, ⟨by repeat (first | (with_reducible first | exact HB.out | apply below_alloc | apply pw_below_drewN | apply below_drew1 | refine below_set ?_ GE120.out) | exact HB.out)⟩⟩
    · rw [if_neg c5] at H
      have c5b0 : decide ((l0_0.length : Int) < 1) = false := decide_eq_false c5
      have c5b1 : decide (l0_0.length < 1) = false := decide_eq_false (by omega)
      clear c5
      (first | rw [c5b0] | (simp only [i64_w, i32_w]; rw [c5b0]) | skip)
      by_cases c6 : (l0_0.length : Int) > 6
      · rw [if_pos c6] at H
        have c6b0 : decide (6 < (l0_0.length : Int)) = true := decide_eq_true c6
        have c6b1 : decide (6 < l0_0.length) = true := decide_eq_true (by omega)
        clear c6
        have H' := Aside0.mk H
        clear H
        go_wp2
        go_meet
        case rel => exact ⟨_, (true), (by first | rfl | (simp; done) | (simp [*]; done)), H', ⟨by first | omega | exact Nat.le_refl _⟩, ⟨by (with_reducible repeat (first | refine blk_drewN ?_ _ | refine blk_drew ?_ | refine blk_alloc ?_ _)); exact BK120.out⟩, ⟨by repeat (first | (with_reducible first | exact HB.out | apply below_alloc | apply pw_below_drewN | apply below_drew1 | refine below_set ?_ GE120.out) | exact HB.out)⟩⟩
      · rw [if_neg c6] at H
        have c6b0 : decide (6 < (l0_0.length : Int)) = false := decide_eq_false c6
        have c6b1 : decide (6 < l0_0.length) = false := decide_eq_false (by omega)
        clear c6
        have H' := Aside0.mk H
        clear H
        have hcz7_0 : w3.cell? ⟨gb120, 0, none⟩ = some (.slice A0_0 l0_0.length c0_0) := (blk_cell BK120.out 0).trans rfl
        have hcz7_1 : w3.cell? ⟨gb120, 1, none⟩ = some (.slice A0_1 l0_1.length c0_1) := (blk_cell BK120.out 1).trans rfl
        have hfz7_0 := blk_frozen BK120.out 0
        have hfz7_1 := blk_frozen BK120.out 1
        go_wp2
        go_meet
        case rel => exact ⟨_, (((l0_1.length : Int) != (l0_0.length : Int))), (by first | rfl | (simp; done) | (simp [*]; done)), H', ⟨by first | omega | exact Nat.le_refl _⟩, ⟨by (with_reducible repeat (first | refine blk_drewN ?_ _ | refine blk_drew ?_ | refine blk_alloc ?_ _)); exact BK120.out⟩, ⟨by repeat (first | (with_reducible first | exact HB.out | apply below_alloc | apply pw_below_drewN | apply below_drew1 | refine below_set ?_ GE120.out) | exact HB.out)⟩⟩
  case rest =>
    clear HC2
    try clear c2
    try clear p2
    try clear c5
    try clear c5b0
    try clear c5b1
    try clear c6
    try clear c6b0
    try clear c6b1
    try clear hcz4_0
    try clear hcz4_1
    try clear hcz7_0
    try clear hcz7_1
    try clear hfz4_0
    try clear hfz4_1
    try clear hfz7_0
    try clear hfz7_1
    obtain ⟨kq, x21_1, rfl, HA, HJ1, BK120, HB⟩ := hcut
    cases kq with
    | zero => exact absurd HA.out (by simp [comfitref08_Valid.j0])
    | succ kj1 =>
      have H := HA.out
      clear HA
      simp only [comfitref08_Valid.j0] at H
      by_cases c8 : x21_1 = true
      · subst c8
        have H1 : (some false) = some r := by rw [if_pos rfl] at H; exact H
        clear H
        have H := H1
        clear H1
        obtain rfl := Option.some.inj H
        go_wp2
        go_ret
        exact ⟨by first | rfl | (simp [errW_none, errW_some] <;> rfl) | (simp [*, errW_none, errW_some] <;> rfl), by repeat (first | (with_reducible first | exact HB.out | apply below_alloc | apply pw_below_drewN | apply below_drew1 | refine below_set ?_ GE120.out) | exact HB.out)⟩
      · replace c8 := Bool.eq_false_iff.mpr c8
        subst c8
        have H1 : (comfitref08_Valid.l0 kj1 (l0_0.length : Int) l0_0 (l0_0.length : Int) 0 l0_0 l0_1) = some r := by rw [if_neg (show ¬ (false = true) by decide)] at H; exact H
        clear H
        have H := H1
        clear H1
        have H' := Aside0.mk H
        clear H
        have hcz9_0 : wc.cell? ⟨gb120, 0, none⟩ = some (.slice A0_0 l0_0.length c0_0) := (blk_cell BK120.out 0).trans rfl
        have hcz9_1 : wc.cell? ⟨gb120, 1, none⟩ = some (.slice A0_1 l0_1.length c0_1) := (blk_cell BK120.out 1).trans rfl
        have hfz9_0 := blk_frozen BK120.out 0
        have hfz9_1 := blk_frozen BK120.out 1
        go_wp2
        go_loopg [25] kj1 (fun kq v25 w' => ∃ (x25_2 : Int), v25 = .int .i64 x25_2 ∧ Aside0 (comfitref08_Valid.l0 kq (l0_0.length : Int) l0_0 (l0_0.length : Int) x25_2 l0_0 l0_1 = some r) ∧ Aside0 (kq ≤ kj1) ∧ Aside0 (w'.heap[gb120]? = some (.cells #[(.slice A0_0 l0_0.length c0_0), (.slice A0_1 l0_1.length c0_1)] 24 (0, 0))) ∧ Aside0 (Below w.heap.size w w'))
        case atStart => exact ⟨(0), (by first | rfl | (simp; done) | (simp [*]; done)), H', ⟨Nat.le_refl _⟩, ⟨by (with_reducible repeat (first | refine blk_drewN ?_ _ | refine blk_drew ?_ | refine blk_alloc ?_ _)); exact BK120.out⟩, ⟨by repeat (first | (with_reducible first | exact HB.out | apply below_alloc | apply pw_below_drewN | apply below_drew1 | refine below_set ?_ GE120.out) | exact HB.out)⟩⟩
        case round =>
          clear H'
          try clear c2
          try clear p2
          try clear c5
          try clear c5b0
          try clear c5b1
          try clear c6
          try clear c6b0
          try clear c6b1
          try clear c8
          try clear hcz4_0
          try clear hcz4_1
          try clear hcz7_0
          try clear hcz7_1
          try clear hcz9_0
          try clear hcz9_1
          try clear hfz4_0
          try clear hfz4_1
          try clear hfz7_0
          try clear hfz7_1
          try clear hfz9_0
          try clear hfz9_1
          try clear p2
          obtain ⟨x25_2, rfl, HA, HK2, BK120, HB⟩ := hrel
          cases gk with
          | zero => exact absurd HA.out (by simp [comfitref08_Valid.l0])
          | succ k2 =>
            have H := HA.out
            clear HA
            simp only [comfitref08_Valid.l0] at H
            by_cases c10 : x25_2 < (l0_0.length : Int)
            · rw [if_pos c10] at H
              have c10b0 : decide (x25_2 < (l0_0.length : Int)) = true := decide_eq_true c10
              clear c10
              by_cases c11 : 0 ≤ x25_2
              · rw [if_pos c11] at H
                have c11b0 : decide (0 ≤ x25_2) = true := decide_eq_true c11
                clear c11
                by_cases c12 : x25_2 < (l0_0.length : Int)
                · rw [if_pos c12] at H
                  have c12b0 : decide (x25_2 < (l0_0.length : Int)) = true := decide_eq_true c12
                  clear c12
                  by_cases c13 : (rd l0_0 x25_2) < 0
                  · rw [if_pos c13] at H
                    have c13b0 : decide ((rd l0_0 x25_2) < 0) = true := decide_eq_true c13
                    clear c13
                    obtain rfl := Option.some.inj H
                    have p121 : 0 ≤ (x25_2 : Int) := of_decide_eq_true (by first | (with_reducible assumption) | assumption)
                    have q121 : x25_2 < (l0_0.length : Int) := of_decide_eq_true (by first | (with_reducible assumption) | assumption)
                    obtain ⟨ad121, e121, hx121_0⟩ := Kd.at_int HR0_0.out x25_2 p121 q121
                    cases e121
                    replace hx121_0 := (HB.out.cell (World.block_lt_of_cell? w _ hx121_0)).trans hx121_0
                    replace p121 := eq_true p121
                    replace q121 := eq_true q121
                    go_wp2
                    go_ret
                    exact ⟨by first | rfl | (simp [errW_none, errW_some] <;> rfl) | (simp [*, errW_none, errW_some] <;> rfl), by repeat (first | (with_reducible first | exact HB.out | apply below_alloc | apply pw_below_drewN | apply below_drew1 | refine below_set ?_ GE120.out) | exact HB.out)⟩
                  · rw [if_neg c13] at H
                    have c13b0 : decide ((rd l0_0 x25_2) < 0) = false := decide_eq_false c13
                    clear c13
                    by_cases c14 : 0 ≤ (l0_0.length : Int)
                    · rw [if_pos c14] at H
                      have c14b0 := eq_true c14
                      have c14b1 : decide (0 ≤ (l0_0.length : Int)) = true := decide_eq_true c14
                      clear c14
                      obtain ⟨ji15, hji15⟩ : ∃ j_ : Int, (shl .i64 1 (l0_0.length : Int)) = j_ := ⟨_, rfl⟩
                      replace H : (if (rd l0_0 x25_2) ≥ (ji15) then (some false) else (if x25_2 < (l0_1.length : Int) then (if (rd l0_1 x25_2) < 0 then (some false) else (if (rd l0_1 x25_2) > 15 then (some false) else (comfitref08_Valid.l0 k2 (l0_0.length : Int) l0_0 (l0_0.length : Int) (wrap64 (x25_2 + 1)) l0_0 l0_1))) else (none))) = some r := by first | (rw [hji15] at H; exact H) | (simp only [hji15] at H ⊢; exact H)
                      have hji15_ : (IntKind.i64.wrap (1 * 2 ^ min (l0_0.length : Int).toNat 64)) = ji15 := hji15
                      have hji15z : (l0_0.length : Int) ≤ 64 → (IntKind.i64.wrap (1 * 2 ^ (l0_0.length : Int).toNat)) = ji15 := shl_small hji15
                      have hji15p : (IntKind.i64.wrap (1 * 2 ^ min l0_0.length 64)) = ji15 := hji15_
                      have hji15q : (l0_0.length : Int) ≤ 64 → (IntKind.i64.wrap (1 * 2 ^ l0_0.length)) = ji15 := hji15z
                      have hji15r : (IntKind.i64.wrap (2 ^ min l0_0.length 64)) = ji15 := by have h_ := hji15p; rw [Int.one_mul] at h_; exact h_
                      have hji15s : (l0_0.length : Int) ≤ 64 → (IntKind.i64.wrap (2 ^ l0_0.length)) = ji15 := fun hle_ => by have h_ := hji15q hle_; rw [Int.one_mul] at h_; exact h_
                      have hji15u : (IntKind.i64.wrap (2 ^ min (l0_0.length : Int).toNat 64)) = ji15 := by have h_ := hji15_; rw [Int.one_mul] at h_; exact h_
                      have hji15v : (l0_0.length : Int) ≤ 64 → (IntKind.i64.wrap (2 ^ (l0_0.length : Int).toNat)) = ji15 := fun hle_ => by have h_ := hji15z hle_; rw [Int.one_mul] at h_; exact h_
                      have hji15y : (wrap64 (1 * 2 ^ min (l0_0.length : Int).toNat 64)) = ji15 := (i64_w _).symm.trans hji15_
                      have hji15x : (l0_0.length : Int) ≤ 64 → (wrap64 (1 * 2 ^ (l0_0.length : Int).toNat)) = ji15 := fun h_ => (i64_w _).symm.trans (hji15z h_)
                      by_cases c16 : (rd l0_0 x25_2) ≥ (ji15)
                      · rw [if_pos c16] at H
                        have c16b0 : decide ((ji15) ≤ (rd l0_0 x25_2)) = true := decide_eq_true c16
                        clear c16
                        obtain rfl := Option.some.inj H
                        have p121 : 0 ≤ (x25_2 : Int) := of_decide_eq_true (by first | (with_reducible assumption) | assumption)
                        have q121 : x25_2 < (l0_0.length : Int) := of_decide_eq_true (by first | (with_reducible assumption) | assumption)
                        obtain ⟨ad121, e121, hx121_0⟩ := Kd.at_int HR0_0.out x25_2 p121 q121
                        cases e121
                        replace hx121_0 := (HB.out.cell (World.block_lt_of_cell? w _ hx121_0)).trans hx121_0
                        replace p121 := eq_true p121
                        replace q121 := eq_true q121
                        go_wp2
                        go_ret
                        exact ⟨by first | rfl | (simp [errW_none, errW_some] <;> rfl) | (simp only [← hji15]; first | rfl | (simp [errW_none, errW_some] <;> rfl)) | (simp [*, errW_none, errW_some] <;> rfl), by repeat (first | (with_reducible first | exact HB.out | apply below_alloc | apply pw_below_drewN | apply below_drew1 | refine below_set ?_ GE120.out) | exact HB.out)⟩
                      · rw [if_neg c16] at H
                        have c16b0 : decide ((ji15) ≤ (rd l0_0 x25_2)) = false := decide_eq_false c16
                        clear c16
                        by_cases c17 : x25_2 < (l0_1.length : Int)
                        · rw [if_pos c17] at H
                          have c17b0 : decide (x25_2 < (l0_1.length : Int)) = true := decide_eq_true c17
                          clear c17
                          by_cases c18 : (rd l0_1 x25_2) < 0
                          · rw [if_pos c18] at H
                            have c18b0 : decide ((rd l0_1 x25_2) < 0) = true := decide_eq_true c18
                            clear c18
                            obtain rfl := Option.some.inj H
                            have p121 : 0 ≤ (x25_2 : Int) := of_decide_eq_true (by first | (with_reducible assumption) | assumption)
                            have q121 : x25_2 < (l0_0.length : Int) := of_decide_eq_true (by first | (with_reducible assumption) | assumption)
                            obtain ⟨ad121, e121, hx121_0⟩ := Kd.at_int HR0_0.out x25_2 p121 q121
                            cases e121
                            replace hx121_0 := (HB.out.cell (World.block_lt_of_cell? w _ hx121_0)).trans hx121_0
                            replace p121 := eq_true p121
                            replace q121 := eq_true q121
                            have hcz19_0 : wr.cell? ⟨gb120, 0, none⟩ = some (.slice (some ad121) l0_0.length c0_0) := (blk_cell BK120.out 0).trans rfl
                            have hcz19_1 : wr.cell? ⟨gb120, 1, none⟩ = some (.slice A0_1 l0_1.length c0_1) := (blk_cell BK120.out 1).trans rfl
                            have hfz19_0 := blk_frozen BK120.out 0
                            have hfz19_1 := blk_frozen BK120.out 1
                            have p122 : 0 ≤ (x25_2 : Int) := of_decide_eq_true (by first | (with_reducible assumption) | assumption)
                            have q122 : x25_2 < (l0_1.length : Int) := of_decide_eq_true (by first | (with_reducible assumption) | assumption)
                            obtain ⟨ad122, e122, hx122_0⟩ := Kd.at_int HR0_1.out x25_2 p122 q122
                            cases e122
                            replace hx122_0 := (HB.out.cell (World.block_lt_of_cell? w _ hx122_0)).trans hx122_0
                            replace p122 := eq_true p122
                            replace q122 := eq_true q122
                            go_wp2
                            go_ret
                            exact ⟨by first | rfl | (simp [errW_none, errW_some] <;> rfl) | (simp only [← hji15]; first | rfl | (simp [errW_none, errW_some] <;> rfl)) | (simp [*, errW_none, errW_some] <;> rfl), by repeat (first | (with_reducible first | exact HB.out | apply below_alloc | apply pw_below_drewN | apply below_drew1 | refine below_set ?_ GE120.out) | exact HB.out)⟩
                          · rw [if_neg c18] at H
                            have c18b0 : decide ((rd l0_1 x25_2) < 0) = false := decide_eq_false c18
                            clear c18
                            by_cases c20 : (rd l0_1 x25_2) > 15
                            · rw [if_pos c20] at H
                              have c20b0 : decide (15 < (rd l0_1 x25_2)) = true := decide_eq_true c20
                              clear c20
                              obtain rfl := Option.some.inj H
                              have p121 : 0 ≤ (x25_2 : Int) := of_decide_eq_true (by first | (with_reducible assumption) | assumption)
                              have q121 : x25_2 < (l0_0.length : Int) := of_decide_eq_true (by first | (with_reducible assumption) | assumption)
                              obtain ⟨ad121, e121, hx121_0⟩ := Kd.at_int HR0_0.out x25_2 p121 q121
                              cases e121
                              replace hx121_0 := (HB.out.cell (World.block_lt_of_cell? w _ hx121_0)).trans hx121_0
                              replace p121 := eq_true p121
                              replace q121 := eq_true q121
                              have hcz21_0 : wr.cell? ⟨gb120, 0, none⟩ = some (.slice (some ad121) l0_0.length c0_0) := (blk_cell BK120.out 0).trans rfl
                              have hcz21_1 : wr.cell? ⟨gb120, 1, none⟩ = some (.slice A0_1 l0_1.length c0_1) := (blk_cell BK120.out 1).trans rfl
                              have hfz21_0 := blk_frozen BK120.out 0
                              have hfz21_1 := blk_frozen BK120.out 1
                              have p122 : 0 ≤ (x25_2 : Int) := of_decide_eq_true (by first | (with_reducible assumption) | assumption)
                              have q122 : x25_2 < (l0_1.length : Int) := of_decide_eq_true (by first | (with_reducible assumption) | assumption)
                              obtain ⟨ad122, e122, hx122_0⟩ := Kd.at_int HR0_1.out x25_2 p122 q122
                              cases e122
                              replace hx122_0 := (HB.out.cell (World.block_lt_of_cell? w _ hx122_0)).trans hx122_0
                              replace p122 := eq_true p122
                              replace q122 := eq_true q122
                              have p123 : 0 ≤ (x25_2 : Int) := of_decide_eq_true (by first | (with_reducible assumption) | assumption)
                              have q123 : x25_2 < (l0_1.length : Int) := of_decide_eq_true (by first | (with_reducible assumption) | assumption)
                              obtain ⟨ad123, e123, hx123_0⟩ := Kd.at_int HR0_1.out x25_2 p123 q123
                              obtain rfl : ad122 = ad123 := (by injection e123)
                              replace hx123_0 := (HB.out.cell (World.block_lt_of_cell? w _ hx123_0)).trans hx123_0
                              replace p123 := eq_true p123
                              replace q123 := eq_true q123
                              go_wp2
                              go_ret
                              exact ⟨by first | rfl | (simp [errW_none, errW_some] <;> rfl) | (simp only [← hji15]; first | rfl | (simp [errW_none, errW_some] <;> rfl)) | (simp [*, errW_none, errW_some] <;> rfl), by repeat (first | (with_reducible first | exact HB.out | apply below_alloc | apply pw_below_drewN | apply below_drew1 | refine below_set ?_ GE120.out) | exact HB.out)⟩
                            · rw [if_neg c20] at H
                              have c20b0 : decide (15 < (rd l0_1 x25_2)) = false := decide_eq_false c20
                              clear c20
                              have H' := Aside0.mk H
                              clear H
                              have p121 : 0 ≤ (x25_2 : Int) := of_decide_eq_true (by first | (with_reducible assumption) | assumption)
                              have q121 : x25_2 < (l0_0.length : Int) := of_decide_eq_true (by first | (with_reducible assumption) | assumption)
                              obtain ⟨ad121, e121, hx121_0⟩ := Kd.at_int HR0_0.out x25_2 p121 q121
                              cases e121
                              replace hx121_0 := (HB.out.cell (World.block_lt_of_cell? w _ hx121_0)).trans hx121_0
                              replace p121 := eq_true p121
                              replace q121 := eq_true q121
                              have hcz22_0 : wr.cell? ⟨gb120, 0, none⟩ = some (.slice (some ad121) l0_0.length c0_0) := (blk_cell BK120.out 0).trans rfl
                              have hcz22_1 : wr.cell? ⟨gb120, 1, none⟩ = some (.slice A0_1 l0_1.length c0_1) := (blk_cell BK120.out 1).trans rfl
                              have hfz22_0 := blk_frozen BK120.out 0
                              have hfz22_1 := blk_frozen BK120.out 1
                              have p122 : 0 ≤ (x25_2 : Int) := of_decide_eq_true (by first | (with_reducible assumption) | assumption)
                              have q122 : x25_2 < (l0_1.length : Int) := of_decide_eq_true (by first | (with_reducible assumption) | assumption)
                              obtain ⟨ad122, e122, hx122_0⟩ := Kd.at_int HR0_1.out x25_2 p122 q122
                              cases e122
                              replace hx122_0 := (HB.out.cell (World.block_lt_of_cell? w _ hx122_0)).trans hx122_0
                              replace p122 := eq_true p122
                              replace q122 := eq_true q122
                              have p123 : 0 ≤ (x25_2 : Int) := of_decide_eq_true (by first | (with_reducible assumption) | assumption)
                              have q123 : x25_2 < (l0_1.length : Int) := of_decide_eq_true (by first | (with_reducible assumption) | assumption)
                              obtain ⟨ad123, e123, hx123_0⟩ := Kd.at_int HR0_1.out x25_2 p123 q123
                              obtain rfl : ad122 = ad123 := (by injection e123)
                              replace hx123_0 := (HB.out.cell (World.block_lt_of_cell? w _ hx123_0)).trans hx123_0
                              replace p123 := eq_true p123
                              replace q123 := eq_true q123
                              go_wp2
                              go_roundg k2
                              case measure => have := HJ1.out; have := HK2.out; omega
                              case rel => exact ⟨(wrap64 (x25_2 + 1)), (by first | rfl | (simp; done) | (simp [*]; done)), H', ⟨by have := HJ1.out; have := HK2.out; omega⟩, ⟨by (with_reducible repeat (first | refine blk_drewN ?_ _ | refine blk_drew ?_ | refine blk_alloc ?_ _)); exact BK120.out⟩, ⟨by repeat (first | (with_reducible first | exact HB.out | apply below_alloc | apply pw_below_drewN | apply below_drew1 | refine below_set ?_ GE120.out) | exact HB.out)⟩⟩
                        · rw [if_neg c17] at H
                          exact absurd H (by simp)
                    · rw [if_neg c14] at H
                      exact absurd H (by simp)
                · rw [if_neg c12] at H
                  exact absurd H (by simp)
              · rw [if_neg c11] at H
                exact absurd H (by simp)
            · rw [if_neg c10] at H
              have c10b0 : decide (x25_2 < (l0_0.length : Int)) = false := decide_eq_false c10
              clear c10
              obtain rfl := Option.some.inj H
              go_wp2
              go_ret
              exact ⟨by first | rfl | (simp [errW_none, errW_some] <;> rfl) | (simp [*, errW_none, errW_some] <;> rfl), by repeat (first | (with_reducible first | exact HB.out | apply below_alloc | apply pw_below_drewN | apply below_drew1 | refine below_set ?_ GE120.out) | exact HB.out)⟩
def comfitlaw08_awake.f (k : Nat)  : Option (Bool) := (Go.Proofs.Ytjffhhalmicodaa.X.fixes_Holds.f k (([2, 1] : List Int)) (([0, 1] : List Int)) (⟨#[48]⟩ : ByteArray)).bind fun bt130 => (if bt130.1 = 2 then (some (bt130.2 == 0)) else (some false))
theorem comfitlaw08_awake.mono : ∀ k, LeO (comfitlaw08_awake.f k ) (comfitlaw08_awake.f (k + 1) ) := by
  intro  k
  unfold comfitlaw08_awake.f
  repeat' first
      | (with_reducible exact Go.Proofs.Ytjffhhalmicodaa.X.fixes_Holds.mono _ _ _ _)
      | (with_reducible exact LeO.refl _)
      | (with_reducible exact LeO.none _)
      | (with_reducible refine LeO.ite ?_ ?_)
      | (with_reducible refine LeO.bind ?_ (fun _ => ?_))
      | exact Go.Proofs.Ytjffhhalmicodaa.X.fixes_Holds.mono _ _ _ _
      | exact LeO.none _
      | refine LeO.ite ?_ ?_
      | refine LeO.bind ?_ (fun _ => ?_)
set_option maxHeartbeats 8000000 in
set_option maxRecDepth 100000 in
theorem comfitlaw08_awake.calls (k : Nat)  (r : Bool) (w : World) (h : comfitlaw08_awake.f k  = some r) :
    Calls Try.prog 22 #[] w fun e w' => e = .returned (.bool r) ∧ Below w.heap.size w w' := by
  have hu28 := Try.underlying28
  have HB := Aside0.mk (Below.refl w.heap.size w)
  have H : ((Go.Proofs.Ytjffhhalmicodaa.X.fixes_Holds.f k (([2, 1] : List Int)) (([0, 1] : List Int)) (⟨#[48]⟩ : ByteArray)).bind fun bt130 => (if bt130.1 = 2 then (some (bt130.2 == 0)) else (some false))) = some r := h
  clear h
  obtain ⟨y124, hy124⟩ : ∃ y_ : List Int, y_ = (([2, 1] : List Int)) := ⟨_, rfl⟩
  replace H : ((Go.Proofs.Ytjffhhalmicodaa.X.fixes_Holds.f k y124 (([0, 1] : List Int)) (⟨#[48]⟩ : ByteArray)).bind fun bt130 => (if bt130.1 = 2 then (some (bt130.2 == 0)) else (some false))) = some r := by first | (rw [hy124]; with_reducible exact H) | (have H2_ := (Option.bind_some _ _).symm.trans H; rw [hy124]; with_reducible exact H2_) | (have H2_ := (Option.bind_some _ _).symm.trans H; with_reducible exact H2_) | with_reducible exact H | (rw [hy124]; exact H) | exact H
  have Ny124 := Aside0.mk hy124
  clear hy124
  obtain ⟨y127, hy127⟩ : ∃ y_ : List Int, y_ = (([0, 1] : List Int)) := ⟨_, rfl⟩
  replace H : ((Go.Proofs.Ytjffhhalmicodaa.X.fixes_Holds.f k y124 y127 (⟨#[48]⟩ : ByteArray)).bind fun bt130 => (if bt130.1 = 2 then (some (bt130.2 == 0)) else (some false))) = some r := by first | (rw [hy127]; with_reducible exact H) | (have H2_ := (Option.bind_some _ _).symm.trans H; rw [hy127]; with_reducible exact H2_) | (have H2_ := (Option.bind_some _ _).symm.trans H; with_reducible exact H2_) | with_reducible exact H | (rw [hy127]; exact H) | exact H
  have Ny127 := Aside0.mk hy127
  clear hy127
  replace H := Option.bind_eq_some_iff.mp H
  obtain ⟨⟨t130, t131⟩, A10, H⟩ := H
  replace H : (if t130 = 2 then (some (t131 == 0)) else (some false)) = some r := H
  have A1 := Aside0.mk A10
  clear A10
  by_cases c2 : t130 = 2
  · rw [if_pos c2] at H
    have c2b0 : (t130 == 2) = true := beq_iff_eq.mpr c2
    have c2b1 : (t130 != 2) = false := bne_eq_false_iff_eq.mpr c2
    clear c2
    obtain rfl := Option.some.inj H
    go_enter Try.func22, Try.ntmps22
    go_wp2_with (first | ((with_reducible refine gate_dst (N := 4) rfl ?_); refine Kd.R_lit (Kd.int .i64) _ 3 ?hg (N := 4) ?hd (xs := ([2, 1] : List Int)) (inner := [.int .i64 2, .int .i64 1]) (ok := fun _ => True) (okp := fun _ => True) ?hr ?hp (fun _ hk => hk) trivial (Below.refl _ _) (Nat.le_refl _) (by simp) ?_; (case hd => rfl); (case hg => rfl); (case hr => first | (go_simp; done) | (go_simp; rfl)); (case hp => exact (Reps.one (show Kd.M (Kd.int .i64) _ _ _ 2 [.int .i64 2] from rfl) (Reps.one (show Kd.M (Kd.int .i64) _ _ _ 1 [.int .i64 1] from rfl) (Reps.none _ _)))); intro v125 w3 ho4 hb hg_ hnew_; clear hg_ hnew_; (first | rw [← Ny124.out] at ho4 | (simp only [Int.reduceToNat] at ho4; rw [← Ny124.out] at ho4)); have n0_ := Aside0.mk (Kd.R_lower ho4 (below_size (by repeat (first | (with_reducible first | exact HB.out | apply below_alloc | apply pw_below_drewN | apply below_drew1) | exact HB.out)))); have n1_ := Aside0.mk (below_step (by repeat (first | (with_reducible first | exact HB.out | apply below_alloc | apply pw_below_drewN | apply below_drew1) | exact HB.out)) hb); clear HB; have HO126 := n0_; have HB := n1_; clear n0_ n1_; clear hb ho4) | ((with_reducible refine gate_dst (N := 5) rfl ?_); refine Kd.R_lit (Kd.int .i64) _ 3 ?hg (N := 5) ?hd (xs := ([0, 1] : List Int)) (inner := [.int .i64 0, .int .i64 1]) (ok := fun _ => True) (okp := fun _ => True) ?hr ?hp (fun _ hk => hk) trivial (Below.refl _ _) (Nat.le_refl _) (by simp) ?_; (case hd => rfl); (case hg => rfl); (case hr => first | (go_simp; done) | (go_simp; rfl)); (case hp => exact (Reps.one (show Kd.M (Kd.int .i64) _ _ _ 0 [.int .i64 0] from rfl) (Reps.one (show Kd.M (Kd.int .i64) _ _ _ 1 [.int .i64 1] from rfl) (Reps.none _ _)))); intro v128 w5 ho6 hb hg_ hnew_; clear hg_ hnew_; (first | rw [← Ny127.out] at ho6 | (simp only [Int.reduceToNat] at ho6; rw [← Ny127.out] at ho6)); have n0_ := Aside0.mk (Kd.R_elder' (by (with_reducible repeat (first | apply Kd.R_alloc | apply Kd.R_drewN | apply Kd.R_drew)); exact HO126.out) (Kd.R_base ho6) hb); have n1_ := Aside0.mk (Kd.R_lower (Kd.R_new' ho6 (Kd.R_lt (by (with_reducible repeat (first | apply Kd.R_alloc | apply Kd.R_drewN | apply Kd.R_drew)); exact HO126.out))) (below_size (by repeat (first | (with_reducible first | exact HB.out | apply below_alloc | apply pw_below_drewN | apply below_drew1) | exact HB.out)))); have n2_ := Aside0.mk (below_step (by repeat (first | (with_reducible first | exact HB.out | apply below_alloc | apply pw_below_drewN | apply below_drew1) | exact HB.out)) hb); clear HO126; clear HB; have HO126 := n0_; have HO129 := n1_; have HB := n2_; clear n0_ n1_ n2_; clear hb ho6; obtain ⟨Ao7, co7, eo7⟩ := Kd.R_slice HO129.out; subst eo7; obtain ⟨Ao8, co8, eo8⟩ := Kd.R_slice HO126.out; subst eo8) | ((with_reducible refine gate_callee (f := 16) rfl ?_); refine goesL_ (some 7) rfl rfl Try.func16 (by kernel_rfl) rfl #[.agg #[.slice Ao8 y124.length co8, .slice Ao7 y127.length co7], .string (⟨#[48]⟩ : ByteArray)] rfl (by (try simp only [List.map_toArray, List.map_cons, List.map_nil]); first | done | rfl | (simp only [List.length_drop, List.length_take]; rfl)) ?_; (with_reducible refine (Go.Proofs.Ytjffhhalmicodaa.X.fixes_Holds.calls k _ _ y124 _ _ y127 (⟨#[48]⟩ : ByteArray) t130 t131 _ ?side1 ?side2 ?side3 ?side4 A1.out).mono ?_); (case side1 => repeat (first | exact (Kd.R_reads' HO126.out).2.2 | (with_reducible refine Kd.C_alloc ?_ _) | (with_reducible refine Kd.C_drewN ?_ _) | (with_reducible refine Kd.C_drew ?_))); (case side2 => exact (Kd.R_reads' HO126.out).2.1); (case side3 => repeat (first | exact (Kd.R_reads' HO129.out).2.2 | (with_reducible refine Kd.C_alloc ?_ _) | (with_reducible refine Kd.C_drewN ?_ _) | (with_reducible refine Kd.C_drew ?_))); (case side4 => exact (Kd.R_reads' HO129.out).2.1); rintro e w9 ⟨rfl, hb⟩; refine ⟨_, rfl, ?_⟩; have n0_ := Aside0.mk (Kd.R_below (by (with_reducible repeat (first | apply Kd.R_alloc | apply Kd.R_drewN | apply Kd.R_drew)); exact HO126.out) hb); have n1_ := Aside0.mk (Kd.R_below (by (with_reducible repeat (first | apply Kd.R_alloc | apply Kd.R_drewN | apply Kd.R_drew)); exact HO129.out) hb); have n2_ := Aside0.mk (below_step (by repeat (first | (with_reducible first | exact HB.out | apply below_alloc | apply pw_below_drewN | apply below_drew1) | exact HB.out)) hb); clear HO126; clear HO129; clear HB; have HO126 := n0_; have HO129 := n1_; have HB := n2_; clear n0_ n1_ n2_; (try clear hb); (try clear hb2); (try clear hk); (try clear hi)))
    go_ret
    exact ⟨by first | rfl | (simp [errW_none, errW_some] <;> rfl) | (simp [*, errW_none, errW_some] <;> rfl), by repeat (first | (with_reducible first | exact HB.out | apply below_alloc | apply pw_below_drewN | apply below_drew1) | exact HB.out)⟩
  · rw [if_neg c2] at H
    have c2b0 : (t130 == 2) = false := beq_eq_false_iff_ne.mpr c2
    have c2b1 : (t130 != 2) = true := bne_iff_ne.mpr c2
    obtain rfl := Option.some.inj H
    go_enter Try.func22, Try.ntmps22
    go_wp2_with (first | ((with_reducible refine gate_dst (N := 4) rfl ?_); refine Kd.R_lit (Kd.int .i64) _ 3 ?hg (N := 4) ?hd (xs := ([2, 1] : List Int)) (inner := [.int .i64 2, .int .i64 1]) (ok := fun _ => True) (okp := fun _ => True) ?hr ?hp (fun _ hk => hk) trivial (Below.refl _ _) (Nat.le_refl _) (by simp) ?_; (case hd => rfl); (case hg => rfl); (case hr => first | (go_simp; done) | (go_simp; rfl)); (case hp => exact (Reps.one (show Kd.M (Kd.int .i64) _ _ _ 2 [.int .i64 2] from rfl) (Reps.one (show Kd.M (Kd.int .i64) _ _ _ 1 [.int .i64 1] from rfl) (Reps.none _ _)))); intro v125 w10 ho11 hb hg_ hnew_; clear hg_ hnew_; (first | rw [← Ny124.out] at ho11 | (simp only [Int.reduceToNat] at ho11; rw [← Ny124.out] at ho11)); have n0_ := Aside0.mk (Kd.R_lower ho11 (below_size (by repeat (first | (with_reducible first | exact HB.out | apply below_alloc | apply pw_below_drewN | apply below_drew1) | exact HB.out)))); have n1_ := Aside0.mk (below_step (by repeat (first | (with_reducible first | exact HB.out | apply below_alloc | apply pw_below_drewN | apply below_drew1) | exact HB.out)) hb); clear HB; have HO126 := n0_; have HB := n1_; clear n0_ n1_; clear hb ho11) | ((with_reducible refine gate_dst (N := 5) rfl ?_); refine Kd.R_lit (Kd.int .i64) _ 3 ?hg (N := 5) ?hd (xs := ([0, 1] : List Int)) (inner := [.int .i64 0, .int .i64 1]) (ok := fun _ => True) (okp := fun _ => True) ?hr ?hp (fun _ hk => hk) trivial (Below.refl _ _) (Nat.le_refl _) (by simp) ?_; (case hd => rfl); (case hg => rfl); (case hr => first | (go_simp; done) | (go_simp; rfl)); (case hp => exact (Reps.one (show Kd.M (Kd.int .i64) _ _ _ 0 [.int .i64 0] from rfl) (Reps.one (show Kd.M (Kd.int .i64) _ _ _ 1 [.int .i64 1] from rfl) (Reps.none _ _)))); intro v128 w12 ho13 hb hg_ hnew_; clear hg_ hnew_; (first | rw [← Ny127.out] at ho13 | (simp only [Int.reduceToNat] at ho13; rw [← Ny127.out] at ho13)); have n0_ := Aside0.mk (Kd.R_elder' (by (with_reducible repeat (first | apply Kd.R_alloc | apply Kd.R_drewN | apply Kd.R_drew)); exact HO126.out) (Kd.R_base ho13) hb); have n1_ := Aside0.mk (Kd.R_lower (Kd.R_new' ho13 (Kd.R_lt (by (with_reducible repeat (first | apply Kd.R_alloc | apply Kd.R_drewN | apply Kd.R_drew)); exact HO126.out))) (below_size (by repeat (first | (with_reducible first | exact HB.out | apply below_alloc | apply pw_below_drewN | apply below_drew1) | exact HB.out)))); have n2_ := Aside0.mk (below_step (by repeat (first | (with_reducible first | exact HB.out | apply below_alloc | apply pw_below_drewN | apply below_drew1) | exact HB.out)) hb); clear HO126; clear HB; have HO126 := n0_; have HO129 := n1_; have HB := n2_; clear n0_ n1_ n2_; clear hb ho13; obtain ⟨Ao14, co14, eo14⟩ := Kd.R_slice HO129.out; subst eo14; obtain ⟨Ao15, co15, eo15⟩ := Kd.R_slice HO126.out; subst eo15) | ((with_reducible refine gate_callee (f := 16) rfl ?_); refine goesL_ (some 7) rfl rfl Try.func16 (by kernel_rfl) rfl #[.agg #[.slice Ao15 y124.length co15, .slice Ao14 y127.length co14], .string (⟨#[48]⟩ : ByteArray)] rfl (by (try simp only [List.map_toArray, List.map_cons, List.map_nil]); first | done | rfl | (simp only [List.length_drop, List.length_take]; rfl)) ?_; (with_reducible refine (Go.Proofs.Ytjffhhalmicodaa.X.fixes_Holds.calls k _ _ y124 _ _ y127 (⟨#[48]⟩ : ByteArray) t130 t131 _ ?side1 ?side2 ?side3 ?side4 A1.out).mono ?_); (case side1 => repeat (first | exact (Kd.R_reads' HO126.out).2.2 | (with_reducible refine Kd.C_alloc ?_ _) | (with_reducible refine Kd.C_drewN ?_ _) | (with_reducible refine Kd.C_drew ?_))); (case side2 => exact (Kd.R_reads' HO126.out).2.1); (case side3 => repeat (first | exact (Kd.R_reads' HO129.out).2.2 | (with_reducible refine Kd.C_alloc ?_ _) | (with_reducible refine Kd.C_drewN ?_ _) | (with_reducible refine Kd.C_drew ?_))); (case side4 => exact (Kd.R_reads' HO129.out).2.1); rintro e w16 ⟨rfl, hb⟩; refine ⟨_, rfl, ?_⟩; have n0_ := Aside0.mk (Kd.R_below (by (with_reducible repeat (first | apply Kd.R_alloc | apply Kd.R_drewN | apply Kd.R_drew)); exact HO126.out) hb); have n1_ := Aside0.mk (Kd.R_below (by (with_reducible repeat (first | apply Kd.R_alloc | apply Kd.R_drewN | apply Kd.R_drew)); exact HO129.out) hb); have n2_ := Aside0.mk (below_step (by repeat (first | (with_reducible first | exact HB.out | apply below_alloc | apply pw_below_drewN | apply below_drew1) | exact HB.out)) hb); clear HO126; clear HO129; clear HB; have HO126 := n0_; have HO129 := n1_; have HB := n2_; clear n0_ n1_ n2_; (try clear hb); (try clear hb2); (try clear hk); (try clear hi)))
    go_ret
    exact ⟨by first | rfl | (simp [errW_none, errW_some] <;> rfl) | (simp [*, errW_none, errW_some] <;> rfl), by repeat (first | (with_reducible first | exact HB.out | apply below_alloc | apply pw_below_drewN | apply below_drew1) | exact HB.out)⟩
end Go.Proofs.Ytjffhhalmicodaa.PB
end

section
namespace Go.Proofs.Ytjffhhalmicodaa.PE
open Go.RowKit Go.Proofs.YtjffhhalmicodaaW.PrintWords Go.Proofs.YtjffhhalmicodaaW.PrintLast Go.Proofs.YtjffhhalmicodaaW.PrintMore
attribute [local go_sem] max2_int min2_int max_two min_two max_three min_three max_four min_four
set_option linter.unusedVariables false
set_option linter.unusedSimpArgs false
def errW : Option Int → Value
  | none => .nilIface
  | some c => .iface 0 (.int .i64 c)
theorem errW_none : errW none = .nilIface := rfl
theorem errW_some (c : Int) : errW (some c) = .iface 0 (.int .i64 c) := rfl
end Go.Proofs.Ytjffhhalmicodaa.PE
end

section
namespace Go.Proofs.Ytjffhhalmicodaa.PE
open Go.RowKit Go.Proofs.YtjffhhalmicodaaW.PrintWords Go.Proofs.YtjffhhalmicodaaW.PrintLast Go.Proofs.YtjffhhalmicodaaW.PrintMore
attribute [local go_sem] max2_int min2_int max_two min_two max_three min_three max_four min_four
set_option linter.unusedVariables false
set_option linter.unusedSimpArgs false
def slices_Equal_int_int.l0 : Nat → List Int → List Int → Int → Int → Option (Bool)
  | 0, _, _, _, _ => none
  | k + 1, x0, x1, x12, x13 => if x13 < x12 then (if 0 ≤ x13 then (if x13 < (x0.length : Int) then (if x13 < (x1.length : Int) then (if (rd x0 x13) = (rd x1 x13) then (slices_Equal_int_int.l0 k x0 x1 x12 (wrap64 (x13 + 1))) else (some false)) else (none)) else (none)) else (none)) else (some true)
def slices_Equal_int_int.f (k : Nat) (l0 : List Int) (l1 : List Int) : Option (Bool) := if (l0.length : Int) = (l1.length : Int) then (slices_Equal_int_int.l0 k l0 l1 (l0.length : Int) 0) else (some false)
set_option maxHeartbeats 8000000 in
set_option maxRecDepth 100000 in
theorem slices_Equal_int_int.calls (k : Nat) (A0 : Option Addr) (c0 : Nat) (l0 : List Int) (A1 : Option Addr) (c1 : Nat) (l1 : List Int) (r : Bool) (w : World) (hr0 : Kd.C (Kd.int .i64) w A0 l0.length l0) (hc0 : l0.length ≤ c0) (hr1 : Kd.C (Kd.int .i64) w A1 l1.length l1) (hc1 : l1.length ≤ c1) (h : slices_Equal_int_int.f k l0 l1 = some r) :
    Calls Try.prog 36 #[.slice A0 l0.length c0, .slice A1 l1.length c1] w fun e w' => e = .returned (.bool r) ∧ Drawn0 w w' := by
  have HR0 := Aside0.mk hr0
  have HC0 := Aside0.mk hc0
  clear hr0 hc0
  have HR1 := Aside0.mk hr1
  have HC1 := Aside0.mk hc1
  clear hr1 hc1
  have H : (if (l0.length : Int) = (l1.length : Int) then (slices_Equal_int_int.l0 k l0 l1 (l0.length : Int) 0) else (some false)) = some r := h
  clear h
  by_cases c3 : (l0.length : Int) = (l1.length : Int)
  · rw [if_pos c3] at H
    have c3b0 : ((l0.length : Int) == (l1.length : Int)) = true := beq_iff_eq.mpr c3
    have c3b1 : ((l0.length : Int) != (l1.length : Int)) = false := bne_eq_false_iff_eq.mpr c3
    have c3b2 : (l0.length == l1.length) = true := by first | simpa using c3 | (simp at c3 ⊢; omega)
    clear c3
    have H' := Aside0.mk H
    clear H
    go_enter Try.func36, Try.ntmps36
    go_wp2
    repeat (go_quiet (fail); try go_wp2)
    go_loopg [13] k (fun kq v13 w' => ∃ (x13_1 : Int), v13 = .int .i64 x13_1 ∧ Aside0 (slices_Equal_int_int.l0 kq l0 l1 (l0.length : Int) x13_1 = some r) ∧ Aside0 (kq ≤ k) ∧ Drawn0 w w')
    case atStart => exact ⟨(0), (by first | rfl | (simp; done) | (simp [*]; done)), H', ⟨Nat.le_refl _⟩, by repeat (first | exact Drawn0.refl _ | apply Drawn0.step)⟩
    case round =>
      clear H'
      try clear c1
      try clear p2
      try clear c3
      try clear c3b0
      try clear c3b1
      try clear c3b2
      obtain ⟨x13_1, rfl, HA, HK1, ⟨m1, rfl⟩⟩ := hrel
      cases gk with
      | zero => exact absurd HA.out (by simp [slices_Equal_int_int.l0])
      | succ k1 =>
        have H := HA.out
        clear HA
        simp only [slices_Equal_int_int.l0] at H
        by_cases c4 : x13_1 < (l0.length : Int)
        · rw [if_pos c4] at H
          have c4b0 : decide (x13_1 < (l0.length : Int)) = true := decide_eq_true c4
          clear c4
          by_cases c5 : 0 ≤ x13_1
          · rw [if_pos c5] at H
            have c5b0 : decide (0 ≤ x13_1) = true := decide_eq_true c5
            clear c5
            by_cases c6 : x13_1 < (l0.length : Int)
            · rw [if_pos c6] at H
              have c6b0 : decide (x13_1 < (l0.length : Int)) = true := decide_eq_true c6
              clear c6
              by_cases c7 : x13_1 < (l1.length : Int)
              · rw [if_pos c7] at H
                have c7b0 : decide (x13_1 < (l1.length : Int)) = true := decide_eq_true c7
                clear c7
                by_cases c8 : (rd l0 x13_1) = (rd l1 x13_1)
                · rw [if_pos c8] at H
                  have c8b0 : ((rd l0 x13_1) == (rd l1 x13_1)) = true := beq_iff_eq.mpr c8
                  have c8b1 : ((rd l0 x13_1) != (rd l1 x13_1)) = false := bne_eq_false_iff_eq.mpr c8
                  clear c8
                  have H' := Aside0.mk H
                  clear H
                  have p101 : 0 ≤ (x13_1 : Int) := of_decide_eq_true (by first | (with_reducible assumption) | assumption)
                  have q101 : x13_1 < (l0.length : Int) := of_decide_eq_true (by first | (with_reducible assumption) | assumption)
                  obtain ⟨ad101, e101, hx101_0⟩ := Kd.at_int HR0.out x13_1 p101 q101
                  cases e101
                  replace p101 := eq_true p101
                  replace q101 := eq_true q101
                  have p102 : 0 ≤ (x13_1 : Int) := of_decide_eq_true (by first | (with_reducible assumption) | assumption)
                  have q102 : x13_1 < (l1.length : Int) := of_decide_eq_true (by first | (with_reducible assumption) | assumption)
                  obtain ⟨ad102, e102, hx102_0⟩ := Kd.at_int HR1.out x13_1 p102 q102
                  cases e102
                  replace p102 := eq_true p102
                  replace q102 := eq_true q102
                  go_wp2
                  repeat (go_quiet (fail); try go_wp2)
                  go_roundg k1
                  case measure => have := HK1.out; omega
                  case rel => exact ⟨(wrap64 (x13_1 + 1)), (by first | rfl | (simp; done) | (simp [*]; done)), H', ⟨by have := HK1.out; omega⟩, by repeat (first | exact Drawn0.refl _ | apply Drawn0.step)⟩
                · rw [if_neg c8] at H
                  have c8b0 : ((rd l0 x13_1) == (rd l1 x13_1)) = false := beq_eq_false_iff_ne.mpr c8
                  have c8b1 : ((rd l0 x13_1) != (rd l1 x13_1)) = true := bne_iff_ne.mpr c8
                  obtain rfl := Option.some.inj H
                  have p101 : 0 ≤ (x13_1 : Int) := of_decide_eq_true (by first | (with_reducible assumption) | assumption)
                  have q101 : x13_1 < (l0.length : Int) := of_decide_eq_true (by first | (with_reducible assumption) | assumption)
                  obtain ⟨ad101, e101, hx101_0⟩ := Kd.at_int HR0.out x13_1 p101 q101
                  cases e101
                  replace p101 := eq_true p101
                  replace q101 := eq_true q101
                  have p102 : 0 ≤ (x13_1 : Int) := of_decide_eq_true (by first | (with_reducible assumption) | assumption)
                  have q102 : x13_1 < (l1.length : Int) := of_decide_eq_true (by first | (with_reducible assumption) | assumption)
                  obtain ⟨ad102, e102, hx102_0⟩ := Kd.at_int HR1.out x13_1 p102 q102
                  cases e102
                  replace p102 := eq_true p102
                  replace q102 := eq_true q102
                  go_wp2
                  repeat (go_quiet (fail); try go_wp2)
                  go_ret
                  exact ⟨by first | rfl | (simp; done) | (simp [*]; done), by repeat (first | exact Drawn0.refl _ | apply Drawn0.step)⟩
              · rw [if_neg c7] at H
                exact absurd H (by simp)
            · rw [if_neg c6] at H
              exact absurd H (by simp)
          · rw [if_neg c5] at H
            exact absurd H (by simp)
        · rw [if_neg c4] at H
          have c4b0 : decide (x13_1 < (l0.length : Int)) = false := decide_eq_false c4
          clear c4
          obtain rfl := Option.some.inj H
          go_wp2
          repeat (go_quiet (fail); try go_wp2)
          go_ret
          exact ⟨by first | rfl | (simp; done) | (simp [*]; done), by repeat (first | exact Drawn0.refl _ | apply Drawn0.step)⟩
  · rw [if_neg c3] at H
    have c3b0 : ((l0.length : Int) == (l1.length : Int)) = false := beq_eq_false_iff_ne.mpr c3
    have c3b1 : ((l0.length : Int) != (l1.length : Int)) = true := bne_iff_ne.mpr c3
    have c3b2 : (l0.length == l1.length) = false := by first | simpa using c3 | (simp at c3 ⊢; omega)
    obtain rfl := Option.some.inj H
    go_enter Try.func36, Try.ntmps36
    go_wp2
    repeat (go_quiet (fail); try go_wp2)
    go_ret
    exact ⟨by first | rfl | (simp; done) | (simp [*]; done), by repeat (first | exact Drawn0.refl _ | apply Drawn0.step)⟩
end Go.Proofs.Ytjffhhalmicodaa.PE
end

section
set_option linter.unusedVariables false
set_option linter.unusedSimpArgs false
namespace Go.Proofs.Ytjffhhalmicodaa.X
open Go.RowKit Go.Proofs.YtjffhhalmicodaaW.PrintWords Go.Proofs.YtjffhhalmicodaaW.PrintLast Go.Proofs.YtjffhhalmicodaaW.PrintMore
theorem equal_from (a b : List Int) (h : a.length = b.length) (hsz : a.length ≤ 1000000) : ∀ d i : Nat, i + d = a.length → ∃ k, PE.slices_Equal_int_int.l0 k a b (a.length : Int) (i : Int) = some (decide (a.drop i = b.drop i)) := by
  intro d
  induction d with
  | zero =>
    intro i hi
    refine ⟨1, ?_⟩
    simp only [PE.slices_Equal_int_int.l0]
    rw [List.drop_of_length_le (by omega), List.drop_of_length_le (by omega)]
    simp [show ¬ i < a.length by omega]
  | succ d ih =>
    intro i hi
    obtain ⟨k, hk⟩ := ih (i + 1) (by omega)
    refine ⟨k + 1, ?_⟩
    have ha : i < a.length := by omega
    have hb : i < b.length := by omega
    rw [List.drop_eq_getElem_cons ha, List.drop_eq_getElem_cons hb]
    have e1 : rd a (i : Int) = a[i] := by simp [rd, List.getD_eq_getElem?_getD, ha]
    have e2 : rd b (i : Int) = b[i] := by simp [rd, List.getD_eq_getElem?_getD, hb]
    simp only [PE.slices_Equal_int_int.l0]
    rw [if_pos (by omega), if_pos (by omega), if_pos (by omega), if_pos (by omega), e1, e2, show wrap64 ((i : Int) + 1) = ((i + 1 : Nat) : Int) by unfold wrap64; omega, hk]
    by_cases hab : a[i] = b[i]
    · rw [if_pos hab, hab]
      simp only [List.cons.injEq, true_and]
    · rw [if_neg hab]
      simp only [List.cons.injEq, hab, false_and, decide_false]
theorem equal_eq (a b : List Int) (hsz : a.length ≤ 1000000) : ∃ k, PE.slices_Equal_int_int.f k a b = some (decide (a = b)) := by
  unfold PE.slices_Equal_int_int.f
  by_cases h : a.length = b.length
  · obtain ⟨k, hk⟩ := equal_from a b h hsz a.length 0 (by omega)
    refine ⟨k, ?_⟩
    rw [if_pos (by omega)]
    simpa using hk
  · refine ⟨0, ?_⟩
    rw [if_neg (by omega)]
    have : a ≠ b := fun e => h (by rw [e])
    simp [this]
theorem keyfn_mark (w : World) (bw n c1 : Nat) (A1 : Option Addr) (mk : List Int) (hr : Kd.C (Kd.int .i64) w A1 mk.length mk) (hw : w.cell? ⟨bw, 1, none⟩ = some (.slice A1 mk.length c1)) (hn : n ≤ mk.length) : KeyFn w 82 #[.pointer (some ⟨bw, 0, none⟩)] n (markKey mk) := by
  intro W s hsn hb
  obtain ⟨b, off, rfl, hlt, hc⟩ := ints_at hr (by omega)
  exact mark_calls bw b off mk.length c1 s (rd mk s) W (pw_cell_below hb hw) (by omega) hr.2.1 (pw_cell_below hb (hc s (by omega)))
theorem keyfn_next (w : World) (bw bl c0 c2 : Nat) (A0 A2 : Option Addr) (nx last : List Int) (hl : last.length = nx.length) (h61 : nx.length ≤ 61) (hr : Kd.C (Kd.int .i64) w A0 nx.length nx) (hr2 : Kd.C (Kd.int .i64) w A2 last.length last) (hw : w.cell? ⟨bw, 0, none⟩ = some (.slice A0 nx.length c0)) (hw2 : w.cell? ⟨bl, 0, none⟩ = some (.slice A2 last.length c2)) (hv : ∀ i : Nat, i < nx.length → 0 ≤ rd last i ∧ rd last i < nx.length) : KeyFn w 83 #[.pointer (some ⟨bl, 0, none⟩), .pointer (some ⟨bw, 0, none⟩)] nx.length (setKey nx last) := by
  intro W s hsn hb
  obtain ⟨b, off, rfl, hlt, hc⟩ := ints_at hr (by omega)
  obtain ⟨b2, off2, rfl, hlt2, hc2⟩ := ints_at hr2 (by omega)
  exact next_calls bw b off nx.length c0 s bl b2 off2 c2 nx last hl rfl W (pw_cell_below hb hw) (by rw [← hl]; exact pw_cell_below hb hw2) hsn h61 (pw_cell_below hb (hc s hsn)) (fun i hi => pw_cell_below hb (hc2 i (by omega))) hv
def levF (nx : List Int) : Nat → List (List Int) → Option (List (List Int))
  | 0, _ => none
  | k + 1, out => if out.length ≤ 1000 then (if (numTo (setKey nx (out.getLastD [])) nx.length).2 = out.getLastD [] then some out else levF nx k (out ++ [(numTo (setKey nx (out.getLastD [])) nx.length).2])) else none
def LvOk (n : Nat) (l : List Int) : Prop := l.length = n ∧ ∀ i : Nat, i < n → 0 ≤ rd l i ∧ rd l i < n
theorem lvOk_num (key : Nat → Int × Int) (n : Nat) : LvOk n (numTo key n).2 := ⟨numTo_len key n, fun i hi => by
  rw [rd_num key n i hi]
  have := cls_range key hi
  have := cnt_le key n
  omega⟩
theorem info22 : (Try.prog.info? 22).map (fun i => (i.zero, i.size, i.bytes)) = some (some (.slice none 0 0), 1, 24) := by kernel_rfl
theorem rows_last {w : World} {base g m cp : Nat} {ok : Nat → Prop} {init : List (List Int)} {last : List Int} (h : Kd.R (Kd.slice 3 (Kd.int .i64)) 22 w base ok (.slice (some ⟨g, 0, none⟩) (m + 1) cp) (init ++ [last])) (hm : m = init.length) :
    ∃ A c, w.cell? ⟨g, m, none⟩ = some (.slice A last.length c) ∧ last.length ≤ c ∧ Kd.C (Kd.int .i64) w A last.length last := by
  obtain ⟨h1, h2, h3⟩ := Kd.R_reads' h
  obtain ⟨ad, c, e, _, hK, hc⟩ := Kd.C_get h3 [] (m : Int) (by omega) (by rw [← h1]; omega)
  injection e with e
  subst e
  obtain ⟨A, c2, rfl, hl, hC⟩ := hK
  have hg : (init ++ [last]).getD (m : Int).toNat [] = last := by
    rw [Int.toNat_natCast, hm]
    simp
  rw [hg] at hl hC hc
  refine ⟨A, c2, ?_, hl, hC⟩
  have := hc 0 _ rfl
  rw [Int.toNat_natCast, show (Kd.slice 3 (Kd.int .i64)).sz = 1 from rfl, Nat.mul_one, Nat.add_zero] at this
  have e2 : (⟨g, 0, none⟩ : Addr).add m = ⟨g, m, none⟩ := by
    unfold Addr.add
    split <;> simp_all
  rwa [e2] at this
theorem rows_form {w : World} {base : Nat} {ok : Nat → Prop} {v : Value} {xs : List (List Int)} (h : Kd.R (Kd.slice 3 (Kd.int .i64)) 22 w base ok v xs) (hx : 0 < xs.length) : ∃ g cp, v = .slice (some ⟨g, 0, none⟩) xs.length cp := by
  obtain ⟨inner, ho⟩ := Kd.R_own h
  obtain ⟨g, cap, e, _⟩ := ho.form hx
  exact ⟨g, cap, e⟩
theorem info22s : (Try.prog.info? 22).map (·.size) = some 1 := by kernel_rfl
structure LS (w : World) (gw c0 c1 : Nat) (A0 A1 : Option Addr) (nx mk : List Int) (r : List (List Int)) (g m cp kq : Nat) (init : List (List Int)) (last : List Int) (wr : World) : Prop where
  len : m = init.length
  fuel : levF nx kq (init ++ [last]) = some r
  ok : LvOk nx.length last
  own : Kd.R (Kd.slice 3 (Kd.int .i64)) 22 wr w.heap.size (fun _ => True) (.slice (some ⟨g, 0, none⟩) (m + 1) cp) (init ++ [last])
  below : Below w.heap.size w wr
  box : wr.heap[gw]? = some (.cells #[.slice A0 nx.length c0, .slice A1 mk.length c1] 28 (0, 0))
set_option maxRecDepth 100000 in
set_option maxHeartbeats 2000000 in
theorem levels_calls (k : Nat) (A0 : Option Addr) (c0 : Nat) (nx : List Int) (A1 : Option Addr) (c1 : Nat) (mk : List Int) (r : List (List Int)) (w : World) (hr0 : Kd.C (Kd.int .i64) w A0 nx.length nx) (hr1 : Kd.C (Kd.int .i64) w A1 mk.length mk) (h61 : nx.length ≤ 61) (hnm : nx.length ≤ mk.length) (h : levF nx k [(numTo (markKey mk) nx.length).2] = some r) :
    Calls Try.prog 66 #[.agg #[.slice A0 nx.length c0, .slice A1 mk.length c1]] w fun e w' => ∃ v, e = .returned v ∧ Kd.R (Kd.slice 3 (Kd.int .i64)) 22 w' w.heap.size (fun _ => True) v r ∧ Below w.heap.size w w' := by
  have hu := Try.underlying28
  have eg82 : ∀ args w, (callFunc 82 args).run Try.prog w = .ok (.enter 82 args) w := enters_of' Try.func82 (by kernel_rfl) rfl
  have eg83 : ∀ args w, (callFunc 83 args).run Try.prog w = .ok (.enter 83 args) w := enters_of' Try.func83 (by kernel_rfl) rfl
  have EG82 := Lib.hid eg82
  have EG83 := Lib.hid eg83
  have HR0 := Lib.hid hr0
  have HR1 := Lib.hid hr1
  have HF := Lib.hid h
  clear hr0 hr1 h eg82 eg83
  go_enter Try.func66, Try.ntmps66
  go_wp2_with (first | ((with_reducible refine gate_dst (N := 1) rfl ?_); refine box_event ?hg (N := 1) ?hd (cs := #[.slice A0 nx.length c0, .slice A1 mk.length c1]) (t := 28) ?hr ?_; (case hd => rfl); (case hg => rfl); (case hr => first | (go_simp; done) | (go_simp; rfl)); intro gw hgw wb hbw hbb; have HBX := Lib.hid hbw; have HGW := Lib.hid (Nat.le_of_eq hgw.symm); have HB0 := Lib.hid (below_step (Below.refl w.heap.size w) hbb); have hw0 : wb.cell? ⟨gw, 0, none⟩ = some (.slice A0 nx.length c0) := (blk_cell hbw 0).trans rfl; have hw1 : wb.cell? ⟨gw, 1, none⟩ = some (.slice A1 mk.length c1) := (blk_cell hbw 1).trans rfl; clear hgw hbw hbb) | fail)
  refine (numbered_calls 82 _ EG82.out (markKey mk) A0 nx.length c0 A1 mk.length c1 wb (by omega) (keyfn_mark wb gw nx.length c1 A1 mk (Kd.C_below HR1.out HB0.out) hw1 hnm)).mono ?_
  rintro e w2 ⟨v0, rfl, hv0, hb2⟩
  obtain ⟨A5, c5, rfl⟩ := Kd.R_slice hv0
  have HV0 := Lib.hid (Kd.R_lower hv0 HB0.out.size)
  have HB2 := Lib.hid (below_step HB0.out hb2)
  have HBX2 := Lib.hid (blk_below HBX.out hb2)
  clear hv0 hb2 HB0 HBX hw0 hw1
  go_wp2_with (first | ((with_reducible refine gate_dst (N := 9) rfl ?_); refine Kd.R_lit (Kd.slice 3 (Kd.int .i64)) (w0 := w) w.heap.size 22 ?hg (N := 9) ?hd (xs := [(numTo (markKey mk) nx.length).2]) (inner := [.slice A5 (numTo (markKey mk) nx.length).2.length c5]) (ok := fun _ => True) (okp := fun _ => True) ?hr ?hp (fun _ hk => hk) trivial HB2.out HB2.out.size (by simp) ?_; (case hd => rfl); (case hg => rfl); (case hr => first | (go_simp; done) | (go_simp; rfl)); (case hp => exact ⟨rfl, fun j p hj => by (cases j with | zero => (injection hj with hj; subst hj; exact ⟨_, rfl, HV0.out⟩) | succ j => simp at hj)⟩); intro v1 w3 hv1 hb3 hg3 hat3; have HV1 := Lib.hid hv1; have HB3 := Lib.hid hb3; have HBX3 := Lib.hid (blk_grown HBX2.out hg3 (by simp)); clear hv1 hb3 hg3 hat3) | fail)
  clear HV0 HB2 HBX2
  obtain ⟨g, cp, rfl⟩ := rows_form HV1.out (by simp)
  have HL := Lib.hid (show LS w gw c0 c1 A0 A1 nx mk r g 0 cp k [] (numTo (markKey mk) nx.length).2 w3 from ⟨rfl, HF.out, lvOk_num _ _, HV1.out, HB3.out, HBX3.out⟩)
  clear HV1 HB3 HBX3 HF
  go_wp2_with fail
  go_loopg [3] k (fun kq v3 wr => ∃ (g m cp : Nat) (init : List (List Int)) (last : List Int), v3 = .slice (some ⟨g, 0, none⟩) (m + 1) cp ∧ Hid (LS w gw c0 c1 A0 A1 nx mk r g m cp kq init last wr))
  case atStart => exact ⟨_, _, _, _, _, rfl, HL⟩
  case round =>
    clear HL
    obtain ⟨g, m, cp, init, last, rfl, HL⟩ := hrel
    cases gk with
    | zero => exact absurd HL.out.fuel (by simp [levF])
    | succ kq =>
      obtain ⟨A2, c2, hcl, hl2, hC2⟩ := rows_last HL.out.own HL.out.len
      have HC2 := Lib.hid hC2
      have HL2 := Lib.hid hl2
      clear hC2 hl2
      have hf := HL.out.fuel
      rw [levF] at hf
      have hlen : (init ++ [last]).length ≤ 1000 := by
        by_cases q : (init ++ [last]).length ≤ 1000
        · exact q
        · rw [if_neg q] at hf
          cases hf
      rw [if_pos hlen, show (init ++ [last]).getLastD [] = last by simp] at hf
      have hm1 : m + 1 ≤ 1000 := by rw [HL.out.len]; simpa using hlen
      have HF := Lib.hid hf
      clear hf hlen
      have h0 := HL.out.own
      clear h0
      go_wp2_with (first | ((with_reducible refine gate_dst (N := 4) rfl ?_); refine box_event ?hg (N := 4) ?hd (cs := #[.slice none 0 0]) (t := 22) ?hr ?_; (case hd => rfl); (case hg => rfl); (case hr => kernel_rfl); intro gl hgl wl hbl hbbl; have HGL := Lib.hid (Nat.le_of_eq hgl.symm); have HBBL := Lib.hid hbbl; have HBL := Lib.hid hbl; clear hgl hbl hbbl) | ((with_reducible refine gate_op (op := .store 22 (.tmp 4) (.tmp 15)) rfl ?_); refine whole_store_event rfl rfl 22 (.tmp 4) (.tmp 15) rfl (g := gl) (cur := #[.slice none 0 0]) (.slice A2 last.length c2) [.slice A2 last.length c2] rfl rfl rfl info22s rfl (by simp [Value.oneCell']) HBL.out ?_; intro w3 hw3 hk3 hb3; have HB3 := Lib.hid (hb3 _ _ HBBL.out HGL.out); have hwl : w3.cell? ⟨gl, 0, none⟩ = some (.slice A2 last.length c2) := (blk_cell hw3 0).trans rfl; have hw0 : w3.cell? ⟨gw, 0, none⟩ = some (.slice A0 nx.length c0) := (blk_cell (blk_below HL.out.box HB3.out) 0).trans rfl; have hw1 : w3.cell? ⟨gw, 1, none⟩ = some (.slice A1 mk.length c1) := (blk_cell (blk_below HL.out.box HB3.out) 1).trans rfl; clear hw3 hk3 hb3 hcl HBBL HBL HGL) | fail)
      refine (numbered_calls 83 _ EG83.out (setKey nx last) A0 nx.length c0 A1 mk.length c1 w3 (by omega) (keyfn_next w3 gw gl c0 c2 A0 A2 nx last HL.out.ok.1 h61 (Kd.C_below HR0.out (below_step HL.out.below HB3.out)) (Kd.C_below HC2.out HB3.out) hw0 hwl HL.out.ok.2)).mono ?_
      rintro e w4 ⟨v4, rfl, hv4, hb4⟩
      obtain ⟨A4, c4, rfl⟩ := Kd.R_slice hv4
      obtain ⟨_, hc4, hr4⟩ := Kd.R_reads' hv4
      have HV4 := Lib.hid (Kd.R_lower hv4 (below_step HL.out.below HB3.out).size)
      have HB4 := Lib.hid (below_step HB3.out hb4)
      have HC4 := Lib.hid hc4
      have HR4 := Lib.hid hr4
      have k0 := pw_cell_below hb4 hwl
      clear hv4 hb4 hw0 hw1 hwl HB3 hc4 hr4
      have hwl := k0
      clear k0
      obtain ⟨ke, hke⟩ := equal_eq (numTo (setKey nx last) nx.length).2 last (by rw [numTo_len]; omega)
      have HKE := Lib.hid hke
      clear hke
      go_wp2_with fail
      refine (PE.slices_Equal_int_int.calls ke A4 c4 (numTo (setKey nx last) nx.length).2 A2 c2 last _ w4 HR4.out HC4.out (Kd.C_below HC2.out HB4.out) HL2.out HKE.out).mono ?_
      rintro e w5 ⟨rfl, hd⟩
      obtain ⟨q5, rfl⟩ := hd
      clear HKE HC4 HR4 hwl
      by_cases hdone : (numTo (setKey nx last) nx.length).2 = last
      · have hb : decide ((numTo (setKey nx last) nx.length).2 = last) = true := decide_eq_true hdone
        have hf := HF.out
        rw [if_pos hdone] at hf
        injection hf with hf
        have HE := Lib.hid hf
        clear hf hdone
        go_wp2
        go_ret
        refine ⟨_, rfl, ?_, ?_⟩
        · rw [← HE.out]
          exact Kd.R_below HL.out.own (pw_below_drewN HB4.out q5)
        · exact below_step HL.out.below (pw_below_drewN HB4.out q5)
      · have hb : decide ((numTo (setKey nx last) nx.length).2 = last) = false := decide_eq_false hdone
        have hf := HF.out
        rw [if_neg hdone] at hf
        have HF2 := Lib.hid hf
        clear hf hdone HF
        have HO := Lib.hid (Kd.R_below HL.out.own (pw_below_drewN HB4.out q5))
        have HBW := Lib.hid (below_step HL.out.below (pw_below_drewN HB4.out q5))
        have HV5 := Lib.hid (Kd.R_below HV4.out (pw_below_drewN (Below.refl w4.heap.size w4) q5))
        have HBX := Lib.hid (blk_below HL.out.box (pw_below_drewN HB4.out q5))
        have HP : Hid (Kd.R (Kd.int .i64) 3 (w4.drewN q5) w.heap.size (fun k => True ∧ k ≠ g) (.slice A4 (numTo (setKey nx last) nx.length).2.length c4) (numTo (setKey nx last) nx.length).2) := Lib.hid (by
          obtain ⟨_, inner, ho, _⟩ := HO.out
          obtain ⟨cells, hc⟩ := own_typed ho g rfl
          exact Kd.R_types HV5.out hc (by simp [Kd.int, Kd.scalar]))
        have HXS := Lib.hid (show ((init ++ [last]).length + 1) * 24 ≤ 140737488355328 by have := HL.out.len; simp; omega)
        go_wp2_with (first | (at_builtin; refine Kd.R_append (Kd.slice 3 (Kd.int .i64)) (w0 := w) w.heap.size rfl (.tmp 23) (.tmp 25) 86 22 (.slice none 0 0) 24 rfl Try.underlying86 info22 rfl (by decide) (by decide) (.slice (some ⟨g, 0, none⟩) (m + 1) cp) (init ++ [last]) (numTo (setKey nx last) nx.length).2 [.slice A4 (numTo (setKey nx last) nx.length).2.length c4] (fun _ => True) (fun k => True ∧ k ≠ g) rfl rfl ⟨_, rfl, HP.out⟩ (fun k hk => ⟨trivial, fun e => hk.2 (Option.some.inj e)⟩) (fun _ _ => trivial) HO.out HBW.out HBW.out.size HXS.out ?_; intro v1 w1 hv hb hg hat; have HV1 := Lib.hid hv; have HB1 := Lib.hid hb; have HX1 := Lib.hid (blk_grown HBX.out hg (Kd.R_ne HO.out HBX.out (by decide))); clear hv hb hg hat) | fail)
        obtain ⟨g', cp', rfl⟩ := rows_form HV1.out (by simp)
        go_roundg kq
        case measure => omega
        case rel => exact ⟨g', m + 1, cp', init ++ [last], _, by simp [HL.out.len], ⟨by simp [HL.out.len], HF2.out, lvOk_num _ _, by simpa [HL.out.len] using HV1.out, HB1.out, HX1.out⟩⟩
end Go.Proofs.Ytjffhhalmicodaa.X
end

section
set_option linter.unusedVariables false
set_option linter.unusedSimpArgs false
namespace Go.Proofs.Ytjffhhalmicodaa.X
open Go.RowKit Go.Proofs.YtjffhhalmicodaaW.PrintWords Go.Proofs.YtjffhhalmicodaaW.PrintLast Go.Proofs.YtjffhhalmicodaaW.PrintMore
def fixes_levels.f (k : Nat) (l0_0 l0_1 : List Int) : Option (List (List Int)) := if l0_0.length ≤ 61 ∧ l0_0.length ≤ l0_1.length then levF l0_0 k [(numTo (markKey l0_1) l0_0.length).2] else none
theorem fixes_levels.calls (k : Nat) (A0_0 : Option Addr) (c0_0 : Nat) (l0_0 : List Int) (A0_1 : Option Addr) (c0_1 : Nat) (l0_1 : List Int) (r : List (List Int)) (w : World) (hr0_0 : Kd.C (Kd.int .i64) w A0_0 l0_0.length l0_0) (hc0_0 : l0_0.length ≤ c0_0) (hr0_1 : Kd.C (Kd.int .i64) w A0_1 l0_1.length l0_1) (hc0_1 : l0_1.length ≤ c0_1) (h : fixes_levels.f k l0_0 l0_1 = some r) :
    Calls Try.prog 66 #[.agg #[.slice A0_0 l0_0.length c0_0, .slice A0_1 l0_1.length c0_1]] w fun e w' => ∃ v0_ : Value, e = .returned (v0_) ∧ Kd.R (Kd.slice 3 (Kd.int .i64)) 22 w' w.heap.size (fun _ => True) v0_ r ∧ Below w.heap.size w w' := by
  unfold fixes_levels.f at h
  split at h
  · rename_i hc
    exact levels_calls k A0_0 c0_0 l0_0 A0_1 c0_1 l0_1 r w hr0_0 hr0_1 hc.1 hc.2 h
  · cases h
end Go.Proofs.Ytjffhhalmicodaa.X
end

section
set_option linter.unusedVariables false
set_option linter.unusedSimpArgs false
namespace Go.Proofs.Ytjffhhalmicodaa.X
open Go.RowKit Go.Proofs.YtjffhhalmicodaaW.PrintWords Go.Proofs.YtjffhhalmicodaaW.PrintLast Go.Proofs.YtjffhhalmicodaaW.PrintMore
theorem rows_own {w : World} {base g m n cp : Nat} {ok : Nat → Prop} {xs : List (List Int)} {last : List Int} (h : Kd.R (Kd.slice 3 (Kd.int .i64)) 22 w base ok (.slice (some ⟨g, 0, none⟩) n cp) xs) (hm : xs[m]? = some last) : ∃ v, w.cell? ⟨g, m, none⟩ = some v ∧ Kd.R (Kd.int .i64) 3 w base ok v last := by
  obtain ⟨h0, inner, ho, hr⟩ := h
  obtain ⟨v, hv, hR⟩ := hr.2 m last hm
  refine ⟨v, ?_, Kd.R_mono hR (fun k hk => hk.1)⟩
  have hi : inner[m]? = some v := by
    rw [show (Kd.slice 3 (Kd.int .i64)).sz = 1 from rfl, Nat.mul_one] at hv
    have := congrArg (fun l => l[0]?) hv
    simpa [List.getElem?_take, List.getElem?_drop] using this
  have := ho.cells (g := g) rfl m v hi
  have e2 : (⟨g, 0, none⟩ : Addr).add m = ⟨g, m, none⟩ := by
    unfold Addr.add
    split <;> simp_all
  rwa [e2] at this
set_option maxRecDepth 100000 in
set_option maxHeartbeats 2000000 in
theorem classes_calls (k : Nat) (A0 : Option Addr) (c0 : Nat) (nx : List Int) (A1 : Option Addr) (c1 : Nat) (mk : List Int) (init : List (List Int)) (last : List Int) (w : World) (hr0 : Kd.C (Kd.int .i64) w A0 nx.length nx) (hc0 : nx.length ≤ c0) (hr1 : Kd.C (Kd.int .i64) w A1 mk.length mk) (hc1 : mk.length ≤ c1) (hlen : init.length ≤ 100000) (h : fixes_levels.f k nx mk = some (init ++ [last])) :
    Calls Try.prog 62 #[.agg #[.slice A0 nx.length c0, .slice A1 mk.length c1]] w fun e w' => ∃ v, e = .returned v ∧ Kd.R (Kd.int .i64) 3 w' w.heap.size (fun _ => True) v last ∧ Below w.heap.size w w' := by
  have hu := Try.underlying28
  have HR0 := Lib.hid hr0
  have HR1 := Lib.hid hr1
  have HF := Lib.hid h
  clear hr0 hr1 h
  go_enter Try.func62, Try.ntmps62
  go_wp2_with (first | ((with_reducible refine gate_dst (N := 1) rfl ?_); refine box_event ?hg (N := 1) ?hd (cs := #[.slice A0 nx.length c0, .slice A1 mk.length c1]) (t := 28) ?hr ?_; (case hd => rfl); (case hg => rfl); (case hr => first | (go_simp; done) | (go_simp; rfl)); intro gw hgw wb hbw hbb; have HB0 := Lib.hid (below_step (Below.refl w.heap.size w) hbb); have hw0 : wb.cell? ⟨gw, 0, none⟩ = some (.slice A0 nx.length c0) := (blk_cell hbw 0).trans rfl; have hw1 : wb.cell? ⟨gw, 1, none⟩ = some (.slice A1 mk.length c1) := (blk_cell hbw 1).trans rfl; clear hgw hbw hbb) | fail)
  refine (fixes_levels.calls k A0 c0 nx A1 c1 mk (init ++ [last]) wb (Kd.C_below HR0.out HB0.out) hc0 (Kd.C_below HR1.out HB0.out) hc1 HF.out).mono ?_
  rintro e w1 ⟨v, rfl, hv, hb⟩
  have HB := Lib.hid (below_step HB0.out hb)
  have hvl := Kd.R_lower hv HB0.out.size
  obtain ⟨g, cp, rfl⟩ := rows_form hvl (by simp)
  obtain ⟨u, hcell, hu2⟩ := rows_own (m := init.length) (last := last) hvl (by simp)
  have HU := Lib.hid hu2
  clear hv hb hvl hw0 hw1 HB0 HF hu2
  have hn : (init ++ [last]).length = init.length + 1 := by simp
  rw [hn]
  clear hn
  generalize init.length = m at *
  go_wp2_with fail
  go_ret
  exact ⟨_, rfl, HU.out, HB.out⟩
def fixes_classes.f (k : Nat) (l0_0 l0_1 : List Int) : Option (List Int) := (fixes_levels.f k l0_0 l0_1).bind fun l => if l = [] ∨ 100000 < l.length then none else some (l.getLastD [])
theorem fixes_classes.calls (k : Nat) (A0_0 : Option Addr) (c0_0 : Nat) (l0_0 : List Int) (A0_1 : Option Addr) (c0_1 : Nat) (l0_1 : List Int) (r : List Int) (w : World) (hr0_0 : Kd.C (Kd.int .i64) w A0_0 l0_0.length l0_0) (hc0_0 : l0_0.length ≤ c0_0) (hr0_1 : Kd.C (Kd.int .i64) w A0_1 l0_1.length l0_1) (hc0_1 : l0_1.length ≤ c0_1) (h : fixes_classes.f k l0_0 l0_1 = some r) :
    Calls Try.prog 62 #[.agg #[.slice A0_0 l0_0.length c0_0, .slice A0_1 l0_1.length c0_1]] w fun e w' => ∃ v0_ : Value, e = .returned (v0_) ∧ Kd.R (Kd.int .i64) 3 w' w.heap.size (fun _ => True) v0_ r ∧ Below w.heap.size w w' := by
  unfold fixes_classes.f at h
  obtain ⟨l, hl, h⟩ := Option.bind_eq_some_iff.mp h
  split at h
  · cases h
  · rename_i hne
    injection h with h
    subst h
    have hne1 : l ≠ [] := fun e => hne (.inl e)
    have hx : l = l.dropLast ++ [l.getLastD []] := by
      have e1 := (List.dropLast_concat_getLast hne1).symm
      have e2 : l.getLastD [] = l.getLast hne1 := by rw [List.getLastD_eq_getLast?, List.getLast?_eq_some_getLast hne1]; rfl
      rw [e2]
      exact e1
    rw [hx] at hl
    refine classes_calls k A0_0 c0_0 l0_0 A0_1 c0_1 l0_1 l.dropLast (l.getLastD []) w hr0_0 hc0_0 hr0_1 hc0_1 ?_ hl
    rw [List.length_dropLast]
    have : ¬ 100000 < l.length := fun e => hne (.inr e)
    omega
end Go.Proofs.Ytjffhhalmicodaa.X
end

section
set_option linter.unusedVariables false
namespace Go.Proofs.Ytjffhhalmicodaa.X
open Go.RowKit Go.Proofs.YtjffhhalmicodaaW.PrintWords Go.Proofs.YtjffhhalmicodaaW.PrintLast Go.Proofs.YtjffhhalmicodaaW.PrintMore
end Go.Proofs.Ytjffhhalmicodaa.X
namespace Go.Proofs.Ytjffhhalmicodaa.L
open Go.RowKit Go.Proofs.YtjffhhalmicodaaW.PrintWords Go.Proofs.YtjffhhalmicodaaW.PrintLast Go.Proofs.YtjffhhalmicodaaW.PrintMore Go.Proofs.Ytjffhhalmicodaa.X
theorem bit_of {x : Int} {n : Nat} (hn : n ≤ 61) (h : InS n x) {t : Nat} (ht : t ≤ 64) : bits .and .i64 (shr .i64 x (t : Int)) 1 = if tb x t = true then 1 else 0 := by
  obtain ⟨y, rfl, hy⟩ := inS_nat h
  have e : shr .i64 (y : Int) (t : Int) = ((y / 2 ^ t : Nat) : Int) := by
    unfold shr
    rw [Int.toNat_natCast, show min t IntKind.i64.bits = t from Nat.min_eq_left ht, Int.natCast_ediv]
    simp
  have hb : y / 2 ^ t < 2 ^ 62 := Nat.lt_of_le_of_lt (Nat.div_le_self _ _) (Nat.lt_of_lt_of_le hy (pow_le62 (by omega)))
  rw [e, show (1 : Int) = ((1 : Nat) : Int) from rfl, and_nat hb (by decide), tb_nat, Nat.testBit, Nat.shiftRight_eq_div_pow, Nat.and_comm]
  have : 1 &&& y / 2 ^ t = 0 ∨ 1 &&& y / 2 ^ t = 1 := by
    rw [Nat.and_comm, Nat.and_one_is_mod]
    omega
  rcases this with h | h <;> rw [h] <;> rfl
theorem set_spec {nx last : List Int} {s : Nat} (hx : InS 6 (rd nx s)) : ∀ m, m ≤ 6 → (∀ t : Nat, t < m → 0 ≤ rd last t ∧ rd last t < 6) → InS 6 (setTo nx last s m) ∧ ∀ c : Nat, tb (setTo nx last s m) c = true ↔ ∃ u, u < m ∧ tb (rd nx s) u = true ∧ rd last u = c := by
  intro m
  induction m with
  | zero =>
    intro _ _
    refine ⟨inS_zero _, fun c => ?_⟩
    show tb 0 c = true ↔ _
    rw [tb_zero]
    exact ⟨fun h => (by cases h), fun ⟨u, h, _⟩ => (by omega)⟩
  | succ m ih =>
    intro hm hr
    obtain ⟨i1, i2⟩ := ih (by omega) (fun t ht => hr t (by omega))
    have hb := bit_of (by decide) hx (t := m) (by omega)
    unfold setTo
    by_cases h : tb (rd nx s) m = true
    · rw [if_pos h] at hb
      rw [if_pos hb]
      have hq := hr m (by omega)
      obtain ⟨q, hq1⟩ := Int.eq_ofNat_of_zero_le hq.1
      have hq6 : q < 6 := by omega
      have hp : InS 6 (((2 ^ q : Nat) : Int)) := inS_of (Nat.pow_lt_pow_right (by decide) hq6)
      rw [hq1, shl1 (by omega)]
      refine ⟨or_in (by decide) i1 hp, fun c => ?_⟩
      rw [tb_or (by decide) (by decide) i1 hp, Bool.or_eq_true, i2, tb_nat, Nat.testBit_two_pow, decide_eq_true_eq]
      constructor
      · rintro (⟨u, a, b, d⟩ | rfl)
        · exact ⟨u, by omega, b, d⟩
        · exact ⟨m, by omega, h, hq1⟩
      · rintro ⟨u, a, b, d⟩
        by_cases e : u = m
        · subst e
          right
          omega
        · exact .inl ⟨u, by omega, b, d⟩
    · rw [if_neg h] at hb
      rw [hb, if_neg (by decide)]
      refine ⟨i1, fun c => ?_⟩
      rw [i2]
      constructor
      · rintro ⟨u, a, b⟩
        exact ⟨u, by omega, b⟩
      · rintro ⟨u, a, b, d⟩
        by_cases e : u = m
        · subst e
          exact absurd b h
        · exact ⟨u, by omega, b, d⟩
def lv (nx mk : List Int) : Nat → List Int
  | 0 => (numTo (markKey mk) nx.length).2
  | k + 1 => (numTo (setKey nx (lv nx mk k)) nx.length).2
def lkey (nx mk : List Int) : Nat → Nat → Int × Int
  | 0 => markKey mk
  | k + 1 => setKey nx (lv nx mk k)
theorem lv_eq (nx mk : List Int) (k : Nat) : lv nx mk k = (numTo (lkey nx mk k) nx.length).2 := by cases k <;> rfl
theorem lv_len (nx mk : List Int) (k : Nat) : (lv nx mk k).length = nx.length := by rw [lv_eq]; exact numTo_len _ _
theorem lv_rd (nx mk : List Int) (k i : Nat) (h : i < nx.length) : rd (lv nx mk k) i = cls (lkey nx mk k) i := by rw [lv_eq]; exact rd_num _ _ _ h
theorem lv_range {nx mk : List Int} (k i : Nat) (h : i < nx.length) : 0 ≤ rd (lv nx mk k) i ∧ rd (lv nx mk k) i < nx.length := by
  rw [lv_rd _ _ _ _ h]
  have := cls_range (lkey nx mk k) h
  have := cnt_le (lkey nx mk k) nx.length
  omega
def E (nx mk : List Int) (k s t : Nat) : Prop := rd (lv nx mk k) s = rd (lv nx mk k) t
theorem E.symm {nx mk : List Int} {k s t : Nat} (h : E nx mk k s t) : E nx mk k t s := Eq.symm h
theorem E.trans {nx mk : List Int} {k s t u : Nat} (h : E nx mk k s t) (g : E nx mk k t u) : E nx mk k s u := Eq.trans h g
theorem E_key {nx mk : List Int} {k s t : Nat} (hs : s < nx.length) (ht : t < nx.length) : E nx mk k s t ↔ lkey nx mk k s = lkey nx mk k t := by
  unfold E
  rw [lv_rd _ _ _ _ hs, lv_rd _ _ _ _ ht, cls_eq]
theorem E_zero {nx mk : List Int} {s t : Nat} (hs : s < nx.length) (ht : t < nx.length) : E nx mk 0 s t ↔ rd mk s = rd mk t := by
  rw [E_key hs ht]
  unfold lkey markKey
  simp
theorem set_at {nx mk : List Int} (hv : VW nx mk) (k : Nat) {s : Nat} (hs : s < nx.length) : InS 6 (setTo nx (lv nx mk k) s nx.length) ∧ ∀ c : Nat, tb (setTo nx (lv nx mk k) s nx.length) c = true ↔ ∃ u, u < nx.length ∧ tb (rd nx s) u = true ∧ rd (lv nx mk k) u = c :=
  set_spec (inS_mono (hv.next s hs) hv.le) nx.length hv.le fun t ht => by
    have h1 := lv_range (mk := mk) k t ht
    have h2 := hv.le
    omega
theorem E_succ {nx mk : List Int} (hv : VW nx mk) {k s t : Nat} (hs : s < nx.length) (ht : t < nx.length) :
    E nx mk (k + 1) s t ↔ E nx mk k s t ∧ (∀ u, u < nx.length → tb (rd nx s) u = true → ∃ v, v < nx.length ∧ tb (rd nx t) v = true ∧ E nx mk k u v) ∧ (∀ v, v < nx.length → tb (rd nx t) v = true → ∃ u, u < nx.length ∧ tb (rd nx s) u = true ∧ E nx mk k u v) := by
  rw [E_key hs ht]
  have e1 : lkey nx mk (k + 1) s = lkey nx mk (k + 1) t ↔ E nx mk k s t ∧ setTo nx (lv nx mk k) s nx.length = setTo nx (lv nx mk k) t nx.length := by
    show setKey nx (lv nx mk k) s = setKey nx (lv nx mk k) t ↔ _
    unfold setKey E
    rw [lv_len]
    simp
  rw [e1]
  obtain ⟨s1, s2⟩ := set_at hv k hs
  obtain ⟨t1, t2⟩ := set_at hv k ht
  constructor
  · rintro ⟨h0, h⟩
    refine ⟨h0, fun u hu hb => ?_, fun v hw hb => ?_⟩
    · obtain ⟨c, hc⟩ := Int.eq_ofNat_of_zero_le (lv_range (mk := mk) k u hu).1
      have := (s2 c).2 ⟨u, hu, hb, hc⟩
      rw [h, t2] at this
      obtain ⟨v, a, b, d⟩ := this
      exact ⟨v, a, b, hc.trans d.symm⟩
    · obtain ⟨c, hc⟩ := Int.eq_ofNat_of_zero_le (lv_range (mk := mk) k v hw).1
      have := (t2 c).2 ⟨v, hw, hb, hc⟩
      rw [← h, s2] at this
      obtain ⟨u, a, b, d⟩ := this
      exact ⟨u, a, b, d.trans hc.symm⟩
  · rintro ⟨h0, h1, h2⟩
    refine ⟨h0, inS_ext s1 t1 fun c _ => ?_⟩
    rw [Bool.eq_iff_iff, s2, t2]
    constructor
    · rintro ⟨u, a, b, d⟩
      obtain ⟨v, a', b', d'⟩ := h1 u a b
      exact ⟨v, a', b', (show rd (lv nx mk k) u = rd (lv nx mk k) v from d') ▸ d⟩
    · rintro ⟨v, a, b, d⟩
      obtain ⟨u, a', b', d'⟩ := h2 v a b
      exact ⟨u, a', b', (show rd (lv nx mk k) u = rd (lv nx mk k) v from d').trans d⟩
theorem E_le {nx mk : List Int} (hv : VW nx mk) {s t : Nat} (hs : s < nx.length) (ht : t < nx.length) {k m : Nat} (h : k ≤ m) (he : E nx mk m s t) : E nx mk k s t := by
  induction m with
  | zero => obtain rfl : k = 0 := by omega
            exact he
  | succ m ih =>
    by_cases e : k = m + 1
    · exact e ▸ he
    · exact ih (by omega) ((E_succ hv hs ht).1 he).1
def nc (nx mk : List Int) (k : Nat) : Nat := cnt (lkey nx mk k) nx.length
theorem cnt_fine {key key' : Nat → Int × Int} : ∀ n, (∀ i j, i < n → j < n → key' i = key' j → key i = key j) → cnt key n ≤ cnt key' n ∧ (cnt key n = cnt key' n → ∀ i j, i < n → j < n → key i = key j → key' i = key' j) := by
  intro n
  induction n with
  | zero => intro _; exact ⟨by simp [cnt, numTo], fun _ i j h => by omega⟩
  | succ n ih =>
    intro h
    obtain ⟨i1, i2⟩ := ih (fun i j hi hj => h i j (by omega) (by omega))
    rcases cnt_step key n with ⟨e, j, hj, hk⟩ | ⟨e, e2, e3⟩ <;> rcases cnt_step key' n with ⟨f, j', hj', hk'⟩ | ⟨f, f2, f3⟩
    · refine ⟨by omega, fun he => ?_⟩
      have i3 := i2 (by omega)
      have h0 := h j' n (by omega) (by omega) hk'
      intro a b ha hb hab
      by_cases ea : a = n <;> by_cases eb : b = n
      · rw [ea, eb]
      · subst ea
        rw [← hk']
        exact i3 j' b hj' (by omega) (h0.trans hab)
      · subst eb
        rw [← hk']
        exact i3 a j' (by omega) hj' (hab.trans h0.symm)
      · exact i3 a b (by omega) (by omega) hab
    · exact ⟨by omega, fun he => by omega⟩
    · exact absurd (h j' n (by omega) (by omega) hk') (e3 j' hj')
    · refine ⟨by omega, fun he => ?_⟩
      have i3 := i2 (by omega)
      intro a b ha hb hab
      by_cases ea : a = n <;> by_cases eb : b = n
      · rw [ea, eb]
      · subst ea; exact absurd hab.symm (e3 b (by omega))
      · subst eb; exact absurd hab (e3 a (by omega))
      · exact i3 a b (by omega) (by omega) hab
theorem nc_step {nx mk : List Int} (hv : VW nx mk) (k : Nat) : nc nx mk k ≤ nc nx mk (k + 1) ∧ (nc nx mk k = nc nx mk (k + 1) → lv nx mk (k + 1) = lv nx mk k) := by
  have hf : ∀ i j, i < nx.length → j < nx.length → lkey nx mk (k + 1) i = lkey nx mk (k + 1) j → lkey nx mk k i = lkey nx mk k j := fun i j hi hj h =>
    (E_key hi hj).1 ((E_succ hv hi hj).1 ((E_key hi hj).2 h)).1
  obtain ⟨h1, h2⟩ := cnt_fine nx.length hf
  refine ⟨h1, fun he => ?_⟩
  rw [lv_eq, lv_eq nx mk k]
  exact (num_congr fun i j hi hj => ⟨hf i j hi hj, h2 he i j hi hj⟩).1
theorem nc_pos {nx mk : List Int} (hv : VW nx mk) (k : Nat) : 1 ≤ nc nx mk k := by
  have := cls_range (lkey nx mk k) (i := 0) (n := nx.length) (by have := hv.pos; omega)
  unfold nc
  omega
theorem nc_le (nx mk : List Int) (k : Nat) : nc nx mk k ≤ nx.length := cnt_le _ _
structure Last (nx mk : List Int) (K : Nat) : Prop where
  same : lv nx mk (K + 1) = lv nx mk K
  first : ∀ j, j < K → lv nx mk (j + 1) ≠ lv nx mk j
theorem lv_last {nx mk : List Int} (hv : VW nx mk) : ∃ K, Last nx mk K ∧ K + 1 ≤ nc nx mk K ∧ ∀ j, j ≤ K → j + 1 ≤ nc nx mk j := by
  have key : ∀ m, (∃ j, j < m ∧ lv nx mk (j + 1) = lv nx mk j) ∨ ∀ j, j ≤ m → j + 1 ≤ nc nx mk j := by
    intro m
    induction m with
    | zero =>
      right
      intro j hj
      obtain rfl : j = 0 := by omega
      exact nc_pos hv 0
    | succ m ih =>
      rcases ih with ⟨j, a, b⟩ | h
      · exact .inl ⟨j, by omega, b⟩
      · by_cases e : lv nx mk (m + 1) = lv nx mk m
        · exact .inl ⟨m, by omega, e⟩
        · right
          intro j hj
          by_cases hjm : j ≤ m
          · exact h j hjm
          · obtain rfl : j = m + 1 := by omega
            have h1 := nc_step hv m
            have h2 := h m (Nat.le_refl _)
            have : nc nx mk m ≠ nc nx mk (m + 1) := fun q => e (h1.2 q)
            omega
  have hex : ∃ j, lv nx mk (j + 1) = lv nx mk j := by
    rcases key nx.length with ⟨j, _, h⟩ | h
    · exact ⟨j, h⟩
    · have h1 := h nx.length (Nat.le_refl _)
      have h2 := nc_le nx mk nx.length
      omega
  obtain ⟨j, hj⟩ := hex
  obtain ⟨K, h1, h2, h3⟩ := first_of (P := fun j => lv nx mk (j + 1) = lv nx mk j) j hj
  have hk : ∀ j, j ≤ K → j + 1 ≤ nc nx mk j := by
    rcases key K with ⟨i, a, b⟩ | h
    · exact absurd b (h3 i a)
    · exact h
  exact ⟨K, ⟨h2, h3⟩, hk K (Nat.le_refl _), hk⟩
theorem Last.le {nx mk : List Int} (hv : VW nx mk) {K : Nat} (h : Last nx mk K) : K + 1 ≤ nx.length := by
  obtain ⟨K', h', h2, _⟩ := lv_last hv
  have h3 := nc_le nx mk K'
  have : K = K' := by
    rcases Nat.lt_trichotomy K K' with q | q | q
    · exact absurd h.same (h'.first K q)
    · exact q
    · exact absurd h'.same (h.first K' q)
  omega
theorem Last.bis {nx mk : List Int} (hv : VW nx mk) {K : Nat} (h : Last nx mk K) {s t : Nat} (hs : s < nx.length) (ht : t < nx.length) (he : E nx mk K s t) : rd mk s = rd mk t ∧ (∀ u, u < nx.length → tb (rd nx s) u = true → ∃ v, v < nx.length ∧ tb (rd nx t) v = true ∧ E nx mk K u v) := by
  refine ⟨(E_zero hs ht).1 (E_le hv hs ht (Nat.zero_le _) he), ?_⟩
  have : E nx mk (K + 1) s t := by unfold E at he ⊢; rw [h.same]; exact he
  exact ((E_succ hv hs ht).1 this).2.1
end Go.Proofs.Ytjffhhalmicodaa.L
end

section
set_option linter.unusedVariables false
namespace Go.Proofs.Ytjffhhalmicodaa.L
open Go.RowKit Go.Proofs.YtjffhhalmicodaaW.PrintWords Go.Proofs.YtjffhhalmicodaaW.PrintLast Go.Proofs.YtjffhhalmicodaaW.PrintMore Go.Proofs.Ytjffhhalmicodaa.X
def Evr {α : Type} (g : Nat → Option α) (r : α) : Prop := ∃ k0, ∀ k, k0 ≤ k → g k = some r
theorem Evr.const {α : Type} (r : α) : Evr (fun _ => some r) r := ⟨0, fun _ _ => rfl⟩
theorem Evr.congr {α : Type} {g h : Nat → Option α} {r : α} (e : ∀ k, g k = h k) (hh : Evr h r) : Evr g r := by
  obtain ⟨k0, h0⟩ := hh
  exact ⟨k0, fun k hk => (e k).trans (h0 k hk)⟩
theorem Evr.step {α : Type} {g h : Nat → Option α} {r : α} (e : ∀ k, g (k + 1) = h k) (hh : Evr h r) : Evr g r := by
  obtain ⟨k0, h0⟩ := hh
  refine ⟨k0 + 1, fun k hk => ?_⟩
  obtain ⟨m, rfl⟩ : ∃ m, k = m + 1 := ⟨k - 1, by omega⟩
  exact (e m).trans (h0 m (by omega))
theorem Evr.bind {α β : Type} {g : Nat → Option α} {f : α → Nat → Option β} {a : α} {r : β} (hg : Evr g a) (hf : Evr (f a) r) : Evr (fun k => (g k).bind fun x => f x k) r := by
  obtain ⟨k0, h0⟩ := hg
  obtain ⟨k1, h1⟩ := hf
  refine ⟨max k0 k1, fun k hk => ?_⟩
  show (g k).bind _ = _
  rw [h0 k (by omega)]
  exact h1 k (by omega)
theorem Evr.of_mono {α : Type} {g : Nat → Option α} {r : α} (hm : ∀ k, LeO (g k) (g (k + 1))) (h : ∃ k, g k = some r) : Evr g r := by
  obtain ⟨k, h⟩ := h
  exact ⟨k, fun m hm' => lift hm h hm'⟩
theorem Evr.of_all {α : Type} {g : Nat → Option α} {r : α} (h : ∀ k, g k = some r) : Evr g r := ⟨0, fun k _ => h k⟩
theorem wsucc {i : Nat} (h : i ≤ 1000000) : wrap64 ((i : Int) + 1) = ((i + 1 : Nat) : Int) := by unfold wrap64; omega
theorem set_eq {nx last : List Int} (hv : ∀ s, s < nx.length → InS 6 (rd nx s)) (h6 : nx.length ≤ 6) (hl : ∀ t : Nat, t < nx.length → 0 ≤ rd last t ∧ rd last t < 6) {s t : Nat} (hs : s < nx.length) (ht : t < nx.length) :
    setTo nx last s nx.length = setTo nx last t nx.length ↔ (∀ u, u < nx.length → tb (rd nx s) u = true → ∃ v, v < nx.length ∧ tb (rd nx t) v = true ∧ rd last u = rd last v) ∧ (∀ v, v < nx.length → tb (rd nx t) v = true → ∃ u, u < nx.length ∧ tb (rd nx s) u = true ∧ rd last u = rd last v) := by
  obtain ⟨s1, s2⟩ := set_spec (last := last) (hv s hs) nx.length h6 hl
  obtain ⟨t1, t2⟩ := set_spec (last := last) (hv t ht) nx.length h6 hl
  constructor
  · intro h
    refine ⟨fun u hu hb => ?_, fun v hw hb => ?_⟩
    · obtain ⟨c, hc⟩ := Int.eq_ofNat_of_zero_le (hl u hu).1
      have := (s2 c).2 ⟨u, hu, hb, hc⟩
      rw [h, t2] at this
      obtain ⟨v, a, b, d⟩ := this
      exact ⟨v, a, b, hc.trans d.symm⟩
    · obtain ⟨c, hc⟩ := Int.eq_ofNat_of_zero_le (hl v hw).1
      have := (t2 c).2 ⟨v, hw, hb, hc⟩
      rw [← h, s2] at this
      obtain ⟨u, a, b, d⟩ := this
      exact ⟨u, a, b, d.trans hc.symm⟩
  · rintro ⟨h1, h2⟩
    refine inS_ext s1 t1 fun c _ => ?_
    rw [Bool.eq_iff_iff, s2, t2]
    constructor
    · rintro ⟨u, a, b, d⟩
      obtain ⟨v, a', b', d'⟩ := h1 u a b
      exact ⟨v, a', b', d' ▸ d⟩
    · rintro ⟨v, a, b, d⟩
      obtain ⟨u, a', b', d'⟩ := h2 v a b
      exact ⟨u, a', b', d'.trans d⟩
def lower (p : Nat → Bool) : Nat → Nat → Nat
  | 0, v => v
  | m + 1, v => lower p m (if p m = true then m else v)
theorem lower_spec (p : Nat → Bool) : ∀ m v, (∀ t, t < m → p t = false) ∧ lower p m v = v ∨ ∃ t, t < m ∧ lower p m v = t ∧ p t = true ∧ ∀ u, u < t → p u = false
  | 0, v => .inl ⟨fun t h => by omega, rfl⟩
  | m + 1, v => by
    rw [lower]
    rcases lower_spec p m (if p m = true then m else v) with ⟨h1, h2⟩ | ⟨t, h1, h2⟩
    · by_cases hp : p m = true
      · rw [if_pos hp] at h2 ⊢
        exact .inr ⟨m, by omega, h2, hp, h1⟩
      · rw [if_neg hp] at h2 ⊢
        refine .inl ⟨fun t ht => ?_, h2⟩
        by_cases e : t = m
        · rw [e]; simpa using hp
        · exact h1 t (by omega)
    · exact .inr ⟨t, by omega, h2⟩
noncomputable def rep (R : Nat → Nat → Prop) (s : Nat) : Nat := by classical exact lower (fun t => decide (R s t)) s s
structure Equi (n : Nat) (R : Nat → Nat → Prop) : Prop where
  refl : ∀ s, s < n → R s s
  symm : ∀ s t, s < n → t < n → R s t → R t s
  trans : ∀ s t u, s < n → t < n → u < n → R s t → R t u → R s u
theorem rep_spec {n : Nat} {R : Nat → Nat → Prop} (h : Equi n R) {s : Nat} (hs : s < n) : rep R s ≤ s ∧ R s (rep R s) ∧ ∀ t, t < rep R s → ¬ R s t := by
  classical
  unfold rep
  rcases lower_spec (fun t => decide (R s t)) s s with ⟨h1, h2⟩ | ⟨t, h1, h2, h3, h4⟩
  · have e : lower (fun t => decide (R s t)) s s = s := h2
    rw [e]
    exact ⟨Nat.le_refl _, h.refl s hs, fun t ht hr => by have := h1 t ht; simp [hr] at this⟩
  · have e : lower (fun t => decide (R s t)) s s = t := h2
    rw [e]
    exact ⟨by omega, by simpa using h3, fun u hu hr => by have := h4 u hu; simp [hr] at this⟩
theorem rep_eq {n : Nat} {R : Nat → Nat → Prop} (h : Equi n R) {s t : Nat} (hs : s < n) (ht : t < n) : rep R s = rep R t ↔ R s t := by
  obtain ⟨s1, s2, s3⟩ := rep_spec h hs
  obtain ⟨t1, t2, t3⟩ := rep_spec h ht
  constructor
  · intro e
    rw [← e] at t2
    exact h.trans _ _ _ hs (by omega) ht s2 (h.symm _ _ ht (by omega) t2)
  · intro e
    rcases Nat.lt_trichotomy (rep R s) (rep R t) with q | q | q
    · exact absurd (h.trans _ _ _ ht hs (by omega) (h.symm _ _ hs ht e) s2) (t3 _ q)
    · exact q
    · exact absurd (h.trans _ _ _ hs ht (by omega) e t2) (s3 _ q)
theorem E_equi (nx mk : List Int) (k : Nat) : Equi nx.length (E nx mk k) := ⟨fun _ _ => rfl, fun _ _ _ _ h => Eq.symm h, fun _ _ _ _ _ _ h g => Eq.trans h g⟩
def RepOk (nx mk : List Int) (k : Nat) (l : List Int) : Prop := l.length = nx.length ∧ ∀ s : Nat, s < nx.length → rd l s = (rep (E nx mk k) s : Int)
theorem RepOk.eq_iff {nx mk : List Int} {k : Nat} {l : List Int} (h : RepOk nx mk k l) {s t : Nat} (hs : s < nx.length) (ht : t < nx.length) : rd l s = rd l t ↔ E nx mk k s t := by
  rw [h.2 s hs, h.2 t ht, ← rep_eq (E_equi nx mk k) hs ht]
  omega
theorem RepOk.range {nx mk : List Int} {k : Nat} {l : List Int} (h : RepOk nx mk k l) {s : Nat} (hs : s < nx.length) : 0 ≤ rd l s ∧ rd l s < nx.length := by
  rw [h.2 s hs]
  have := (rep_spec (E_equi nx mk k) hs).1
  omega
theorem RepOk.succ {nx mk : List Int} (hv : VW nx mk) {k : Nat} {l : List Int} (h : RepOk nx mk k l) {s t : Nat} (hs : s < nx.length) (ht : t < nx.length) : E nx mk (k + 1) s t ↔ rd mk s = rd mk t ∧ rd l s = rd l t ∧ setTo nx l s nx.length = setTo nx l t nx.length := by
  have h6 := hv.le
  rw [E_succ hv hs ht, h.eq_iff hs ht, set_eq (fun s hs => inS_mono (hv.next s hs) h6) h6 (fun t ht => by have := h.range ht; omega) hs ht]
  have c : ∀ u v, u < nx.length → v < nx.length → (rd l u = rd l v ↔ E nx mk k u v) := fun u v hu hv' => h.eq_iff hu hv'
  constructor
  · rintro ⟨h0, h1, h2⟩
    refine ⟨(E_zero hs ht).1 (E_le hv hs ht (Nat.zero_le _) h0), h0, fun u hu hb => ?_, fun v hw hb => ?_⟩
    · obtain ⟨v, a, b, d⟩ := h1 u hu hb
      exact ⟨v, a, b, (c u v hu a).2 d⟩
    · obtain ⟨u, a, b, d⟩ := h2 v hw hb
      exact ⟨u, a, b, (c u v a hw).2 d⟩
  · rintro ⟨_, h0, h1, h2⟩
    refine ⟨h0, fun u hu hb => ?_, fun v hw hb => ?_⟩
    · obtain ⟨v, a, b, d⟩ := h1 u hu hb
      exact ⟨v, a, b, (c u v hu a).1 d⟩
    · obtain ⟨u, a, b, d⟩ := h2 v hw hb
      exact ⟨u, a, b, (c u v a hw).1 d⟩
theorem list_ext_rd {a b : List Int} (hl : a.length = b.length) (h : ∀ i : Nat, i < a.length → rd a i = rd b i) : a = b := by
  apply List.ext_getElem hl
  intro i h1 h2
  have := h i h1
  simpa [rd, List.getD_eq_getElem?_getD, h1, h2] using this
end Go.Proofs.Ytjffhhalmicodaa.L
end

section
section
set_option linter.unusedVariables false
set_option linter.unusedSimpArgs false
namespace Go.Proofs.YtjffhhalmicodaaW.PrintWords
open Go.RowKit
theorem add_plain (g j : Nat) : (⟨g, 0, none⟩ : Addr).add j = ⟨g, j, none⟩ := by unfold Addr.add; split <;> simp_all
section
variable {P : Program} {ops : Array Oper} {rest : List Oper} {o : Oper} {a : Act} {Q : Exit → Act → World → Prop}
end
section
variable {P : Program}
end
section
variable {P : Program} {ops : Array Oper} {rest : List Oper} {o : Oper} {a : Act} {Q : Exit → Act → World → Prop}
end
section
variable {P : Program} {ops : Array Oper} {rest : List Oper} {o : Oper} {a : Act} {Q : Exit → Act → World → Prop}
end
section
variable {P : Program} {ops : Array Oper} {o : Oper} {a : Act} {Q : Exit → Act → World → Prop} {K : Act → World → Prop}
end
section
variable {α : Type} {enc : α → Value} {d : α}
theorem own_at_of {W : World} {base g n cap : Nat} {e : TypeId} {xs : List α} (h : W.ownsRow base e 1 (.slice (some ⟨g, 0, none⟩) n cap) n (encs enc xs)) (i : Int) (h0 : 0 ≤ i) (h1 : i < n) :
    W.cell? ⟨g, i.toNat, none⟩ = some (enc (rdOf d xs i)) ∧ W.frozen? ⟨g, i.toNat, none⟩ = false := by
  have hl : xs.length = n := by have := h.1; simp [encs] at this; exact this
  constructor
  · have hc := h.cells (g := g) rfl i.toNat _ (encs_get (d := d) xs i.toNat (by omega))
    rwa [add_plain] at hc
  · rcases h.2 with ⟨h', _⟩ | ⟨g', cap', cur, h', _, hh, _⟩
    · cases h'
    · have : g = g' := by injection h' with h'; injection h' with h'; injection h' with h'
      subst this
      simp [World.frozen?, hh]
theorem own_store_of {W : World} {base g n cap : Nat} {e : TypeId} {xs : List α} (h : W.ownsRow base e 1 (.slice (some ⟨g, 0, none⟩) n cap) n (encs enc xs)) (i : Int) (x : α) :
    (W.setCell ⟨g, i.toNat, none⟩ (enc x)).ownsRow base e 1 (.slice (some ⟨g, 0, none⟩) n cap) n (encs enc (xs.set i.toNat x)) ∧ W.grownBy (W.setCell ⟨g, i.toNat, none⟩ (enc x)) (some g) := by
  have hs := h.stored i.toNat (enc x)
  have he : (encs enc xs).set i.toNat (enc x) = encs enc (xs.set i.toNat x) := by simp [encs, List.map_set]
  rwa [he] at hs
end
section
variable {α : Type} {P : Program} {ops : Array Oper} {rest : List Oper} {o : Oper} {a : Act} {Q : Exit → Act → World → Prop}
end
section
variable {P : Program}
end
section
variable {α : Type} {R R' : α → List Value → Prop} {e : TypeId} {size : Nat} {w w1 : World} {base : Nat} {v : Value} {ps : List α}
end
section
variable {P : Program} {ops : Array Oper} {rest : List Oper} {o : Oper} {a : Act} {Q : Exit → Act → World → Prop} {α : Type} {R : α → List Value → Prop}
end
section
variable {P : Program} {ops : Array Oper} {o : Oper} {a : Act} {Q : Exit → Act → World → Prop} {K : Act → World → Prop} {α : Type} {R : α → List Value → Prop}
end
section
variable {α : Type} {P : Program}
end
section
variable {P : Program} {ops : Array Oper} {rest : List Oper} {o : Oper} {a : Act} {Q : Exit → Act → World → Prop}
end
namespace Kd
section
variable {α : Type} {d : Kd α} {e : Nat} {w w1 : World} {base : Nat} {ok ok' : Nat → Prop} {v : Value} {xs : List α}
end
section
variable {P : Program} {ops : Array Oper} {rest : List Oper} {o : Oper} {a : Act} {Q : Exit → Act → World → Prop} {α : Type}
end
section
variable {P : Program} {ops : Array Oper} {o : Oper} {a : Act} {Q : Exit → Act → World → Prop} {Kc : Act → World → Prop} {α : Type}
end
end Kd
namespace Kd
section
variable {α : Type} {F : Kd α → Kd α} {sz : Nat} {E : List Nat} {hs : ∀ n, (upto F sz E n).sz = sz} {hE : ∀ n q, q ∈ (upto F sz E n).E → q ∈ E}
end
end Kd
namespace Kd
end Kd
namespace Kd
section
variable {α β : Type} {d : Kd α} {d' : Kd β} {e e' : Nat} {w w1 W : World} {base b b' : Nat} {ok ok' okv oku : Nat → Prop} {v u : Value} {xs : List α} {ys : List β}
theorem C_nil (d : Kd α) (w : World) : d.C w none ([] : List α).length [] := ⟨rfl, by simp, fun h => absurd h (Nat.lt_irrefl 0)⟩
theorem R_form (h : d.R e w base ok v xs) (hp : 0 < xs.length) : ∃ g cap, v = .slice (some ⟨g, 0, none⟩) xs.length cap ∧ base ≤ g ∧ g < w.heap.size ∧ ∃ cells, w.heap[g]? = some (.cells cells e (0, 0)) := by
  obtain ⟨inner, ho⟩ := R_own h
  obtain ⟨g, cap, he, hb, hl⟩ := ho.form hp
  obtain ⟨cells, hc⟩ := own_typed ho g (by rw [he]; simp [Value.ownBlock])
  exact ⟨g, cap, he, hb, hl, cells, hc⟩
end
section
variable {w W : World} {A : Option Addr} {n : Nat}
variable {α : Type} {enc : α → Value} {h1 : ∀ x, (enc x).oneCell' = true} {e base g cap : Nat} {ok : Nat → Prop} {xs : List α}
theorem R_cell (d : α) (h : (scalar enc h1).R e W base ok (.slice (some ⟨g, 0, none⟩) xs.length cap) xs) (i : Int) (h0 : 0 ≤ i) (hi : i < xs.length) : W.cell? ⟨g, i.toNat, none⟩ = some (enc (rdOf d xs i)) ∧ W.frozen? ⟨g, i.toNat, none⟩ = false := own_at_of (own_of_R h) i h0 hi
theorem R_put (h : (scalar enc h1).R e W base ok (.slice (some ⟨g, 0, none⟩) xs.length cap) xs) (i : Int) (x : α) : (scalar enc h1).R e (W.setCell ⟨g, i.toNat, none⟩ (enc x)) base ok (.slice (some ⟨g, 0, none⟩) xs.length cap) (xs.set i.toNat x) ∧ W.grownBy (W.setCell ⟨g, i.toNat, none⟩ (enc x)) (some g) := by
  obtain ⟨ho, hg⟩ := own_store_of (own_of_R h) i x
  exact ⟨R_of_own (by rw [List.length_set]; exact ho) h.1, hg⟩
end
section
variable {P : Program} {ops : Array Oper} {rest : List Oper} {o : Oper} {a : Act} {Q : Exit → Act → World → Prop}
variable {α : Type}
theorem reps_made {α : Type} {R : α → List Value → Prop} {z : Value} {size : Nat} {z0 : α} (hz : z.cells.size = size) (hs : 0 < size) (h0 : R z0 z.cells.toList) (m : Nat) : Reps R size (List.replicate m z0) (madeCells z.cells (m * size)).toList := by
  refine ⟨by simp [size_madeCells], fun j p hj => ?_⟩
  obtain ⟨hjl, hp⟩ := List.getElem?_eq_some_iff.1 hj
  have hjm : j < m := by simpa using hjl
  have hp' : z0 = p := by simpa using hp
  subst hp'
  have hle : j * size + size ≤ m * size := by rw [← Nat.succ_mul]; exact Nat.mul_le_mul_right _ hjm
  have : ((madeCells z.cells (m * size)).toList.drop (j * size)).take size = z.cells.toList := by
    apply List.ext_getElem
    · simp [size_madeCells, hz]
      omega
    · intro i h1 h2
      have hi : i < size := by rw [Array.length_toList, hz] at h2; exact h2
      have hmod : (j * size + i) % size = i := by
        rw [Nat.mul_comm, Nat.mul_add_mod]
        exact Nat.mod_eq_of_lt hi
      simp [madeCells, hz, hmod]
      rw [getElem!_pos z.cells i (by omega)]
  rw [this]
  exact h0
theorem R_make (d : Kd α) {w0 W : World} (base e : Nat) (hgd : o.guard = none) {N : Tmp} (hd : o.dst = some N) (t : TypeId) (x y : Operand) (ho : o.op = .makeSlice t x y) (n : Int) (hx : a.eval x = .int .i64 n) (hy : a.eval y = .int .i64 n)
    (ht : P.underlying t = some (.slice e)) (z : Value) (bytes : Nat) (hinfo : (P.info? e).map (fun i => (i.zero, i.size, i.bytes)) = some (some z, d.sz, bytes)) (hz : z.cells.size = d.sz) (hs0 : 0 < d.sz) (hb0 : 0 < bytes)
    (z0 : α) {ok okp : Nat → Prop} (hzero : d.M W base okp z0 z.cells.toList) (hok : ∀ k, okp k → ok k) (hfresh : ok W.heap.size) (h0 : 0 ≤ n) (hl : n.toNat * bytes ≤ 281474976710656) (HB : Below base w0 W) (hbase : base ≤ W.heap.size)
    (h : ∀ v1 w1, d.R e w1 base ok v1 (List.replicate n.toNat z0) → Below base w0 w1 → W.grownBy w1 none → (∃ b, v1.ownBlock = some b ∧ W.heap.size ≤ b) → wpList P ops Q rest (a.put o.dst v1) w1) : wpList P ops Q (o :: rest) a W := by
  obtain ⟨m, rfl⟩ := Int.eq_ofNat_of_zero_le h0
  simp only [Int.toNat_natCast] at hl h
  obtain ⟨i0, hi, hzz⟩ := Option.map_eq_some_iff.1 hinfo
  simp only [Prod.mk.injEq] at hzz
  obtain ⟨hz0, hz1, hz2⟩ := hzz
  have hm : m ≤ 281474976710656 := Nat.le_trans (Nat.le_mul_of_pos_right _ hb0) hl
  have hr := run_make (P := P) W t e i0 z ht hi hz0 .i64 .i64 (m : Int) (m : Int) (by omega) (by omega)
    (by
      have h3 : ((i0.bytes * m : Nat) : Int) ≤ 281474976710656 := by rw [hz2, Nat.mul_comm]; omega
      rwa [Int.natCast_mul] at h3) (by omega)
  simp only [Int.toNat_natCast] at hr
  rw [hz1] at hr
  refine R_lit d base e hgd hd (xs := List.replicate m z0) (inner := (madeCells z.cells (m * d.sz)).toList) (okp := okp) (ok := ok) ?_ (reps_made hz hs0 hzero m) hok hfresh HB hbase (by simp; omega) h
  simp [execOp, ho, hx, hy, hr]
end
end Kd
section
variable {P : Program}
end
section
variable {w w1 : World} {base n size : Nat} {e : TypeId} {v : Value} {xs : List Value}
theorem q_of_own (h : w.ownsRow base e size v n xs) : QRow w base e size v n xs := by
  obtain ⟨h1, h2⟩ := h
  refine ⟨h1, ?_⟩
  rcases h2 with ⟨rfl, h0⟩ | ⟨g, cap, cur, rfl, hb, hh, hnc, hcm, hcs, ht⟩
  · exact .inl ⟨h0, none, rfl, fun a ha => by cases ha⟩
  · exact .inr ⟨g, 0, cap, cur, by rw [Nat.zero_mul], hb, hh, hnc, by rw [Nat.zero_add]; exact hcm, by rw [Nat.zero_add]; exact hcs, by rw [Nat.zero_mul, List.drop_zero]; exact ht⟩
end
section
variable {P : Program}
end
namespace Kd
section
variable {α : Type} {d : Kd α} {e : Nat} {w w1 W : World} {base : Nat} {ok ok' : Nat → Prop} {v : Value} {xs : List α}
theorem Q_of_R (h : d.R e w base ok v xs) : d.Q e w base ok v xs := by
  obtain ⟨h0, inner, ho, hr⟩ := h
  exact ⟨h0, inner, q_of_own ho, hr⟩
theorem Q_nil (d : Kd α) (e : Nat) (w : World) (base : Nat) (ok : Nat → Prop) : d.Q e w base ok (.slice none 0 0) [] := Q_of_R (R_nil d e w base ok)
end
section
variable {P : Program} {ops : Array Oper} {rest : List Oper} {o : Oper} {a : Act} {Q' : Exit → Act → World → Prop} {Kc : Act → World → Prop} {α : Type}
end
end Kd
namespace Kd
section
variable {α : Type} {d : Kd α} {e e' : Nat} {w w1 W : World} {base : Nat} {ok : Nat → Prop} {u v : Value} {xs : List α}
end
end Kd
namespace Kd
section
variable {α : Type} {d : Kd α} {e base g n cap : Nat} {ok okp : Nat → Prop} {W : World} {xs : List α}
end
end Kd
namespace Kd
section
variable {α : Type} {F : Kd α → Kd α} {sz : Nat} {E : List Nat} {hs : ∀ n, (upto F sz E n).sz = sz} {hE : ∀ n q, q ∈ (upto F sz E n).E → q ∈ E}
end
end Kd
namespace Kd
section
variable {P : Program} {ops : Array Oper} {rest : List Oper} {o : Oper} {a : Act} {Q : Exit → Act → World → Prop} {α : Type}
end
end Kd
namespace Kd
section
variable {P : Program} {ops : Array Oper} {rest : List Oper} {o : Oper} {a : Act} {Q : Exit → Act → World → Prop} {α : Type}
end
end Kd
namespace Kd
section
variable {α : Type} {k : Kd α} {w : World} {A : Option Addr} {xs : List α} {m c : Nat}
end
end Kd
section
variable {P : Program}
end
namespace Kd
section
variable {α β : Type} {d : Kd α} {d' : Kd β} {e e' base base' n : Nat} {ok ok' : Nat → Prop} {w W w1 W1 : World} {v u : Value} {xs : List α} {ys : List β} {A : Option Addr} {c : Nat}
end
section
variable {α : Type} {enc : α → Value} {h1 : ∀ x, (enc x).oneCell' = true} {w W : World} {A : Option Addr} {n g : Nat} {xs : List α}
end
end Kd
namespace Kd
section
variable {α : Type} {d : Kd α} {e base g : Nat} {ok : Nat → Prop} {w w1 : World} {v : Value} {xs : List α} {o : Obj}
end
end Kd
section
variable {P : Program} {ops : Array Oper} {rest : List Oper} {o : Oper} {a : Act} {Q : Exit → Act → World → Prop}
end
namespace Kd
section
variable {α : Type} {enc : α → Value} {h1 : ∀ x, (enc x).oneCell' = true} {e base g n cap : Nat} {ok : Nat → Prop} {W : World} {xs : List α}
theorem R_celln (d : α) (h : (scalar enc h1).R e W base ok (.slice (some ⟨g, 0, none⟩) n cap) xs) (i : Int) (h0 : 0 ≤ i) (hi : i < n) : W.cell? ⟨g, i.toNat, none⟩ = some (enc (rdOf d xs i)) ∧ W.frozen? ⟨g, i.toNat, none⟩ = false := by
  obtain ⟨rfl, _⟩ := R_reads' h
  exact R_cell d h i h0 hi
theorem R_putn (h : (scalar enc h1).R e W base ok (.slice (some ⟨g, 0, none⟩) n cap) xs) (i : Int) (x : α) : (scalar enc h1).R e (W.setCell ⟨g, i.toNat, none⟩ (enc x)) base ok (.slice (some ⟨g, 0, none⟩) n cap) (xs.set i.toNat x) := by
  obtain ⟨rfl, _⟩ := R_reads' h
  exact (R_put h i x).1
end
end Kd
section
variable {P : Program} {ops : Array Oper} {rest : List Oper} {o : Oper} {a : Act} {Q : Exit → Act → World → Prop}
end
namespace Kd
section
variable {α : Type} {enc : α → Value} {h1 : ∀ x, (enc x).oneCell' = true} {e base g n cap : Nat} {ok : Nat → Prop} {W : World} {xs : List α}
end
end Kd
section
variable {P : Program} {ops : Array Oper} {rest : List Oper} {o : Oper} {a : Act} {Q : Exit → Act → World → Prop} {W : World}
end
section
variable {P : Program} {ops : Array Oper} {o : Oper} {a : Act} {Q : Exit → Act → World → Prop} {Kc : Act → World → Prop}
namespace Kd
variable {α : Type}
end Kd
end
section
variable {P : Program} {tmps : Array Value} {w : World}
end
namespace Kd
section
variable {P : Program} {α : Type}
end
section
variable {P : Program} {ops : Array Oper} {rest : List Oper} {o : Oper} {a : Act} {Q : Exit → Act → World → Prop} {Kc : Act → World → Prop} {α : Type}
end
end Kd
end Go.Proofs.YtjffhhalmicodaaW.PrintWords
end
section
namespace Go.Proofs.YtjffhhalmicodaaW.PrintLast
section
variable {P : Program} {ops : Array Oper} {Q : Exit → Act → World → Prop} {md : Region.Mode} {S : World → Prop} {ds : List Nat}
end
section
variable {P : Program} {ops : Array Oper} {Q : Exit → Act → World → Prop} {md : Region.Mode} {S : World → Prop} {ds : List Nat}
end
end Go.Proofs.YtjffhhalmicodaaW.PrintLast
end
section
namespace Go.Proofs.YtjffhhalmicodaaW.PrintWords
open Go.RowKit
namespace Kd
section
variable {α β : Type} {d : Kd α} {d' : Kd β} {e e' : Nat} {w w1 W : World} {base b : Nat} {ok ok' okv oku : Nat → Prop} {u v : Value} {xs : List α} {ys : List β}
theorem S_nil (d : Kd α) (e : Nat) (w : World) (base : Nat) (ok : Nat → Prop) : S d e w base ok (.slice none 0 0) [] := ⟨fun _ => 0, R_nil _ _ _ _ _⟩
end
section
variable {α β : Type} {d : Kd α} {d' : Kd β} {e e' g : Nat} {w w1 W : World} {base b : Nat} {ok ok' okv oku : Nat → Prop} {u v : Value} {xs : List α} {ys : List β}
end
section
open Classical in
variable {P : Program} {ops : Array Oper} {rest : List Oper} {o : Oper} {a : Act} {Q : Exit → Act → World → Prop} {Kc : Act → World → Prop} {α : Type}
end
section
variable {α β : Type} {d : Kd α} {e e' g n cap : Nat} {w w1 W : World} {base : Nat} {ok ok' oki okp : Nat → Prop} {u v : Value} {xs : List α} {i : Int} {c : List Value}
open Classical in
end
section
variable {P : Program} {ops : Array Oper} {rest : List Oper} {o : Oper} {a : Act} {Q : Exit → Act → World → Prop} {α : Type}
end
end Kd
end Go.Proofs.YtjffhhalmicodaaW.PrintWords
end
section
namespace Go.Proofs.YtjffhhalmicodaaW.PrintWords
open Go.RowKit
namespace Foot
variable {P Q : World → Prop} {W W1 : World} {ok ok' : Nat → Prop}
end Foot
namespace Kd
section
variable {α β : Type} {d : Kd α} {e base n n' cc g N : Nat} {ok ok' okp S : Nat → Prop} {w w0 w1 W W1 : World} {A A' : Option Addr} {u v v1 : Value} {xs : List α} {xs' : List β} {d' : Kd β} {x : α} {c : List Value}
theorem F_nil (d : Kd α) (W : World) (ok : Nat → Prop) : F d W ok none ([] : List α).length [] := fun W' _ => C_nil d W'
theorem FK_of_M (h : d.M W base ok x c) : FK d W ok x c := fun _ hW => d.K_of_M (M_step h hW)
end
end Kd
end Go.Proofs.YtjffhhalmicodaaW.PrintWords
end
section
namespace Go.Proofs.YtjffhhalmicodaaW.PrintWords
open Go.RowKit
namespace Kd
def chunks (sz : Nat) (n : Nat) (inner : List Value) : List (List Value) := (List.range n).map fun j => (inner.drop (j * sz)).take sz
theorem chunks_length (sz n : Nat) (inner : List Value) : (chunks sz n inner).length = n := by simp [chunks]
theorem chunks_at {sz n : Nat} {inner : List Value} {j : Nat} (hj : j < n) : (chunks sz n inner)[j]? = some ((inner.drop (j * sz)).take sz) := by simp [chunks, hj]
theorem chunks_get {sz n : Nat} {inner : List Value} {j : Nat} {c : List Value} (h : (chunks sz n inner)[j]? = some c) : c = (inner.drop (j * sz)).take sz := by
  have hj : j < n := by have := (List.getElem?_eq_some_iff.1 h).1; rwa [chunks_length] at this
  rw [chunks_at hj] at h
  injection h with h
  exact h.symm
theorem reps_raw {α : Type} {Rr : α → List Value → Prop} {sz : Nat} {xs : List α} {inner : List Value} (h : Reps Rr sz xs inner) (hR : ∀ x c, Rr x c → c.length = sz ∧ ∀ u ∈ c, u.oneCell' = true) : Reps (fun x cs => cs = x ∧ cs.length = sz ∧ ∀ u ∈ cs, u.oneCell' = true) sz (chunks sz xs.length inner) inner := by
  refine ⟨by rw [chunks_length]; exact h.1, fun j p hj => ?_⟩
  have hjl : j < xs.length := by have := (List.getElem?_eq_some_iff.1 hj).1; rwa [chunks_length] at this
  have hp := chunks_get hj
  exact ⟨hp.symm, hR _ _ (h.2 j _ (List.getElem?_eq_getElem hjl))⟩
section
variable {α : Type} {d : Kd α} {e base n cc g : Nat} {ok ok' okp S : Nat → Prop} {w w1 W W1 : World} {A : Option Addr} {u v v1 : Value} {xs : List α} {x : α} {c : List Value}
theorem R_N (h : d.R e w base ok v xs) : N d e w base ok v xs := by
  obtain ⟨h0, inner, ho, hr⟩ := h
  refine ⟨h0, chunks d.sz xs.length inner, chunks_length _ _ _, ⟨fun k hk => hk.symm, inner, by rw [chunks_length]; exact ho, reps_raw hr (fun x c hp => ⟨d.K_len (d.K_of_M hp), d.K_one (d.K_of_M hp)⟩)⟩, fun j x c hx hc => ?_⟩
  rw [chunks_get hc]
  exact FK_of_M (hr.2 j x hx)
theorem N_nil (d : Kd α) (e : Nat) (w : World) (base : Nat) (ok : Nat → Prop) : N d e w base ok (.slice none 0 0) [] := R_N (R_nil _ _ _ _ _)
end
end Kd
end Go.Proofs.YtjffhhalmicodaaW.PrintWords
end
section
namespace Go.Proofs.YtjffhhalmicodaaW.PrintMore
open Go.RowKit Go.Proofs.YtjffhhalmicodaaW.PrintWords
namespace Kd
open Go.Proofs.YtjffhhalmicodaaW.PrintWords.Kd
end Kd
namespace Kd
open Go.Proofs.YtjffhhalmicodaaW.PrintWords.Kd
section
variable {α : Type} {d : Kd α} {e base g N : Nat} {ok : Nat → Prop} {W w1 : World} {u v : Value} {xs : List α}
end
end Kd
end Go.Proofs.YtjffhhalmicodaaW.PrintMore
namespace Go.Proofs.YtjffhhalmicodaaW.PrintWords
open Go.RowKit
section
variable {P : Program} {ops : Array Oper} {rest : List Oper} {o : Oper} {a : Act} {Q : Exit → Act → World → Prop} {W : World}
end
namespace Kd
section
variable {α : Type} {d : Kd α} {e base : Nat} {ok : Nat → Prop} {W w1 : World} {v : Value} {xs : List α}
end
section
variable {α : Type} {d : Kd α} {e base g n cap : Nat} {ok oki okp : Nat → Prop} {W : World} {xs : List α} {i : Int} {c : List Value}
end
section
variable {α : Type} {d : Kd α} {e base b b' g N : Nat} {ok ok1 : Nat → Prop} {W W2 w1 : World} {u v : Value} {xs ys : List α} {S : Nat → Prop}
end
end Kd
end Go.Proofs.YtjffhhalmicodaaW.PrintWords
namespace Go.Proofs.YtjffhhalmicodaaW.PrintWords
open Go.RowKit
namespace Kd
section
variable {α β : Type} {d : Kd α} {e base base' n m c g N' lo hi : Nat} {ok ok' S : Nat → Prop} {w W w1 : World} {A : Option Addr} {ad : Addr} {u v v1 : Value} {xs : List α}
theorem V_nil (d : Kd α) (e : Nat) (W : World) (base : Nat) (ok : Nat → Prop) : V d e W base ok (.slice none 0 0) [] := ⟨none, 0, rfl, Nat.le_refl _, F_nil d W ok⟩
end
end Kd
end Go.Proofs.YtjffhhalmicodaaW.PrintWords
end
end

section
namespace Go.Proofs.Ytjffhhalmicodaa.PF
open Go.RowKit Go.Proofs.YtjffhhalmicodaaW.PrintWords Go.Proofs.YtjffhhalmicodaaW.PrintLast Go.Proofs.YtjffhhalmicodaaW.PrintMore
attribute [local go_sem] max2_int min2_int max_two min_two max_three min_three max_four min_four
set_option linter.unusedVariables false
set_option linter.unusedSimpArgs false
def errW : Option Int → Value
  | none => .nilIface
  | some c => .iface 0 (.int .i64 c)
theorem errW_none : errW none = .nilIface := rfl
theorem errW_some (c : Int) : errW (some c) = .iface 0 (.int .i64 c) := rfl
theorem info3 : (Try.prog.info? 3).map (fun i => (i.zero, i.size, i.bytes)) = some (some (.int .i64 0), 1, 8) := by kernel_rfl
end Go.Proofs.Ytjffhhalmicodaa.PF
end

section
namespace Go.Proofs.Ytjffhhalmicodaa.PF
open Go.RowKit Go.Proofs.YtjffhhalmicodaaW.PrintWords Go.Proofs.YtjffhhalmicodaaW.PrintLast Go.Proofs.YtjffhhalmicodaaW.PrintMore
attribute [local go_sem] max2_int min2_int max_two min_two max_three min_three max_four min_four
set_option linter.unusedVariables false
set_option linter.unusedSimpArgs false
def fixes_Classes.l0 : Nat → List Int → List Int → Int → Int → Option (List Int × Int)
  | 0, _, _, _, _ => none
  | k + 1, x5, x17, x18, x19 => if x19 < x18 then (if 0 ≤ x19 then (if x19 < (x17.length : Int) then (if 0 ≤ (rd x17 x19) then (if (rd x17 x19) < (x5.length : Int) then (fixes_Classes.l0 k (x5.set ((rd x17 x19) : Int).toNat (Go.bits .or .i64 (rd x5 (rd x17 x19)) (shl .i64 1 x19))) x17 x18 (wrap64 (x19 + 1))) else (none)) else (none)) else (none)) else (none)) else (some (x5, 0))
def fixes_Classes.f (k : Nat) (l0_0 : List Int) (l0_1 : List Int) : Option (List Int × Int) := (Go.Proofs.Ytjffhhalmicodaa.PA.fixes_Works_valid.f l0_0 l0_1).bind fun t102 => (if t102 = true then ((Go.Proofs.Ytjffhhalmicodaa.X.fixes_classes.f k l0_0 l0_1).bind fun t103 => ((Go.Proofs.Ytjffhhalmicodaa.X.slices_Max.f t103).bind fun t106 => (if 0 ≤ (wrap64 (t106 + 1)) then (if (wrap64 (t106 + 1) : Int).toNat ≤ 35184372088832 then (fixes_Classes.l0 k (List.replicate (wrap64 (t106 + 1) : Int).toNat 0) t103 (t103.length : Int) 0) else (none)) else (none)))) else (some (([] : List Int), 2)))
def fixes_Classes.T8 : Bool × List (List Nat × List Nat) := (true, [([], []), ([], []), ([0, 1], [0, 1]), ([2], [2]), ([], []), ([4], [4]), ([3, 5], [3, 5]), ([0, 1, 0, 1, 2, 3, 4, 5, 6], [0, 1]), ([7, 6, 0, 1, 2, 3, 4, 5, 6], [6, 7])])
def fixes_Classes.B8 : List Nat := [0, 0, 3, 7, 0, 16, 63, 127, 255]
theorem fixes_Classes.tab8 : rtab .any (opsOf Try.f33 8) = fixes_Classes.T8 := by kernel_rfl
theorem fixes_Classes.bits8 : waitsOk fixes_Classes.T8.2 fixes_Classes.B8 = true := by kernel_rfl
set_option maxHeartbeats 8000000 in
set_option maxRecDepth 100000 in
theorem fixes_Classes.calls (k : Nat) (A0_0 : Option Addr) (c0_0 : Nat) (l0_0 : List Int) (A0_1 : Option Addr) (c0_1 : Nat) (l0_1 : List Int) (r1 : List Int) (r2 : Int) (w : World) (hr0_0 : Kd.C (Kd.int .i64) w A0_0 l0_0.length l0_0) (hc0_0 : l0_0.length ≤ c0_0) (hr0_1 : Kd.C (Kd.int .i64) w A0_1 l0_1.length l0_1) (hc0_1 : l0_1.length ≤ c0_1) (h : fixes_Classes.f k l0_0 l0_1 = some (r1, r2)) :
    Calls Try.prog 33 #[.agg #[.slice A0_0 l0_0.length c0_0, .slice A0_1 l0_1.length c0_1]] w fun e w' => ∃ v0_ : Value, e = .returned (.tuple #[v0_, .int .i64 r2]) ∧ Kd.R (Kd.int .i64) 3 w' w.heap.size (fun _ => True) v0_ r1 ∧ Below w.heap.size w w' := by
  have hu28 := Try.underlying28
  have HR0_0 := Aside0.mk hr0_0
  have HC0_0 := Aside0.mk hc0_0
  clear hr0_0 hc0_0
  have HR0_1 := Aside0.mk hr0_1
  have HC0_1 := Aside0.mk hc0_1
  clear hr0_1 hc0_1
  have HB := Aside0.mk (Below.refl w.heap.size w)
  have H : ((Go.Proofs.Ytjffhhalmicodaa.PA.fixes_Works_valid.f l0_0 l0_1).bind fun t102 => (if t102 = true then ((Go.Proofs.Ytjffhhalmicodaa.X.fixes_classes.f k l0_0 l0_1).bind fun t103 => ((Go.Proofs.Ytjffhhalmicodaa.X.slices_Max.f t103).bind fun t106 => (if 0 ≤ (wrap64 (t106 + 1)) then (if (wrap64 (t106 + 1) : Int).toNat ≤ 35184372088832 then (fixes_Classes.l0 k (List.replicate (wrap64 (t106 + 1) : Int).toNat 0) t103 (t103.length : Int) 0) else (none)) else (none)))) else (some (([] : List Int), 2)))) = some (r1, r2) := h
  clear h
  replace H := Option.bind_eq_some_iff.mp H
  obtain ⟨t102, A20, H⟩ := H
  replace H : (if t102 = true then ((Go.Proofs.Ytjffhhalmicodaa.X.fixes_classes.f k l0_0 l0_1).bind fun t103 => ((Go.Proofs.Ytjffhhalmicodaa.X.slices_Max.f t103).bind fun t106 => (if 0 ≤ (wrap64 (t106 + 1)) then (if (wrap64 (t106 + 1) : Int).toNat ≤ 35184372088832 then (fixes_Classes.l0 k (List.replicate (wrap64 (t106 + 1) : Int).toNat 0) t103 (t103.length : Int) 0) else (none)) else (none)))) else (some (([] : List Int), 2))) = some (r1, r2) := H
  have A2 := Aside0.mk A20
  clear A20
  by_cases c3 : t102 = true
  · subst c3
    have H1 : ((Go.Proofs.Ytjffhhalmicodaa.X.fixes_classes.f k l0_0 l0_1).bind fun t103 => ((Go.Proofs.Ytjffhhalmicodaa.X.slices_Max.f t103).bind fun t106 => (if 0 ≤ (wrap64 (t106 + 1)) then (if (wrap64 (t106 + 1) : Int).toNat ≤ 35184372088832 then (fixes_Classes.l0 k (List.replicate (wrap64 (t106 + 1) : Int).toNat 0) t103 (t103.length : Int) 0) else (none)) else (none)))) = some (r1, r2) := by rw [if_pos rfl] at H; exact H
    clear H
    have H := H1
    clear H1
    replace H := Option.bind_eq_some_iff.mp H
    obtain ⟨t103, A40, H⟩ := H
    replace H : ((Go.Proofs.Ytjffhhalmicodaa.X.slices_Max.f t103).bind fun t106 => (if 0 ≤ (wrap64 (t106 + 1)) then (if (wrap64 (t106 + 1) : Int).toNat ≤ 35184372088832 then (fixes_Classes.l0 k (List.replicate (wrap64 (t106 + 1) : Int).toNat 0) t103 (t103.length : Int) 0) else (none)) else (none))) = some (r1, r2) := H
    have A4 := Aside0.mk A40
    clear A40
    replace H := Option.bind_eq_some_iff.mp H
    obtain ⟨t106, A50, H⟩ := H
    replace H : (if 0 ≤ (wrap64 (t106 + 1)) then (if (wrap64 (t106 + 1) : Int).toNat ≤ 35184372088832 then (fixes_Classes.l0 k (List.replicate (wrap64 (t106 + 1) : Int).toNat 0) t103 (t103.length : Int) 0) else (none)) else (none)) = some (r1, r2) := H
    have A5 := Aside0.mk A50
    clear A50
    obtain ⟨ji6, hji6⟩ : ∃ j_ : Int, (wrap64 (t106 + 1)) = j_ := ⟨_, rfl⟩
    replace H : (if 0 ≤ (ji6) then (if (ji6 : Int).toNat ≤ 35184372088832 then (fixes_Classes.l0 k (List.replicate (ji6 : Int).toNat 0) t103 (t103.length : Int) 0) else (none)) else (none)) = some (r1, r2) := by first | (rw [hji6] at H; exact H) | (simp only [hji6] at H ⊢; exact H)
    (try rw [hji6] at A2)
    (try rw [hji6] at A4)
    (try rw [hji6] at A5)
    have hji6w : (IntKind.i64.wrap (t106 + 1)) = ji6 := (i64_w _).trans hji6
    by_cases c7 : 0 ≤ (ji6)
    · rw [if_pos c7] at H
      have c7b0 := eq_true c7
      have c7b1 : decide (0 ≤ (ji6)) = true := decide_eq_true c7
      clear c7
      by_cases c8 : (ji6 : Int).toNat ≤ 35184372088832
      · rw [if_pos c8] at H
        have c8b0 := eq_true c8
        have c8b1 : decide ((ji6 : Int).toNat ≤ 35184372088832) = true := decide_eq_true c8
        clear c8
        obtain ⟨y107, hy107⟩ : ∃ y_ : List Int, y_ = (List.replicate (ji6 : Int).toNat 0) := ⟨_, rfl⟩
        replace H : (fixes_Classes.l0 k y107 t103 (t103.length : Int) 0) = some (r1, r2) := by first | (rw [hy107]; with_reducible exact H) | (have H2_ := (Option.bind_some _ _).symm.trans H; rw [hy107]; with_reducible exact H2_) | (have H2_ := (Option.bind_some _ _).symm.trans H; with_reducible exact H2_) | with_reducible exact H | (rw [hy107]; exact H) | exact H
        have Ny107 := Aside0.mk hy107
        clear hy107
        have H' := Aside0.mk H
        clear H
        go_enter Try.func33, Try.ntmps33
        go_wp2_with (first | ((with_reducible refine gate_dst (N := 1) rfl ?_); refine box_event ?hg (N := 1) ?hd (cs := #[.slice A0_0 l0_0.length c0_0, .slice A0_1 l0_1.length c0_1]) (t := 28) ?hr ?_; (case hd => rfl); (case hg => rfl); (case hr => first | (go_simp; done) | (go_simp; rfl)); intro gb101 hg w9 hbox hb; have n0_ := Aside0.mk (below_step (by repeat (first | (with_reducible first | exact HB.out | apply below_alloc | apply pw_below_drewN | apply below_drew1) | exact HB.out)) hb); have n1_ := Aside0.mk (hbox); have n2_ := Aside0.mk ((by rw [hg]; exact (below_size (by repeat (first | (with_reducible first | exact HB.out | apply below_alloc | apply pw_below_drewN | apply below_drew1) | exact HB.out))) : w.heap.size ≤ gb101)); have n3_ := Aside0.mk ((by rw [hg]; exact (below_size (by repeat (first | (with_reducible first | exact HB.out | apply below_alloc | apply pw_below_drewN | apply below_drew1) | exact HB.out))) : w.heap.size ≤ gb101)); clear HB; have HB := n0_; have BK101 := n1_; have GW101 := n2_; have GE101 := n3_; clear n0_ n1_ n2_ n3_; clear hb hbox hg; have hcz10_0 : w9.cell? ⟨gb101, 0, none⟩ = some (.slice A0_0 l0_0.length c0_0) := (blk_cell BK101.out 0).trans rfl; have hcz10_1 : w9.cell? ⟨gb101, 1, none⟩ = some (.slice A0_1 l0_1.length c0_1) := (blk_cell BK101.out 1).trans rfl; have hfz10_0 := blk_frozen BK101.out 0; have hfz10_1 := blk_frozen BK101.out 1) | ((with_reducible refine gate_callee (f := 61) rfl ?_); refine goesL_ (some 9) rfl rfl Try.func61 (by kernel_rfl) rfl #[.agg #[.slice A0_0 l0_0.length c0_0, .slice A0_1 l0_1.length c0_1]] rfl (by (try simp only [List.map_toArray, List.map_cons, List.map_nil]); first | done | rfl | (simp only [List.length_drop, List.length_take]; rfl)) ?_; (with_reducible refine (Go.Proofs.Ytjffhhalmicodaa.PA.fixes_Works_valid.calls _ _ l0_0 _ _ l0_1 true _ ?side1 ?side2 ?side3 ?side4 A2.out).mono ?_); (case side1 => repeat (first | exact (Kd.C_below HR0_0.out HB.out) | (with_reducible refine Kd.C_alloc ?_ _) | (with_reducible refine Kd.C_drewN ?_ _) | (with_reducible refine Kd.C_drew ?_))); (case side2 => exact HC0_0.out); (case side3 => repeat (first | exact (Kd.C_below HR0_1.out HB.out) | (with_reducible refine Kd.C_alloc ?_ _) | (with_reducible refine Kd.C_drewN ?_ _) | (with_reducible refine Kd.C_drew ?_))); (case side4 => exact HC0_1.out); rintro e w11 ⟨rfl, hb⟩; refine ⟨_, rfl, ?_⟩; have n0_ := Aside0.mk (blk_below (g := gb101) (o := .cells #[.slice A0_0 l0_0.length c0_0, .slice A0_1 l0_1.length c0_1] 28 (0, 0)) (by (with_reducible repeat (first | refine blk_drewN ?_ _ | refine blk_drew ?_ | refine blk_alloc ?_ _)); exact BK101.out) hb); have n1_ := Aside0.mk (below_step (by repeat (first | (with_reducible first | exact HB.out | apply below_alloc | apply pw_below_drewN | apply below_drew1 | refine below_set ?_ GE101.out) | exact HB.out)) hb); clear BK101; clear HB; have BK101 := n0_; have HB := n1_; clear n0_ n1_; (try clear hb); (try clear hb2); (try clear hk); (try clear hi); have hcz12_0 : w11.cell? ⟨gb101, 0, none⟩ = some (.slice A0_0 l0_0.length c0_0) := (blk_cell BK101.out 0).trans rfl; have hcz12_1 : w11.cell? ⟨gb101, 1, none⟩ = some (.slice A0_1 l0_1.length c0_1) := (blk_cell BK101.out 1).trans rfl; have hfz12_0 := blk_frozen BK101.out 0; have hfz12_1 := blk_frozen BK101.out 1) | ((with_reducible refine gate_callee (f := 62) rfl ?_); refine goesL_ (some 12) rfl rfl Try.func62 (by kernel_rfl) rfl #[.agg #[.slice A0_0 l0_0.length c0_0, .slice A0_1 l0_1.length c0_1]] rfl (by (try simp only [List.map_toArray, List.map_cons, List.map_nil]); first | done | rfl | (simp only [List.length_drop, List.length_take]; rfl)) ?_; (with_reducible refine (Go.Proofs.Ytjffhhalmicodaa.X.fixes_classes.calls k _ _ l0_0 _ _ l0_1 t103 _ ?side1 ?side2 ?side3 ?side4 A4.out).mono ?_); (case side1 => repeat (first | exact (Kd.C_below HR0_0.out HB.out) | (with_reducible refine Kd.C_alloc ?_ _) | (with_reducible refine Kd.C_drewN ?_ _) | (with_reducible refine Kd.C_drew ?_))); (case side2 => exact HC0_0.out); (case side3 => repeat (first | exact (Kd.C_below HR0_1.out HB.out) | (with_reducible refine Kd.C_alloc ?_ _) | (with_reducible refine Kd.C_drewN ?_ _) | (with_reducible refine Kd.C_drew ?_))); (case side4 => exact HC0_1.out); rintro e w13 ⟨v104, rfl, ho0, hb⟩; refine ⟨_, rfl, ?_⟩; have n0_ := Aside0.mk (Kd.R_lower ho0 (below_size (by repeat (first | (with_reducible first | exact HB.out | apply below_alloc | apply pw_below_drewN | apply below_drew1 | refine below_set ?_ GE101.out) | exact HB.out)))); have n1_ := Aside0.mk (blk_below (g := gb101) (o := .cells #[.slice A0_0 l0_0.length c0_0, .slice A0_1 l0_1.length c0_1] 28 (0, 0)) (by (with_reducible repeat (first | refine blk_drewN ?_ _ | refine blk_drew ?_ | refine blk_alloc ?_ _)); exact BK101.out) hb); have n2_ := Aside0.mk (below_step (by repeat (first | (with_reducible first | exact HB.out | apply below_alloc | apply pw_below_drewN | apply below_drew1 | refine below_set ?_ GE101.out) | exact HB.out)) hb); clear BK101; clear HB; have HO105 := n0_; have BK101 := n1_; have HB := n2_; clear n0_ n1_ n2_; (try clear hb); (try clear hb2); (try clear hk); (try clear hi); (try clear ho0); obtain ⟨Ao14, co14, eo14⟩ := Kd.R_slice HO105.out; subst eo14) | ((with_reducible refine gate_callee (f := 63) rfl ?_); refine goesL_ (some 14) rfl rfl Try.func63 (by kernel_rfl) rfl #[.slice Ao14 t103.length co14] rfl (by (try simp only [List.map_toArray, List.map_cons, List.map_nil]); first | done | rfl | (simp only [List.length_drop, List.length_take]; rfl)) ?_; (with_reducible refine (Go.Proofs.Ytjffhhalmicodaa.X.slices_Max.calls _ _ t103 t106 _ ?side1 ?side2 A5.out).mono ?_); (case side1 => repeat (first | exact (Kd.R_reads' HO105.out).2.2 | (with_reducible refine Kd.C_alloc ?_ _) | (with_reducible refine Kd.C_drewN ?_ _) | (with_reducible refine Kd.C_drew ?_))); (case side2 => exact (Kd.R_reads' HO105.out).2.1); rintro e w' ⟨rfl, ⟨nd, rfl⟩⟩; refine ⟨_, rfl, ?_⟩) | ((with_reducible refine gate_dst (N := 16) rfl ?_); refine Kd.R_make (Kd.int .i64) _ 3 rfl (N := 16) rfl 22 _ _ rfl ji6 rfl rfl Try.underlying22 (.int .i64 0) 8 info3 rfl (by decide) (by omega) 0 (ok := fun _ => True) (okp := fun _ => True) rfl (fun _ hk => hk) trivial (of_decide_eq_true (by first | (with_reducible assumption) | assumption)) (Nat.le_trans (Nat.mul_le_mul_right _ (of_decide_eq_true (by first | (with_reducible assumption) | assumption) : ji6.toNat ≤ 35184372088832)) (by omega)) (Below.refl _ _) (Nat.le_refl _) ?_; intro v108 w15 ho16 hb hg_ hnew_; clear hg_ hnew_; (first | rw [← Ny107.out] at ho16 | (simp only [Int.reduceToNat] at ho16; rw [← Ny107.out] at ho16)); have n0_ := Aside0.mk (Kd.R_elder' (by (with_reducible repeat (first | apply Kd.R_alloc | apply Kd.R_drewN | apply Kd.R_drew)); exact HO105.out) (Kd.R_base ho16) hb); have n1_ := Aside0.mk (Kd.R_lower (Kd.R_new' ho16 (Kd.R_lt (by (with_reducible repeat (first | apply Kd.R_alloc | apply Kd.R_drewN | apply Kd.R_drew)); exact HO105.out))) (below_size (by repeat (first | (with_reducible first | exact HB.out | apply below_alloc | apply pw_below_drewN | apply below_drew1 | refine below_set ?_ GE101.out) | exact HB.out)))); have n2_ := Aside0.mk (blk_below (g := gb101) (o := .cells #[.slice A0_0 l0_0.length c0_0, .slice A0_1 l0_1.length c0_1] 28 (0, 0)) (by (with_reducible repeat (first | refine blk_drewN ?_ _ | refine blk_drew ?_ | refine blk_alloc ?_ _)); exact BK101.out) hb); have n3_ := Aside0.mk (below_step (by repeat (first | (with_reducible first | exact HB.out | apply below_alloc | apply pw_below_drewN | apply below_drew1 | refine below_set ?_ GE101.out) | exact HB.out)) hb); clear HO105; clear BK101; clear HB; have HO105 := n0_; have HO109 := n1_; have BK101 := n2_; have HB := n3_; clear n0_ n1_ n2_ n3_; clear hb ho16))
        go_loopg [19] k (fun kq v19 w' => ∃ (x5_1 : List Int) (x19_1 : Int), v19 = .int .i64 x19_1 ∧ Aside0 (fixes_Classes.l0 kq x5_1 t103 (t103.length : Int) x19_1 = some (r1, r2)) ∧ Aside0 (kq ≤ k) ∧ Aside0 (Kd.R (Kd.int .i64) 3 w' w.heap.size (fun k_ => some k_ ≠ ((.slice Ao14 t103.length co14) : Value).ownBlock) v108 x5_1) ∧ Aside0 (Kd.R (Kd.int .i64) 3 w' w.heap.size (fun k_ => some k_ ≠ (v108 : Value).ownBlock) (.slice Ao14 t103.length co14) t103) ∧ Aside0 (w'.heap[gb101]? = some (.cells #[(.slice A0_0 l0_0.length c0_0), (.slice A0_1 l0_1.length c0_1)] 28 (0, 0))) ∧ Aside0 (Below w.heap.size w w'))
        case atStart => exact ⟨(y107), (0), (by first | rfl | (simp; done) | (simp [*]; done)), H', ⟨Nat.le_refl _⟩, ⟨by (with_reducible repeat (first | apply Kd.R_alloc | apply Kd.R_drewN | apply Kd.R_drew)); exact Kd.R_mono HO109.out (fun _ hk => hk.2)⟩, ⟨by (with_reducible repeat (first | apply Kd.R_alloc | apply Kd.R_drewN | apply Kd.R_drew)); exact Kd.R_mono HO105.out (fun _ hk => hk.2)⟩, ⟨by (with_reducible repeat (first | refine blk_drewN ?_ _ | refine blk_drew ?_ | refine blk_alloc ?_ _)); exact BK101.out⟩, ⟨by repeat (first | (with_reducible first | exact HB.out | apply below_alloc | apply pw_below_drewN | apply below_drew1 | refine below_set ?_ GE101.out) | exact HB.out)⟩⟩
        case round =>
          clear H'
          try clear p2
          try clear c3
          try clear c6
          try clear p6
          try clear c7
          try clear c7b0
          try clear c7b1
          try clear c8
          try clear c8b0
          try clear c8b1
          try clear hcz10_0
          try clear hcz10_1
          try clear hcz12_0
          try clear hcz12_1
          try clear hfz10_0
          try clear hfz10_1
          try clear hfz12_0
          try clear hfz12_1
          obtain ⟨x5_1, x19_1, rfl, HA, HK1, HO_5, HO_17, BK101, HB⟩ := hrel
          cases gk with
          | zero => exact absurd HA.out (by simp [fixes_Classes.l0])
          | succ k1 =>
            have H := HA.out
            clear HA
            simp only [fixes_Classes.l0] at H
            by_cases c17 : x19_1 < (t103.length : Int)
            · rw [if_pos c17] at H
              have c17b0 : decide (x19_1 < (t103.length : Int)) = true := decide_eq_true c17
              clear c17
              by_cases c18 : 0 ≤ x19_1
              · rw [if_pos c18] at H
                have c18b0 : decide (0 ≤ x19_1) = true := decide_eq_true c18
                clear c18
                by_cases c19 : x19_1 < (t103.length : Int)
                · rw [if_pos c19] at H
                  have c19b0 : decide (x19_1 < (t103.length : Int)) = true := decide_eq_true c19
                  clear c19
                  by_cases c20 : 0 ≤ (rd t103 x19_1)
                  · rw [if_pos c20] at H
                    have c20b0 : decide (0 ≤ (rd t103 x19_1)) = true := decide_eq_true c20
                    clear c20
                    by_cases c21 : (rd t103 x19_1) < (x5_1.length : Int)
                    · rw [if_pos c21] at H
                      have c21b0 : decide ((rd t103 x19_1) < (x5_1.length : Int)) = true := decide_eq_true c21
                      clear c21
                      have c22b0 := eq_true (of_decide_eq_true (by first | (with_reducible assumption) | assumption) : 0 ≤ x19_1)
                      obtain ⟨ji23, hji23⟩ : ∃ j_ : Int, (shl .i64 1 x19_1) = j_ := ⟨_, rfl⟩
                      replace H : (fixes_Classes.l0 k1 (x5_1.set ((rd t103 x19_1) : Int).toNat (Go.bits .or .i64 (rd x5_1 (rd t103 x19_1)) (ji23))) t103 (t103.length : Int) (wrap64 (x19_1 + 1))) = some (r1, r2) := by first | (rw [hji23] at H; exact H) | (simp only [hji23] at H ⊢; exact H)
                      have hji23_ : (IntKind.i64.wrap (1 * 2 ^ min x19_1.toNat 64)) = ji23 := hji23
                      have hji23z : x19_1 ≤ 64 → (IntKind.i64.wrap (1 * 2 ^ x19_1.toNat)) = ji23 := shl_small hji23
                      have hji23u : (IntKind.i64.wrap (2 ^ min x19_1.toNat 64)) = ji23 := by have h_ := hji23_; rw [Int.one_mul] at h_; exact h_
                      have hji23v : x19_1 ≤ 64 → (IntKind.i64.wrap (2 ^ x19_1.toNat)) = ji23 := fun hle_ => by have h_ := hji23z hle_; rw [Int.one_mul] at h_; exact h_
                      have hji23y : (wrap64 (1 * 2 ^ min x19_1.toNat 64)) = ji23 := (i64_w _).symm.trans hji23_
                      have hji23x : x19_1 ≤ 64 → (wrap64 (1 * 2 ^ x19_1.toNat)) = ji23 := fun h_ => (i64_w _).symm.trans (hji23z h_)
                      obtain ⟨y112, hy112⟩ : ∃ y_ : List Int, y_ = (x5_1.set ((rd t103 x19_1) : Int).toNat (Go.bits .or .i64 (rd x5_1 (rd t103 x19_1)) (ji23))) := ⟨_, rfl⟩
                      replace H : (fixes_Classes.l0 k1 y112 t103 (t103.length : Int) (wrap64 (x19_1 + 1))) = some (r1, r2) := by first | (rw [hy112]; with_reducible exact H) | (have H2_ := (Option.bind_some _ _).symm.trans H; rw [hy112]; with_reducible exact H2_) | (have H2_ := (Option.bind_some _ _).symm.trans H; with_reducible exact H2_) | with_reducible exact H | (rw [hy112]; exact H) | exact H
                      have Ny112 := Aside0.mk hy112
                      clear hy112
                      have H' := Aside0.mk H
                      clear H
                      have p110 : 0 ≤ (x19_1 : Int) := of_decide_eq_true (by first | (with_reducible assumption) | assumption)
                      have q110 : x19_1 < (t103.length : Int) := of_decide_eq_true (by first | (with_reducible assumption) | assumption)
                      obtain ⟨ad110, e110, hx110_0⟩ := Kd.at_int (Kd.R_reads' HO_17.out).2.2 x19_1 p110 q110
                      cases e110
                      replace p110 := eq_true p110
                      replace q110 := eq_true q110
                      try go_wp2
                      have n0_ := Aside0.mk (Kd.R_drew HO_5.out)
                      have n1_ := Aside0.mk (Kd.R_drew HO_17.out)
                      have n2_ := Aside0.mk (blk_drew BK101.out)
                      have n3_ := Aside0.mk (below_drew1 HB.out)
                      clear HO_5
                      clear HO_17
                      clear BK101
                      clear HB
                      have HO_5 := n0_
                      have HO_17 := n1_
                      have BK101 := n2_
                      have HB := n3_
                      clear n0_ n1_ n2_ n3_
                      obtain ⟨Ao26, co26, eo26⟩ := Kd.R_slice HO_5.out
                      (first | subst eo26 | (injection eo26 with f1_ f2_ f3_; have f4_ := f1_.symm; have f5_ := f3_.symm; clear f1_ f2_ f3_; subst f4_; subst f5_))
                      have p111 : 0 ≤ ((rd t103 x19_1) : Int) := of_decide_eq_true (by first | (with_reducible assumption) | assumption)
                      have q111 : (rd t103 x19_1) < (x5_1.length : Int) := of_decide_eq_true (by first | (with_reducible assumption) | assumption)
                      obtain ⟨ad111, e111, hx111_0⟩ := Kd.at_int (Kd.R_reads' HO_5.out).2.2 (rd t103 x19_1) p111 q111
                      cases e111
                      replace p111 := eq_true p111
                      replace q111 := eq_true q111
                      have p24 : 0 ≤ ((rd t103 x19_1) : Int) := of_decide_eq_true (by first | (with_reducible assumption) | assumption)
                      have q24 : ((rd t103 x19_1) : Int) < ((x5_1.length : Int) : Int) := of_decide_eq_true (by first | (with_reducible assumption) | assumption)
                      obtain ⟨go24, co24, eo24, gb24, gl24, cl24, HG24⟩ := Kd.R_form HO_5.out (by omega)
                      (first | cases eo24 | (injection eo24 with ea_ en_ ec_; (first | subst ea_ | (injection ea_ with ea_; subst ea_)); subst ec_; clear en_))
                      have GB24 := Aside0.mk gb24
                      have GG24 := Aside0.mk HG24
                      clear gb24 gl24 HG24
                      (first | simp only [add_plain] at hx111_0 | skip)
                      obtain ⟨hx24_0, hf24_0⟩ := Kd.R_celln 0 HO_5.out ((rd t103 x19_1) : Int) p24 q24
                      replace p24 := eq_true p24
                      replace q24 := eq_true q24
                      have HP27 := Kd.R_putn HO_5.out ((rd t103 x19_1) : Int) (Go.bits .or .i64 (rd x5_1 (rd t103 x19_1)) (ji23))
                      rw [← Ny112.out] at HP27
                      have HQ27 := Aside0.mk HP27
                      clear HP27
                      refine start_ (n := 9) (S := fun w' => w'.cell? ⟨go24, ((rd t103 x19_1)).toNat, none⟩ = some (.int .i64 (rd x5_1 (rd t103 x19_1)))) (ds := [8]) #[false, false, false, false, false, false, false, false, false] (by kernel_rfl) rfl rfl (hx111_0) (fun hHeld => ?_); refine with_tabW fixes_Classes.tab8 fixes_Classes.bits8 (fun HT_ HW_ => ?_)
                      generalize wr.drew = w25 at HO_5 HO_17 BK101 HB GG24 HQ27 hf24_0 hx111_0 hx24_0 hHeld ⊢
                      refine pure_ (i := 0) (N := some 24) (v := ?_) (a' := ?_) #[true, false, false, false, false, false, false, false, false] rfl rfl (any_of HT_.out (by kernel_rfl)) (fun _ _ _ h => h) (Or.inl ⟨by rfl, ?_⟩) ?_ ?_
                      rotate_left
                      · intro w'
                        go_simp
                        with_reducible rfl
                      rotate_left
                      · simp only [Act.put, List.setIfInBounds_toArray, List.set_cons_zero, List.set_cons_succ, i64_w, i32_w]
                        rfl
                      refine pure_ (i := 1) (N := some 25) (v := ?_) (a' := ?_) #[true, true, false, false, false, false, false, false, false] rfl rfl (any_of HT_.out (by kernel_rfl)) (fun _ _ _ h => h) (Or.inl ⟨by rfl, ?_⟩) ?_ ?_
                      rotate_left
                      · intro w'
                        go_simp
                        with_reducible rfl
                      rotate_left
                      · simp only [Act.put, List.setIfInBounds_toArray, List.set_cons_zero, List.set_cons_succ, i64_w, i32_w]
                        rfl
                      refine pure_ (i := 2) (N := some 26) (v := ?_) (a' := ?_) #[true, true, true, false, false, false, false, false, false] rfl rfl (any_of HT_.out (by kernel_rfl)) (fun _ _ _ h => h) (Or.inl ⟨by rfl, ?_⟩) ?_ ?_
                      rotate_left
                      · intro w'
                        go_simp
                        with_reducible rfl
                      rotate_left
                      · simp only [Act.put, List.setIfInBounds_toArray, List.set_cons_zero, List.set_cons_succ, i64_w, i32_w]
                        rfl
                      refine pure_ (i := 4) (N := some 28) (v := ?_) (a' := ?_) #[true, true, true, false, true, false, false, false, false] rfl rfl (any_of HT_.out (by kernel_rfl)) (fun _ _ _ h => h) (Or.inl ⟨by rfl, ?_⟩) ?_ ?_
                      rotate_left
                      · intro w'
                        go_simp
                        with_reducible rfl
                      rotate_left
                      · simp only [Act.put, List.setIfInBounds_toArray, List.set_cons_zero, List.set_cons_succ, i64_w, i32_w]
                        rfl
                      refine pure_ (i := 5) (N := some 29) (v := ?_) (a' := ?_) #[true, true, true, false, true, true, false, false, false] rfl rfl (any_of HT_.out (by kernel_rfl)) (fun _ _ _ h => h) (Or.inl ⟨by rfl, ?_⟩) ?_ ?_
                      rotate_left
                      · intro w'
                        go_simp
                        with_reducible rfl
                      rotate_left
                      · simp only [Act.put, List.setIfInBounds_toArray, List.set_cons_zero, List.set_cons_succ, i64_w, i32_w]
                        rfl
                      refine take_ (i := 3) (N := some 27) (v := ?_) (a' := ?_) #[true, true, true, true, true, true, false, false, false] rfl rfl (take_ofW HT_.out HW_.out (by kernel_rfl)) (fun _ _ _ h => h) (Or.inl ⟨by rfl, ?_⟩) hHeld ?_ ?_
                      rotate_left
                      · intro w' s0
                        go_simp
                        with_reducible rfl
                      rotate_left
                      · simp only [Act.put, List.setIfInBounds_toArray, List.set_cons_zero, List.set_cons_succ, i64_w, i32_w]
                        rfl
                      refine pure_ (i := 6) (N := some 30) (v := ?_) (a' := ?_) #[true, true, true, true, true, true, true, false, false] rfl rfl (any_of HT_.out (by kernel_rfl)) (fun _ _ _ h => h) (Or.inl ⟨by rfl, ?_⟩) ?_ ?_
                      rotate_left
                      · intro w'
                        go_simp
                        with_reducible rfl
                      rotate_left
                      · simp only [Act.put, List.setIfInBounds_toArray, List.set_cons_zero, List.set_cons_succ, i64_w, i32_w]
                        rfl
                      refine pure_ (i := 7) (N := some 31) (v := ?_) (a' := ?_) #[true, true, true, true, true, true, true, true, false] rfl rfl (any_of HT_.out (by kernel_rfl)) (fun _ _ _ h => h) (Or.inl ⟨by rfl, ?_⟩) ?_ ?_
                      rotate_left
                      · intro w'
                        go_simp
                        with_reducible rfl
                      rotate_left
                      · simp only [Act.put, List.setIfInBounds_toArray, List.set_cons_zero, List.set_cons_succ, i64_w, i32_w]
                        rfl
                      refine last_ (i := 8) (N := none) #[true, true, true, true, true, true, true, true, true] rfl rfl (one_of HT_.out (by kernel_rfl)) (by decide) (fun K hK => ?_)
                      refine skip_ (w1 := ?_) (by rfl) rfl ?_ ?_
                      rotate_left
                      · go_simp
                        rfl
                      refine hK.out _ _ ?_
                      clear hK K
                      refine done_ (done_of HT_.out (by kernel_rfl)) ?_
                      try go_wp2
                      go_roundg k1
                      case measure => have := HK1.out; omega
                      case rel => exact ⟨(y112), (wrap64 (x19_1 + 1)), (by first | rfl | (simp; done) | (simp [*]; done)), H', ⟨by have := HK1.out; omega⟩, ⟨by (with_reducible repeat (first | apply Kd.R_alloc | apply Kd.R_drewN | apply Kd.R_drew)); exact HQ27.out⟩, ⟨by (with_reducible repeat (first | apply Kd.R_alloc | apply Kd.R_drewN | apply Kd.R_drew)); exact Kd.R_mono (Kd.R_far (p := ⟨go24, ((rd t103 x19_1) : Int).toNat, none⟩) (Kd.R_mono HO_17.out (fun k_ hk => (⟨hk, fun e_ => hk (by rw [e_]; rfl)⟩ : _ ∧ k_ ≠ go24))) (fun _ hk => hk.2) (.int .i64 (Go.bits .or .i64 (rd x5_1 (rd t103 x19_1)) (ji23)))) (fun _ hk => hk.1)⟩, ⟨by (with_reducible repeat (first | refine blk_drewN ?_ _ | refine blk_drew ?_ | refine blk_alloc ?_ _)); refine blk_far ?_ (by have h_ := Kd.R_ne HO_5.out BK101.out (by decide); intro e_; exact h_ (by rw [e_]; rfl)) _; (with_reducible repeat (first | refine blk_drewN ?_ _ | refine blk_drew ?_ | refine blk_alloc ?_ _)); exact BK101.out⟩, ⟨by repeat (first | (with_reducible first | exact HB.out | apply below_alloc | apply pw_below_drewN | apply below_drew1 | refine below_set ?_ GB24.out | refine below_set ?_ GE101.out) | exact HB.out)⟩⟩
                    · rw [if_neg c21] at H
                      exact absurd H (by simp)
                  · rw [if_neg c20] at H
                    exact absurd H (by simp)
                · rw [if_neg c19] at H
                  exact absurd H (by simp)
              · rw [if_neg c18] at H
                exact absurd H (by simp)
            · rw [if_neg c17] at H
              have c17b0 : decide (x19_1 < (t103.length : Int)) = false := decide_eq_false c17
              clear c17
              simp only [Option.some.injEq, Prod.mk.injEq] at H
              obtain ⟨rfl, rfl⟩ := H
              go_wp2
              go_ret2
              exact ⟨_, by first | rfl | (simp [errW_none, errW_some] <;> rfl) | (simp only [← hji6]; first | rfl | (simp [errW_none, errW_some] <;> rfl)) | (simp [*, errW_none, errW_some] <;> rfl), by (with_reducible repeat (first | apply Kd.R_alloc | apply Kd.R_drewN | apply Kd.R_drew)); exact Kd.R_mono HO_5.out (fun _ hk => trivial), by repeat (first | (with_reducible first | exact HB.out | apply below_alloc | apply pw_below_drewN | apply below_drew1 | refine below_set ?_ GE101.out) | exact HB.out)⟩
      · rw [if_neg c8] at H
        exact absurd H (by simp)
    · rw [if_neg c7] at H
      exact absurd H (by simp)
  · replace c3 := Bool.eq_false_iff.mpr c3
    subst c3
    have H1 : (some (([] : List Int), 2)) = some (r1, r2) := by rw [if_neg (show ¬ (false = true) by decide)] at H; exact H
    clear H
    have H := H1
    clear H1
    simp only [Option.some.injEq, Prod.mk.injEq] at H
    obtain ⟨rfl, rfl⟩ := H
    go_enter Try.func33, Try.ntmps33
    go_wp2_with (first | ((with_reducible refine gate_dst (N := 1) rfl ?_); refine box_event ?hg (N := 1) ?hd (cs := #[.slice A0_0 l0_0.length c0_0, .slice A0_1 l0_1.length c0_1]) (t := 28) ?hr ?_; (case hd => rfl); (case hg => rfl); (case hr => first | (go_simp; done) | (go_simp; rfl)); intro gb101 hg w28 hbox hb; have n0_ := Aside0.mk (below_step (by repeat (first | (with_reducible first | exact HB.out | apply below_alloc | apply pw_below_drewN | apply below_drew1) | exact HB.out)) hb); have n1_ := Aside0.mk (hbox); have n2_ := Aside0.mk ((by rw [hg]; exact (below_size (by repeat (first | (with_reducible first | exact HB.out | apply below_alloc | apply pw_below_drewN | apply below_drew1) | exact HB.out))) : w.heap.size ≤ gb101)); have n3_ := Aside0.mk ((by rw [hg]; exact (below_size (by repeat (first | (with_reducible first | exact HB.out | apply below_alloc | apply pw_below_drewN | apply below_drew1) | exact HB.out))) : w.heap.size ≤ gb101)); clear HB; have HB := n0_; have BK101 := n1_; have GW101 := n2_; have GE101 := n3_; clear n0_ n1_ n2_ n3_; clear hb hbox hg; have hcz29_0 : w28.cell? ⟨gb101, 0, none⟩ = some (.slice A0_0 l0_0.length c0_0) := (blk_cell BK101.out 0).trans rfl; have hcz29_1 : w28.cell? ⟨gb101, 1, none⟩ = some (.slice A0_1 l0_1.length c0_1) := (blk_cell BK101.out 1).trans rfl; have hfz29_0 := blk_frozen BK101.out 0; have hfz29_1 := blk_frozen BK101.out 1) | ((with_reducible refine gate_callee (f := 61) rfl ?_); refine goesL_ (some 9) rfl rfl Try.func61 (by kernel_rfl) rfl #[.agg #[.slice A0_0 l0_0.length c0_0, .slice A0_1 l0_1.length c0_1]] rfl (by (try simp only [List.map_toArray, List.map_cons, List.map_nil]); first | done | rfl | (simp only [List.length_drop, List.length_take]; rfl)) ?_; (with_reducible refine (Go.Proofs.Ytjffhhalmicodaa.PA.fixes_Works_valid.calls _ _ l0_0 _ _ l0_1 false _ ?side1 ?side2 ?side3 ?side4 A2.out).mono ?_); (case side1 => repeat (first | exact (Kd.C_below HR0_0.out HB.out) | (with_reducible refine Kd.C_alloc ?_ _) | (with_reducible refine Kd.C_drewN ?_ _) | (with_reducible refine Kd.C_drew ?_))); (case side2 => exact HC0_0.out); (case side3 => repeat (first | exact (Kd.C_below HR0_1.out HB.out) | (with_reducible refine Kd.C_alloc ?_ _) | (with_reducible refine Kd.C_drewN ?_ _) | (with_reducible refine Kd.C_drew ?_))); (case side4 => exact HC0_1.out); rintro e w30 ⟨rfl, hb⟩; refine ⟨_, rfl, ?_⟩; have n0_ := Aside0.mk (blk_below (g := gb101) (o := .cells #[.slice A0_0 l0_0.length c0_0, .slice A0_1 l0_1.length c0_1] 28 (0, 0)) (by (with_reducible repeat (first | refine blk_drewN ?_ _ | refine blk_drew ?_ | refine blk_alloc ?_ _)); exact BK101.out) hb); have n1_ := Aside0.mk (below_step (by repeat (first | (with_reducible first | exact HB.out | apply below_alloc | apply pw_below_drewN | apply below_drew1 | refine below_set ?_ GE101.out) | exact HB.out)) hb); clear BK101; clear HB; have BK101 := n0_; have HB := n1_; clear n0_ n1_; (try clear hb); (try clear hb2); (try clear hk); (try clear hi)))
    go_ret2
    exact ⟨_, by first | rfl | (simp [errW_none, errW_some] <;> rfl) | (simp [*, errW_none, errW_some] <;> rfl), by first | exact Kd.R_nil _ _ _ _ _ | exact Kd.N_nil _ _ _ _ _ | exact Kd.V_nil _ _ _ _ _ | exact Kd.Q_nil _ _ _ _ _ | exact Kd.S_nil _ _ _ _ _, by repeat (first | (with_reducible first | exact HB.out | apply below_alloc | apply pw_below_drewN | apply below_drew1 | refine below_set ?_ GE101.out) | exact HB.out)⟩
end Go.Proofs.Ytjffhhalmicodaa.PF
end

section
set_option linter.unusedVariables false
namespace Go.Proofs.Ytjffhhalmicodaa.L
open Go.RowKit Go.Proofs.YtjffhhalmicodaaW.PrintWords Go.Proofs.YtjffhhalmicodaaW.PrintLast Go.Proofs.YtjffhhalmicodaaW.PrintMore Go.Proofs.Ytjffhhalmicodaa.X Go.Proofs.Ytjffhhalmicodaa.PF
theorem rd_set {L : List Int} {s : Nat} (hs : s < L.length) (x : Int) (i : Nat) : rd (L.set s x) i = if i = s then x else rd L i := by
  unfold rd
  rw [Int.toNat_natCast, List.getD_eq_getElem?_getD, List.getElem?_set, List.getD_eq_getElem?_getD]
  by_cases h : s = i
  · subst h
    simp [hs]
  · have h' : ¬ i = s := fun e => h e.symm
    simp [h, h']
theorem rd_rep (n : Nat) (i : Nat) : rd (List.replicate n 0) (i : Int) = 0 := by
  unfold rd
  rw [List.getD_eq_getElem?_getD, List.getElem?_replicate]
  split <;> rfl
end Go.Proofs.Ytjffhhalmicodaa.L
end

section
set_option linter.unusedVariables false
set_option linter.unusedSimpArgs false
namespace Go.Proofs.Ytjffhhalmicodaa.L
open Go.RowKit Go.Proofs.YtjffhhalmicodaaW.PrintWords Go.Proofs.YtjffhhalmicodaaW.PrintLast Go.Proofs.YtjffhhalmicodaaW.PrintMore Go.Proofs.Ytjffhhalmicodaa.X
theorem w1 {s : ByteArray} (hsz : s.size ≤ 1000000) {i : Nat} (hi : i ≤ s.size) : wrap64 ((i : Int) + 1) = ((i + 1 : Nat) : Int) := by unfold wrap64; omega
theorem w2 {s : ByteArray} (hsz : s.size ≤ 1000000) {i : Nat} (hi : i ≤ s.size) : wrap64 ((i : Int) + 2) = ((i + 2 : Nat) : Int) := by unfold wrap64; omega
end Go.Proofs.Ytjffhhalmicodaa.L
end

section
set_option linter.unusedVariables false
set_option linter.unusedSimpArgs false
namespace Go.Proofs.Ytjffhhalmicodaa.L
open Go.RowKit Go.Proofs.YtjffhhalmicodaaW.PrintWords Go.Proofs.YtjffhhalmicodaaW.PrintLast Go.Proofs.YtjffhhalmicodaaW.PrintMore Go.Proofs.Ytjffhhalmicodaa.X
open Go.Proofs.Ytjffhhalmicodaa.PB (comfitref08_Valid.f comfitref08_Valid.l0 comfitref08_Valid.j0)
open Go.Proofs.Ytjffhhalmicodaa.PA (fixes_Works_valid.f comfitlaw08_Of.f comfitlaw08_list.f comfitlaw08_text.f)
def IsB (a : ByteArray) : Bool := (wholeS 40 a).isSome
def txt (a : ByteArray) : ByteArray := if a.size ≤ 50 then a else a.extract 0 50
theorem text_eq (a : ByteArray) : comfitlaw08_text.f a = some (txt a) := by
  unfold comfitlaw08_text.f txt
  by_cases h : a.size ≤ 50
  · have e : mn (a.size : Int) 50 = a.size := by unfold mn; split <;> omega
    rw [e, if_pos (by omega), if_pos (by omega), if_pos h]
    simp
  · have e : mn (a.size : Int) 50 = 50 := by unfold mn; split <;> omega
    rw [e, if_pos (by omega), if_pos (by omega), if_neg h]
    rfl
theorem txt_whole (a : ByteArray) : wholeS 40 (txt a) = wholeS 40 a := by
  unfold txt wholeS
  by_cases h : a.size ≤ 50
  · rw [if_pos h]
  · rw [if_neg h, if_neg (by rw [ByteArray.size_extract]; omega), if_neg (by omega)]
theorem txt_of {a : ByteArray} (h : IsB a = true) : txt a = a := by
  unfold IsB wholeS at h
  unfold txt
  by_cases h2 : a.size ≤ 40
  · rw [if_pos (by omega)]
  · rw [if_neg h2] at h
    cases h
theorem list_eq (l : List Int) : comfitlaw08_list.f l = some (l.take 9) := by
  unfold comfitlaw08_list.f slices_Clone.f
  by_cases h : l.length ≤ 9
  · have e : mn (l.length : Int) 9 = l.length := by unfold mn; split <;> omega
    rw [e, if_pos (by omega), if_pos (by omega), if_pos (by simp; omega)]
    simp only [Option.bind_some, Option.some.injEq]
    rw [show ((l.length : Int)).toNat = l.length by omega, List.take_of_length_le (by omega), List.take_of_length_le h]
  · have e : mn (l.length : Int) 9 = 9 := by unfold mn; split <;> omega
    rw [e, if_pos (by omega), if_pos (by omega), if_pos (by simp; omega)]
    rfl
theorem Of_eq (nx mk : List Int) : comfitlaw08_Of.f nx mk = some (nx.take 9, mk.take 9) := by
  unfold comfitlaw08_Of.f
  rw [list_eq, list_eq]
  rfl
theorem take_of {nx mk : List Int} (h : VW nx mk) : nx.take 9 = nx ∧ mk.take 9 = mk := by
  have := h.le
  have := h.len
  exact ⟨List.take_of_length_le (by omega), List.take_of_length_le (by omega)⟩
theorem VW_take {nx mk : List Int} : VW (nx.take 9) (mk.take 9) ↔ VW nx mk := by
  constructor
  · intro h
    have h1 := h.le
    have h2 := h.len
    rw [List.length_take] at h1
    rw [List.length_take, List.length_take] at h2
    have e1 : nx.take 9 = nx := List.take_of_length_le (by omega)
    have e2 : mk.take 9 = mk := List.take_of_length_le (by omega)
    rw [e1, e2] at h
    exact h
  · intro h
    rw [(take_of h).1, (take_of h).2]
    exact h
theorem minTo_ge {l : List Int} {b : Int} : ∀ n : Nat, b ≤ minTo l n ↔ ∀ i : Nat, i ≤ n → b ≤ rd l i := by
  intro n
  induction n with
  | zero =>
    exact ⟨fun h i hi => by obtain rfl : i = 0 := by omega
                            exact h, fun h => h 0 (Nat.le_refl _)⟩
  | succ n ih =>
    have e : b ≤ minTo l (n + 1) ↔ b ≤ minTo l n ∧ b ≤ rd l ((n : Int) + 1) := by
      show b ≤ mn _ _ ↔ _
      unfold mn; split <;> omega
    rw [e, ih]
    constructor
    · rintro ⟨h1, h2⟩ i hi
      rcases Nat.lt_or_ge i (n + 1) with h | h
      · exact h1 i (by omega)
      · obtain rfl : i = n + 1 := by omega
        exact h2
    · exact fun h => ⟨fun i hi => h i (by omega), h (n + 1) (Nat.le_refl _)⟩
theorem maxTo_lt {l : List Int} {b : Int} : ∀ n : Nat, maxTo l n < b ↔ ∀ i : Nat, i ≤ n → rd l i < b := by
  intro n
  induction n with
  | zero =>
    exact ⟨fun h i hi => by obtain rfl : i = 0 := by omega
                            exact h, fun h => h 0 (Nat.le_refl _)⟩
  | succ n ih =>
    have e : maxTo l (n + 1) < b ↔ maxTo l n < b ∧ rd l ((n : Int) + 1) < b := by
      show mx _ _ < b ↔ _
      unfold mx; split <;> omega
    rw [e, ih]
    constructor
    · rintro ⟨h1, h2⟩ i hi
      rcases Nat.lt_or_ge i (n + 1) with h | h
      · exact h1 i (by omega)
      · obtain rfl : i = n + 1 := by omega
        exact h2
    · exact fun h => ⟨fun i hi => h i (by omega), h (n + 1) (Nat.le_refl _)⟩
theorem shl_len {l : List Int} (h : l.length ≤ 6) : shl .i64 1 (l.length : Int) = 2 ^ l.length := by
  rw [shl1 (by omega)]
  simp
theorem valid_true {nx mk : List Int} (h : VW nx mk) : fixes_Works_valid.f nx mk = some true := by
  have h1 := h.pos
  have h2 := h.le
  have h3 := h.len
  unfold fixes_Works_valid.f slices_Min.f slices_Max.f
  rw [if_pos (by omega), if_pos (by omega), if_pos (by omega), if_pos (by omega)]
  simp only [Option.bind_some]
  rw [if_pos ((minTo_ge _).2 fun i hi => (h.next i (by omega)).1)]
  rw [if_pos (by omega)]
  simp only [Option.bind_some]
  rw [if_pos (by rw [shl_len h2]; exact (maxTo_lt _).2 fun i hi => (h.next i (by omega)).2)]
  rw [if_pos (by omega)]
  simp only [Option.bind_some]
  rw [if_pos ((minTo_ge _).2 fun i hi => (h.marks i (by omega)).1)]
  rw [if_pos (by omega)]
  simp only [Option.bind_some]
  congr 1
  refine decide_eq_true ((maxTo_lt _).2 fun i hi => ?_)
  have := (h.marks i (by omega)).2
  omega
theorem valid_false {nx mk : List Int} (h : ¬ VW nx mk) : fixes_Works_valid.f nx mk = some false := by
  unfold fixes_Works_valid.f slices_Min.f slices_Max.f
  by_cases h1 : (nx.length : Int) ≥ 1
  · rw [if_pos h1]
    by_cases h2 : (nx.length : Int) ≤ 6
    · rw [if_pos h2]
      by_cases h3 : (mk.length : Int) = (nx.length : Int)
      · rw [if_pos h3, if_pos (by omega)]
        simp only [Option.bind_some]
        by_cases h4 : minTo nx (nx.length - 1) ≥ 0
        · rw [if_pos h4, if_pos (by omega)]
          simp only [Option.bind_some]
          by_cases h5 : maxTo nx (nx.length - 1) < shl .i64 1 (nx.length : Int)
          · rw [if_pos h5, if_pos (by omega)]
            simp only [Option.bind_some]
            by_cases h6 : minTo mk (mk.length - 1) ≥ 0
            · rw [if_pos h6, if_pos (by omega)]
              simp only [Option.bind_some]
              congr 1
              refine decide_eq_false fun h7 => h ?_
              rw [shl_len (by omega)] at h5
              exact ⟨by omega, by omega, by omega, fun i hi => ⟨(minTo_ge _).1 h4 i (by omega), (maxTo_lt _).1 h5 i (by omega)⟩, fun i hi => ⟨(minTo_ge _).1 h6 i (by omega), by have := (maxTo_lt _).1 h7 i (by omega); omega⟩⟩
            · rw [if_neg h6]
          · rw [if_neg h5]
        · rw [if_neg h4]
      · rw [if_neg h3]
    · rw [if_neg h2]
  · rw [if_neg h1]
theorem Valid_loop {nx mk : List Int} (h1 : nx.length ≤ 6) (h2 : mk.length = nx.length) : ∀ d i : Nat, i + d = nx.length → ∃ k r, comfitref08_Valid.l0 k (nx.length : Int) nx (nx.length : Int) (i : Int) nx mk = some r ∧ (r = true ↔ ∀ j : Nat, i ≤ j → j < nx.length → InS nx.length (rd nx j) ∧ 0 ≤ rd mk j ∧ rd mk j ≤ 15) := by
  intro d
  induction d with
  | zero =>
    intro i hi
    refine ⟨1, true, ?_, ?_⟩
    · rw [comfitref08_Valid.l0, if_neg (by omega)]
    · simp only [true_iff]
      intro j hj hj2
      omega
  | succ d ih =>
    intro i hi
    obtain ⟨k, r, hk, hr⟩ := ih (i + 1) (by omega)
    have step : ∀ k, comfitref08_Valid.l0 (k + 1) (nx.length : Int) nx (nx.length : Int) (i : Int) nx mk = if rd nx i < 0 then some false else if rd nx i ≥ 2 ^ nx.length then some false else if rd mk i < 0 then some false else if rd mk i > 15 then some false else comfitref08_Valid.l0 k (nx.length : Int) nx (nx.length : Int) ((i + 1 : Nat) : Int) nx mk := by
      intro k
      rw [comfitref08_Valid.l0, if_pos (by omega), if_pos (by omega), if_pos (by omega), if_pos (show (0 : Int) ≤ (nx.length : Int) by omega), if_pos (show (i : Int) < (mk.length : Int) by omega), shl_len h1]
      rw [show wrap64 ((i : Int) + 1) = ((i + 1 : Nat) : Int) by unfold wrap64; omega]
    by_cases g1 : rd nx i < 0
    · refine ⟨1, false, by rw [step, if_pos g1], ?_⟩
      simp only [Bool.false_eq_true, false_iff]
      intro h
      have := (h i (Nat.le_refl _) (by omega)).1.1
      omega
    · by_cases g2 : rd nx i ≥ 2 ^ nx.length
      · refine ⟨1, false, by rw [step, if_neg g1, if_pos g2], ?_⟩
        simp only [Bool.false_eq_true, false_iff]
        intro h
        have := (h i (Nat.le_refl _) (by omega)).1.2
        omega
      · by_cases g3 : rd mk i < 0
        · refine ⟨1, false, by rw [step, if_neg g1, if_neg g2, if_pos g3], ?_⟩
          simp only [Bool.false_eq_true, false_iff]
          intro h
          have := (h i (Nat.le_refl _) (by omega)).2.1
          omega
        · by_cases g4 : rd mk i > 15
          · refine ⟨1, false, by rw [step, if_neg g1, if_neg g2, if_neg g3, if_pos g4], ?_⟩
            simp only [Bool.false_eq_true, false_iff]
            intro h
            have := (h i (Nat.le_refl _) (by omega)).2.2
            omega
          · refine ⟨k + 1, r, by rw [step, if_neg g1, if_neg g2, if_neg g3, if_neg g4, hk], ?_⟩
            rw [hr]
            constructor
            · intro h j hj hj2
              rcases Nat.lt_or_ge i j with e | e
              · exact h j e hj2
              · obtain rfl : j = i := by omega
                exact ⟨⟨by omega, by omega⟩, by omega, by omega⟩
            · intro h j hj hj2
              exact h j (by omega) hj2
open Classical in
theorem Valid_eq (nx mk : List Int) : ∃ k, comfitref08_Valid.f k nx mk = some (decide (VW nx mk)) := by
  have bad : ¬ VW nx mk → some false = some (decide (VW nx mk)) := fun h => by rw [decide_eq_false h]
  unfold comfitref08_Valid.f
  by_cases h1 : (nx.length : Int) < 1
  · refine ⟨1, ?_⟩
    rw [if_pos h1, comfitref08_Valid.j0, if_pos rfl]
    exact bad fun h => by have := h.pos; omega
  · by_cases h2 : (nx.length : Int) > 6
    · refine ⟨1, ?_⟩
      rw [if_neg h1, if_pos h2, comfitref08_Valid.j0, if_pos rfl]
      exact bad fun h => by have := h.le; omega
    · by_cases h3 : (mk.length : Int) = (nx.length : Int)
      · obtain ⟨k, r, hk, hr⟩ := Valid_loop (nx := nx) (mk := mk) (by omega) (by omega) nx.length 0 (by omega)
        refine ⟨k + 1, ?_⟩
        rw [if_neg h1, if_neg h2, comfitref08_Valid.j0]
        rw [if_neg (by simp [h3])]
        rw [show ((0 : Nat) : Int) = 0 from rfl] at hk
        rw [hk]
        congr 1
        have : r = true ↔ VW nx mk := by
          rw [hr]
          exact ⟨fun h => ⟨by omega, by omega, by omega, fun i hi => (h i (by omega) hi).1, fun i hi => (h i (by omega) hi).2⟩, fun h j _ hj => ⟨h.next j hj, h.marks j hj⟩⟩
        cases r
        · rw [eq_comm, decide_eq_false_iff_not]
          intro h
          have := this.2 h
          cases this
        · rw [eq_comm, decide_eq_true_iff]
          exact this.1 rfl
      · refine ⟨1, ?_⟩
        rw [if_neg h1, if_neg h2, comfitref08_Valid.j0]
        rw [if_pos (by simp; omega)]
        exact bad fun h => by have := h.len; omega
theorem awake_at : PB.comfitlaw08_awake.f 3 = some true := by kernel_rfl
theorem Holds_none {nx mk : List Int} (h : VW nx mk) {a : ByteArray} (ha : IsB a = false) (k : Nat) : fixes_Holds.f k (nx.take 9) (mk.take 9) (txt a) = some (0, 3) := by
  unfold fixes_Holds.f
  rw [valid_true (VW_take.2 h), txt_whole]
  unfold IsB at ha
  cases hw : wholeS 40 a with
  | none => rfl
  | some f => rw [hw] at ha; cases ha
theorem wholeS_some {a : ByteArray} (ha : IsB a = true) : ∃ f, wholeS 40 a = some f ∧ whole (cs a) = some f ∧ a.size ≤ 40 := by
  unfold IsB at ha
  cases hw : wholeS 40 a with
  | none => rw [hw] at ha; cases ha
  | some f =>
    refine ⟨f, rfl, ?_⟩
    unfold wholeS at hw
    split at hw
    · rename_i h
      exact ⟨hw, h⟩
    · cases hw
theorem Holds_some {nx mk : List Int} (h : VW nx mk) {a : ByteArray} {f : Fm} (ha : wholeS 40 a = some f) : ∃ k, fixes_Holds.f k (nx.take 9) (mk.take 9) (txt a) = some (V nx mk f (0, 0, 0), 0) ∧ ref_Holds.f k nx mk a = some (V nx mk f (0, 0, 0)) := by
  have hi : IsB a = true := by unfold IsB; rw [ha]; rfl
  obtain ⟨f2, h1, h2, h3⟩ := wholeS_some hi
  rw [ha] at h1
  injection h1 with h1
  subst h1
  obtain ⟨k, m, e1, e2⟩ := both_holds h h2
  refine ⟨k, ?_, ?_⟩
  · unfold fixes_Holds.f
    rw [(take_of h).1, (take_of h).2, valid_true h, txt_of hi, ha]
    simp only [Option.bind_some, if_true]
    rw [e2]
    rfl
  · unfold ref_Holds.f
    rw [if_pos (by omega), h2]
    exact e1
end Go.Proofs.Ytjffhhalmicodaa.L
end

section
set_option linter.unusedVariables false
namespace Go.Proofs.Ytjffhhalmicodaa.L
open Go.RowKit Go.Proofs.YtjffhhalmicodaaW.PrintWords Go.Proofs.YtjffhhalmicodaaW.PrintLast Go.Proofs.YtjffhhalmicodaaW.PrintMore Go.Proofs.Ytjffhhalmicodaa.X Go.Proofs.Ytjffhhalmicodaa.PF
def levs (nx mk : List Int) (j : Nat) : List (List Int) := (List.range (j + 1)).map (lv nx mk)
theorem levs_last (nx mk : List Int) (j : Nat) : (levs nx mk j).getLastD [] = lv nx mk j := by
  unfold levs
  rw [List.range_succ, List.map_append]
  simp
theorem levs_succ (nx mk : List Int) (j : Nat) : levs nx mk (j + 1) = levs nx mk j ++ [lv nx mk (j + 1)] := by
  unfold levs
  rw [List.range_succ, List.map_append]
  rfl
theorem levs_len (nx mk : List Int) (j : Nat) : (levs nx mk j).length = j + 1 := by simp [levs]
theorem lev_loop {nx mk : List Int} {K : Nat} (hK : Last nx mk K) (h6 : K ≤ 100) : ∀ d j, j + d = K → Evr (fun k => levF nx k (levs nx mk j)) (levs nx mk K) := by
  intro d
  induction d with
  | zero =>
    intro j hj
    obtain rfl : j = K := by omega
    refine Evr.step (h := fun _ => some (levs nx mk j)) (fun k => ?_) (Evr.const _)
    rw [levF, if_pos (by rw [levs_len]; omega), levs_last, if_pos]
    exact hK.same
  | succ d ih =>
    intro j hj
    refine Evr.step (fun k => ?_) (ih (j + 1) (by omega))
    rw [levF, if_pos (by rw [levs_len]; omega), levs_last, if_neg, levs_succ]
    · rfl
    · exact hK.first j (by omega)
theorem levels_ev {nx mk : List Int} (hv : VW nx mk) {K : Nat} (hK : Last nx mk K) : Evr (fun k => fixes_levels.f k nx mk) (levs nx mk K) := by
  have h6 := hv.le
  have hl := hK.le hv
  refine Evr.congr (fun k => ?_) (lev_loop hK (by omega) K 0 (by omega))
  unfold fixes_levels.f
  rw [if_pos ⟨by omega, by rw [hv.len]; omega⟩]
  rfl
theorem classes_ev {nx mk : List Int} (hv : VW nx mk) {K : Nat} (hK : Last nx mk K) : Evr (fun k => fixes_classes.f k nx mk) (lv nx mk K) := by
  have hl := hK.le hv
  have h6 := hv.le
  refine Evr.bind (f := fun l _ => if l = [] ∨ 100000 < l.length then none else some (l.getLastD [])) (levels_ev hv hK) ?_
  refine Evr.of_all fun k => ?_
  rw [if_neg, levs_last]
  rintro (h | h)
  · have := levs_len nx mk K
    rw [h] at this
    simp at this
  · rw [levs_len] at h
    omega
def CL (nx mk : List Int) (K : Nat) : List Int := (List.range (nc nx mk K)).map fun (v : Nat) => whereTo (fun s => rd (lv nx mk K) s == (v : Int)) nx.length
theorem CL_len (nx mk : List Int) (K : Nat) : (CL nx mk K).length = nc nx mk K := by simp [CL]
theorem CL_rd {nx mk : List Int} {K v : Nat} (h : v < nc nx mk K) : rd (CL nx mk K) (v : Int) = whereTo (fun s => rd (lv nx mk K) s == (v : Int)) nx.length := by
  simp [rd, CL, List.getD_eq_getElem?_getD, h]
theorem CL_spec {nx mk : List Int} (hv : VW nx mk) {K v : Nat} (h : v < nc nx mk K) : InS nx.length (rd (CL nx mk K) (v : Int)) ∧ ∀ i, tb (rd (CL nx mk K) (v : Int)) i = (decide (i < nx.length) && (rd (lv nx mk K) i == (v : Int))) := by
  rw [CL_rd h]
  exact whereTo_spec _ _ (by have := hv.le; omega)
theorem max_lv {nx mk : List Int} (hv : VW nx mk) (K : Nat) : slices_Max.f (lv nx mk K) = some ((nc nx mk K : Int) - 1) := by
  have hp := hv.pos
  unfold slices_Max.f
  rw [lv_len, if_pos (by omega)]
  have h1 := nc_pos hv K
  have a : maxTo (lv nx mk K) (nx.length - 1) < (nc nx mk K : Int) := (maxTo_lt _).2 fun i hi => by
    rw [lv_rd _ _ _ _ (by omega)]
    exact (cls_range (lkey nx mk K) (by omega)).2
  have b : ¬ maxTo (lv nx mk K) (nx.length - 1) < (nc nx mk K : Int) - 1 := fun h => by
    have h2 := (maxTo_lt _).1 h
    obtain ⟨i, i1, i2, _⟩ := cls_has (lkey nx mk K) nx.length (nc nx mk K - 1) (by unfold nc at h1 ⊢; omega)
    have h3 := h2 i (by omega)
    rw [lv_rd _ _ _ _ i1, i2] at h3
    omega
  congr 1
  omega
theorem shl_pow {s : Nat} (h : s < 62) : shl .i64 1 (s : Int) = wrap64 (2 ^ min s 64) := by
  rw [shl1 h, pow_wrap h]
theorem Classes_loop {nx mk : List Int} (hv : VW nx mk) (K : Nat) : ∀ (d s : Nat) (L : List Int), s + d = nx.length → L.length = nc nx mk K → (∀ v : Nat, v < nc nx mk K → rd L v = whereTo (fun i => rd (lv nx mk K) i == (v : Int)) s) →
    Evr (fun k => fixes_Classes.l0 k L (lv nx mk K) (nx.length : Int) (s : Int)) (CL nx mk K, 0) := by
  have h6 := hv.le
  intro d
  induction d with
  | zero =>
    intro s L hs hL hI
    obtain rfl : s = nx.length := by omega
    have e : L = CL nx mk K := list_ext_rd (by rw [hL, CL_len]) fun i hi => by
      rw [hL] at hi
      rw [hI i hi, CL_rd hi]
    subst e
    refine Evr.step (h := fun _ => some (CL nx mk K, 0)) (fun k => ?_) (Evr.const _)
    simp only [fixes_Classes.l0]
    rw [if_neg (by omega)]
  | succ d ih =>
    intro s L hs hL hI
    have hsn : s < nx.length := by omega
    have hr1 := lv_range (mk := mk) K s hsn
    have hr2 : rd (lv nx mk K) s < nc nx mk K := by
      rw [lv_rd _ _ _ _ hsn]
      exact (cls_range (lkey nx mk K) hsn).2
    obtain ⟨c, hc⟩ := Int.eq_ofNat_of_zero_le hr1.1
    have hcn : c < nc nx mk K := by omega
    refine Evr.step (fun k => ?_) (ih (s + 1) (L.set c (bits .or .i64 (rd L c) (shl .i64 1 (s : Int)))) (by omega) (by rw [List.length_set, hL]) (fun v hvn => ?_))
    · simp only [fixes_Classes.l0]
      rw [if_pos (by omega), if_pos (by omega), if_pos (by rw [lv_len]; omega), hc, if_pos (by omega), if_pos (by omega), wsucc (by omega), Int.toNat_natCast]
    · rw [rd_set (by omega), whereTo]
      by_cases e : v = c
      · subst e
        rw [if_pos rfl, if_pos (by rw [hc]; simp), hI v hvn, shl_pow (by omega)]
      · rw [if_neg e, if_neg (by rw [hc]; simpa using fun q => e (by omega)), hI v hvn]
theorem Classes_ev {nx mk : List Int} (hv : VW nx mk) {K : Nat} (hK : Last nx mk K) : Evr (fun k => fixes_Classes.f k nx mk) (CL nx mk K, 0) := by
  have h1 := nc_pos hv K
  have h2 := nc_le nx mk K
  have h6 := hv.le
  have ew : wrap64 ((nc nx mk K : Int) - 1 + 1) = (nc nx mk K : Int) := by unfold wrap64; omega
  unfold fixes_Classes.f
  simp only [valid_true hv, Option.bind_some, if_true]
  refine Evr.bind (classes_ev hv hK) ?_
  simp only [max_lv hv K, Option.bind_some, ew]
  refine Evr.congr (fun k => ?_) (Classes_loop hv K nx.length 0 (List.replicate (nc nx mk K) 0) (by omega) (by simp) (fun v hvn => by rw [rd_rep]; rfl))
  rw [if_pos (by omega), if_pos (by rw [Int.toNat_natCast]; omega), Int.toNat_natCast, lv_len]
  rfl
end Go.Proofs.Ytjffhhalmicodaa.L
end

section
set_option linter.unusedVariables false
namespace Go.Proofs.Ytjffhhalmicodaa.L
open Go.RowKit Go.Proofs.YtjffhhalmicodaaW.PrintWords Go.Proofs.YtjffhhalmicodaaW.PrintLast Go.Proofs.YtjffhhalmicodaaW.PrintMore Go.Proofs.Ytjffhhalmicodaa.X Go.Proofs.Ytjffhhalmicodaa.PF Go.Proofs.Ytjffhhalmicodaa.PA Go.Proofs.Ytjffhhalmicodaa.PB
theorem awake_ev : Evr (fun k => PB.comfitlaw08_awake.f k) true := Evr.of_mono (fun k => PB.comfitlaw08_awake.mono k) ⟨3, awake_at⟩
open Classical in
theorem Valid_ev (nx mk : List Int) : Evr (fun k => PB.comfitref08_Valid.f k nx mk) (decide (VW nx mk)) := Evr.of_mono (fun k => PB.comfitref08_Valid.mono nx mk k) (Valid_eq nx mk)
theorem vw_no {nx mk : List Int} (h : ¬ VW nx mk) : ¬ VW (nx.take 9) (mk.take 9) := fun q => h (VW_take.1 q)
theorem Classes_bad {nx mk : List Int} (h : ¬ VW nx mk) (k : Nat) : fixes_Classes.f k nx mk = some ([], 2) := by
  unfold fixes_Classes.f
  simp only [valid_false h, Option.bind_some]
  rfl
def St (nx : List Int) (a : Int) : Prop := 0 ≤ a ∧ a < nx.length
instance (nx : List Int) (a : Int) : Decidable (St nx a) := inferInstanceAs (Decidable (_ ∧ _))
end Go.Proofs.Ytjffhhalmicodaa.L
end

section
set_option linter.unusedVariables false
set_option linter.unusedSimpArgs false
namespace Go.Proofs.Ytjffhhalmicodaa.X
open Go.RowKit Go.Proofs.YtjffhhalmicodaaW.PrintWords Go.Proofs.YtjffhhalmicodaaW.PrintLast Go.Proofs.YtjffhhalmicodaaW.PrintMore
def qIn (nx c : List Int) (s : Nat) : Nat → List Int → List Int
  | 0, N => N
  | t + 1, N => (qIn nx c s t N).set (rd c s).toNat (bits .or .i64 (rd (qIn nx c s t N) (rd c s)) (shl .i64 (bits .and .i64 (shr .i64 (rd nx s) (t : Int)) 1) (rd c (t : Int))))
def qOut (nx mk c : List Int) (m : Nat) : Nat → List Int × List Int
  | 0 => (List.replicate m 0, List.replicate m 0)
  | s + 1 => (qIn nx c s nx.length (qOut nx mk c m s).1, (qOut nx mk c m s).2.set (rd c s).toNat (rd mk s))
theorem made_zero (m : Nat) : madeCells #[.int .i64 0] m = Array.replicate m (.int .i64 0) := by
  apply Array.ext
  · simp [madeCells]
  · intro i h1 h2
    simp [madeCells, Nat.mod_one]
theorem run_mk22 (W : World) (m : Nat) (hm : m ≤ 1000) : (Instr.makeSlice 22 (.int .i64 (m : Int)) (.int .i64 (m : Int))).run Try.prog W = .ok (.slice (some ⟨W.heap.size, 0, none⟩) m m) (W.alloc (.cells (Array.replicate m (.int .i64 0)) 3)) := by
  obtain ⟨i0, hi, hz⟩ := Option.map_eq_some_iff.1 info3'
  simp only [Prod.mk.injEq] at hz
  obtain ⟨hz0, hz1, hz2⟩ := hz
  have := run_make (P := Try.prog) (w := W) 22 3 i0 (.int .i64 0) Try.underlying22 hi hz0 .i64 .i64 (m : Int) (m : Int) (by omega) (by omega) (by rw [hz2]; omega) (by omega)
  rw [this, hz1, Nat.mul_one, Int.toNat_natCast, show (Value.int .i64 0).cells = #[.int .i64 0] from rfl, made_zero]
theorem R_made {w : World} {base g m : Nat} {ok : Nat → Prop} (hb : base ≤ g) (hm : m ≤ 1000) (hh : w.heap[g]? = some (.cells (Array.replicate m (.int .i64 0)) 3 (0, 0))) (hok : ok g) : Kd.R (Kd.int .i64) 3 w base ok (.slice (some ⟨g, 0, none⟩) m m) (List.replicate m 0) := by
  refine Kd.R_of_own ?_ (fun k hk => ?_)
  · rw [List.length_replicate]
    refine ⟨by simp [encs], .inr ⟨g, m, _, rfl, hb, hh, Nat.le_refl _, by unfold maxLen; omega, by simp, ?_⟩⟩
    rw [Array.toList_replicate, List.take_of_length_le (by simp)]
    simp [encs]
  · have : g = k := by simpa [Value.ownBlock] using hk
    rw [← this]
    exact hok
theorem shl_any (x : Int) (y : Nat) : shl .i64 x (y : Int) = wrap64 (x * 2 ^ min y 64) := by
  unfold shl
  rw [Int.toNat_natCast, show min y IntKind.i64.bits = min y 64 from rfl, IntKind.wrap_i64]
  unfold wrap64
  omega
theorem qIn_succ {nx c N : List Int} {s t kc jc : Nat} (hk : rd c (s : Int) = kc) (hj : rd c (t : Int) = jc) (ht : t ≤ 62) : qIn nx c s (t + 1) N = (qIn nx c s t N).set kc (bits .or .i64 (rd (qIn nx c s t N) kc) (wrap64 (bits .and .i64 (rd nx s / 2 ^ t) 1 * 2 ^ min jc 64))) := by
  rw [qIn, hk, hj, Int.toNat_natCast, shr_at _ (by omega), shl_any]
theorem info28s : (Try.prog.info? 28).map (·.size) = some 2 := by kernel_rfl
structure QS (w : World) (gw gr g6 : Nat) (A0 A1 Ac : Option Addr) (c0 c1 cc : Nat) (nx mk c : List Int) (v0 v1 : Value) (N M : List Int) (wr : World) : Prop where
  below : Below w.heap.size w wr
  box : wr.heap[gw]? = some (.cells #[.slice A0 nx.length c0, .slice A1 mk.length c1] 28 (0, 0))
  res : wr.heap[gr]? = some (.cells #[.slice none 0 0, .slice none 0 0] 28 (0, 0))
  mid : wr.heap[g6]? = some (.cells #[v0, v1] 28 (0, 0))
  rowN : Kd.R (Kd.int .i64) 3 wr w.heap.size (fun k => some k ≠ v1.ownBlock ∧ some k ≠ (Value.slice Ac c.length cc).ownBlock) v0 N
  rowM : Kd.R (Kd.int .i64) 3 wr w.heap.size (fun k => some k ≠ v0.ownBlock ∧ some k ≠ (Value.slice Ac c.length cc).ownBlock) v1 M
  cls : Kd.R (Kd.int .i64) 3 wr w.heap.size (fun k => some k ≠ v0.ownBlock ∧ some k ≠ v1.ownBlock) (.slice Ac c.length cc) c
theorem three_at (w : World) (a b c : Obj) : (((w.alloc a).alloc b).alloc c).drew.heap[w.heap.size]? = some a ∧ (((w.alloc a).alloc b).alloc c).drew.heap[w.heap.size + 1]? = some b ∧ (((w.alloc a).alloc b).alloc c).drew.heap[w.heap.size + 1 + 1]? = some c ∧ Below w.heap.size w (((w.alloc a).alloc b).alloc c).drew := by
  have s1 : (w.alloc a).heap.size = w.heap.size + 1 := by simp
  have s2 : ((w.alloc a).alloc b).heap.size = w.heap.size + 1 + 1 := by simp
  have h1 : ((w.alloc a).alloc b).heap[w.heap.size]? = some a := blk_alloc (blk_new w a) b
  have h2 : ((w.alloc a).alloc b).heap[w.heap.size + 1]? = some b := by rw [← s1]; exact blk_new _ b
  refine ⟨blk_alloc h1 c, blk_alloc h2 c, ?_, ?_⟩
  · show (((w.alloc a).alloc b).alloc c).heap[w.heap.size + 1 + 1]? = some c
    rw [← s2]
    exact blk_new _ c
  · exact ((((Below.refl _ _).alloc (Nat.le_refl _) _).alloc (by simp) _).alloc (by simp; omega) _).drew
theorem QS.of3 {w w3 W : World} {gw gr g6 g0 g1 m : Nat} {A0 A1 Ac : Option Addr} {c0 c1 cc : Nat} {nx mk c : List Int} {Z : Array Value} (hm : m ≤ 1000) (hz : Array.replicate m (Value.int .i64 0) = Z) (hb3 : Below w.heap.size w w3) (hx : w3.heap[gw]? = some (.cells #[.slice A0 nx.length c0, .slice A1 mk.length c1] 28 (0, 0))) (hr : w3.heap[gr]? = some (.cells #[.slice none 0 0, .slice none 0 0] 28 (0, 0))) (hc : Kd.R (Kd.int .i64) 3 w3 w.heap.size (fun _ => True) (.slice Ac c.length cc) c)
    (hB : Below w3.heap.size w3 W) (h6 : W.heap[g6]? = some (.cells #[.slice (some ⟨g0, 0, none⟩) m m, .slice (some ⟨g1, 0, none⟩) m m] 28 (0, 0))) (h0 : W.heap[g0]? = some (.cells Z 3 (0, 0))) (h1 : W.heap[g1]? = some (.cells Z 3 (0, 0))) (ne : g0 ≠ g1) (l0 : w3.heap.size ≤ g0) (l1 : w3.heap.size ≤ g1) :
    QS w gw gr g6 A0 A1 Ac c0 c1 cc nx mk c (.slice (some ⟨g0, 0, none⟩) m m) (.slice (some ⟨g1, 0, none⟩) m m) (List.replicate m 0) (List.replicate m 0) W := by
  subst hz
  have hsz := hb3.size
  have hcb := Kd.R_bound hc
  have old : ∀ g, w3.heap.size ≤ g → some g ≠ (Value.slice Ac c.length cc).ownBlock := fun g hg e => by
    have := (hcb.1 g e.symm).2.2.1
    omega
  refine ⟨below_step hb3 hB, blk_below hx hB, blk_below hr hB, h6, R_made (by omega) hm h0 ⟨fun e => ne (Option.some.inj e), old g0 l0⟩, R_made (by omega) hm h1 ⟨fun e => ne (Option.some.inj e).symm, old g1 l1⟩, ?_⟩
  refine Kd.R_mono (Kd.R_below hcb hB) (fun k hk => ⟨fun e => ?_, fun e => ?_⟩)
  · have h2 := hk.2.2.1
    have h3 : k = g0 := Option.some.inj e
    omega
  · have h2 := hk.2.2.1
    have h3 : k = g1 := Option.some.inj e
    omega
theorem QS.setM {w W : World} {gw gr g6 g0 g1 m : Nat} {A0 A1 Ac : Option Addr} {c0 c1 cc : Nat} {nx mk c N M : List Int} (h : QS w gw gr g6 A0 A1 Ac c0 c1 cc nx mk c (.slice (some ⟨g0, 0, none⟩) m m) (.slice (some ⟨g1, 0, none⟩) m m) N M W) (hm : w.heap.size ≤ g1) (i : Nat) (x : Int) :
    QS w gw gr g6 A0 A1 Ac c0 c1 cc nx mk c (.slice (some ⟨g0, 0, none⟩) m m) (.slice (some ⟨g1, 0, none⟩) m m) N (M.set i x) (W.setCell ⟨g1, i, none⟩ (.int .i64 x)) := by
  have far : ∀ {g : Nat} {t : TypeId} {cs : Array Value}, W.heap[g]? = some (.cells cs t (0, 0)) → t ≠ 3 → (W.setCell ⟨g1, i, none⟩ (.int .i64 x)).heap[g]? = some (.cells cs t (0, 0)) := fun {g t cs} hb ht => by
    obtain ⟨_, inner, ho, _⟩ := h.rowM
    obtain ⟨cells, hc⟩ := own_typed ho g1 rfl
    refine (Below.heap_setCell W ⟨g1, i, none⟩ _ g (fun e => ?_)).trans hb
    have e2 : g = g1 := e
    rw [e2, hc] at hb
    injection hb with hb
    injection hb with _ hb
    exact ht hb.symm
  refine ⟨h.below.setCell hm _, far h.box (by decide), far h.res (by decide), far h.mid (by decide), ?_, ?_, ?_⟩
  · exact Kd.R_far (p := ⟨g1, i, none⟩) h.rowN (fun k hk e => hk.1 (by rw [e]; rfl)) _
  · have := Kd.R_putn h.rowM (i : Int) x
    rwa [Int.toNat_natCast] at this
  · exact Kd.R_far (p := ⟨g1, i, none⟩) h.cls (fun k hk e => hk.2 (by rw [e]; rfl)) _
theorem QS.setN {w W : World} {gw gr g6 g0 g1 m : Nat} {A0 A1 Ac : Option Addr} {c0 c1 cc : Nat} {nx mk c N M : List Int} (h : QS w gw gr g6 A0 A1 Ac c0 c1 cc nx mk c (.slice (some ⟨g0, 0, none⟩) m m) (.slice (some ⟨g1, 0, none⟩) m m) N M W) (hm : w.heap.size ≤ g0) (i : Nat) (x : Int) :
    QS w gw gr g6 A0 A1 Ac c0 c1 cc nx mk c (.slice (some ⟨g0, 0, none⟩) m m) (.slice (some ⟨g1, 0, none⟩) m m) (N.set i x) M (W.setCell ⟨g0, i, none⟩ (.int .i64 x)) := by
  have far : ∀ {g : Nat} {t : TypeId} {cs : Array Value}, W.heap[g]? = some (.cells cs t (0, 0)) → t ≠ 3 → (W.setCell ⟨g0, i, none⟩ (.int .i64 x)).heap[g]? = some (.cells cs t (0, 0)) := fun {g t cs} hb ht => by
    obtain ⟨_, inner, ho, _⟩ := h.rowN
    obtain ⟨cells, hc⟩ := own_typed ho g0 rfl
    refine (Below.heap_setCell W ⟨g0, i, none⟩ _ g (fun e => ?_)).trans hb
    have e2 : g = g0 := e
    rw [e2, hc] at hb
    injection hb with hb
    injection hb with _ hb
    exact ht hb.symm
  refine ⟨h.below.setCell hm _, far h.box (by decide), far h.res (by decide), far h.mid (by decide), ?_, ?_, ?_⟩
  · have := Kd.R_putn h.rowN (i : Int) x
    rwa [Int.toNat_natCast] at this
  · exact Kd.R_far (p := ⟨g0, i, none⟩) h.rowM (fun k hk e => hk.1 (by rw [e]; rfl)) _
  · exact Kd.R_far (p := ⟨g0, i, none⟩) h.cls (fun k hk e => hk.1 (by rw [e]; rfl)) _
theorem QS.drew {w W : World} {gw gr g6 : Nat} {v0 v1 : Value} {A0 A1 Ac : Option Addr} {c0 c1 cc : Nat} {nx mk c N M : List Int} (h : QS w gw gr g6 A0 A1 Ac c0 c1 cc nx mk c v0 v1 N M W) : QS w gw gr g6 A0 A1 Ac c0 c1 cc nx mk c v0 v1 N M W.drew :=
  ⟨h.below.drew, h.box, h.res, h.mid, h.rowN, h.rowM, h.cls⟩
theorem QS.reads {w W : World} {gw gr g6 g0 g1 m : Nat} {A0 A1 Ac : Option Addr} {c0 c1 cc : Nat} {nx mk c N M : List Int} (h : QS w gw gr g6 A0 A1 Ac c0 c1 cc nx mk c (.slice (some ⟨g0, 0, none⟩) m m) (.slice (some ⟨g1, 0, none⟩) m m) N M W) :
    N.length = m ∧ M.length = m ∧ w.heap.size ≤ g0 ∧ w.heap.size ≤ g1 ∧ (∀ i : Nat, i < m → W.cell? ⟨g0, i, none⟩ = some (.int .i64 (rd N i))) ∧ (∀ i : Nat, i < m → W.cell? ⟨g1, i, none⟩ = some (.int .i64 (rd M i))) ∧ (∀ i : Nat, W.frozen? ⟨g0, i, none⟩ = false) ∧ (∀ i : Nat, W.frozen? ⟨g1, i, none⟩ = false) ∧ W.cell? ⟨gw, 0, none⟩ = some (.slice A0 nx.length c0) ∧ W.cell? ⟨gw, 1, none⟩ = some (.slice A1 mk.length c1) ∧ W.cell? ⟨g6, 0, none⟩ = some (.slice (some ⟨g0, 0, none⟩) m m) ∧ W.cell? ⟨g6, 1, none⟩ = some (.slice (some ⟨g1, 0, none⟩) m m) := by
  obtain ⟨n1, n2, n3⟩ := Kd.R_reads' h.rowN
  obtain ⟨m1, m2, m3⟩ := Kd.R_reads' h.rowM
  obtain ⟨_, i0, ho0, _⟩ := h.rowN
  obtain ⟨_, i1, ho1, _⟩ := h.rowM
  obtain ⟨cs0, hc0⟩ := own_typed ho0 g0 rfl
  obtain ⟨cs1, hc1⟩ := own_typed ho1 g1 rfl
  have cellN : ∀ {g : Nat} {L : List Int}, Kd.C (Kd.int .i64) W (some ⟨g, 0, none⟩) L.length L → L.length = m → ∀ i : Nat, i < m → W.cell? ⟨g, i, none⟩ = some (.int .i64 (rd L i)) := fun {g L} hC hL i hi => by
    obtain ⟨b, off, e, _, hc⟩ := ints_at hC (by omega)
    injection e with e
    injection e with e1 e2
    subst e1
    subst e2
    have := hc i (by omega)
    rwa [Nat.zero_add] at this
  exact ⟨n1.symm, m1.symm, own_base ho0 g0 rfl, own_base ho1 g1 rfl, cellN n3 n1.symm, cellN m3 m1.symm, fun i => blk_frozen hc0 i, fun i => blk_frozen hc1 i, (blk_cell h.box 0).trans rfl, (blk_cell h.box 1).trans rfl, (blk_cell h.mid 0).trans rfl, (blk_cell h.mid 1).trans rfl⟩
set_option maxRecDepth 100000 in
set_option maxHeartbeats 2000000 in
theorem Quotient_yes (k : Nat) (A0 : Option Addr) (c0 : Nat) (nx : List Int) (A1 : Option Addr) (c1 : Nat) (mk : List Int) (c : List Int) (mx : Int) (m : Nat) (w : World) (hr0 : Kd.C (Kd.int .i64) w A0 nx.length nx) (hc0 : nx.length ≤ c0) (hr1 : Kd.C (Kd.int .i64) w A1 mk.length mk) (hc1 : mk.length ≤ c1)
    (hv : PA.fixes_Works_valid.f nx mk = some true) (hcl : fixes_classes.f k nx mk = some c) (hmx : slices_Max.f c = some mx) (hm : wrap64 (mx + 1) = (m : Int)) (hm1 : m ≤ 1000) (hl : c.length = nx.length) (hlm : nx.length ≤ mk.length) (h61 : nx.length ≤ 61) (hrg : ∀ i : Nat, i < nx.length → 0 ≤ rd c i ∧ rd c i < m) :
    Calls Try.prog 34 #[.agg #[.slice A0 nx.length c0, .slice A1 mk.length c1]] w fun e w' => ∃ v0_ v1_ : Value, e = .returned (.tuple #[.agg #[v0_, v1_], .int .i64 0]) ∧ Kd.R (Kd.int .i64) 3 w' w.heap.size (fun k_ => some k_ ≠ (v1_ : Value).ownBlock) v0_ (qOut nx mk c m nx.length).1 ∧ Kd.R (Kd.int .i64) 3 w' w.heap.size (fun k_ => some k_ ≠ (v0_ : Value).ownBlock) v1_ (qOut nx mk c m nx.length).2 ∧ Below w.heap.size w w' := by
  have hu := Try.underlying28
  have HR0 := Lib.hid hr0
  have HR1 := Lib.hid hr1
  have HV := Lib.hid hv
  have HCL := Lib.hid hcl
  have HMX := Lib.hid hmx
  have hmw : IntKind.i64.wrap (mx + 1) = (m : Int) := (i64_w _).trans hm
  have HMW := Lib.hid hmw
  have HMW2 := Lib.hid hm
  have HL := Lib.hid hl
  have HRG := Lib.hid hrg
  clear hr0 hr1 hv hcl hmx hm hl hrg hmw
  go_enter Try.func34, Try.ntmps34
  go_wp2_with (first | ((with_reducible refine gate_dst (N := 1) rfl ?_); refine box_event ?hg (N := 1) ?hd (cs := #[.slice A0 nx.length c0, .slice A1 mk.length c1]) (t := 28) ?hr ?_; (case hd => rfl); (case hg => rfl); (case hr => first | (go_simp; done) | (go_simp; rfl)); intro gw hgw wb hbw hbb; have HBX := Lib.hid hbw; have HB0 := Lib.hid (below_step (Below.refl w.heap.size w) hbb); have hw0 : wb.cell? ⟨gw, 0, none⟩ = some (.slice A0 nx.length c0) := (blk_cell hbw 0).trans rfl; have hw1 : wb.cell? ⟨gw, 1, none⟩ = some (.slice A1 mk.length c1) := (blk_cell hbw 1).trans rfl; clear hgw hbw hbb) | ((with_reducible refine gate_dst (N := 2) rfl ?_); refine box_event ?hg (N := 2) ?hd (cs := #[.slice none 0 0, .slice none 0 0]) (t := 28) ?hr ?_; (case hd => rfl); (case hg => rfl); (case hr => first | (go_simp; done) | (go_simp; rfl) | kernel_rfl); intro gr hgr wc hbw hbb; have HGR := Lib.hid (show w.heap.size ≤ gr by rw [hgr]; exact HB0.out.size); have HBR := Lib.hid hbw; have HB1 := Lib.hid (below_step HB0.out hbb); have HBX1 := Lib.hid (blk_below HBX.out hbb); have k0_ := pw_cell_below hbb hw0; have k1_ := pw_cell_below hbb hw1; clear hgr hbw hbb hw0 hw1 HB0 HBX; have hw0 := k0_; have hw1 := k1_; clear k0_ k1_) | fail)
  refine (PA.fixes_Works_valid.calls A0 c0 nx A1 c1 mk true wc (Kd.C_below HR0.out HB1.out) hc0 (Kd.C_below HR1.out HB1.out) hc1 HV.out).mono ?_
  rintro e w1 ⟨rfl, hb⟩
  have HB2 := Lib.hid (below_step HB1.out hb)
  have HBX2 := Lib.hid (blk_below HBX1.out hb)
  have HBR2 := Lib.hid (blk_below HBR.out hb)
  have k0 := pw_cell_below hb hw0
  have k1 := pw_cell_below hb hw1
  clear hb hw0 hw1 HB1 HBX1 HBR
  go_wp2_with fail
  refine (fixes_classes.calls k A0 c0 nx A1 c1 mk c w1 (Kd.C_below HR0.out HB2.out) hc0 (Kd.C_below HR1.out HB2.out) hc1 HCL.out).mono ?_
  rintro e w2 ⟨vc, rfl, hvc, hb⟩
  obtain ⟨Ac, cc, rfl⟩ := Kd.R_slice hvc
  obtain ⟨_, hcc, hrc⟩ := Kd.R_reads' hvc
  have HCC := Lib.hid hcc
  have HRC := Lib.hid hrc
  have HVC := Lib.hid (Kd.R_lower hvc HB2.out.size)
  have HB3 := Lib.hid (below_step HB2.out hb)
  have HBX3 := Lib.hid (blk_below HBX2.out hb)
  have HBR3 := Lib.hid (blk_below HBR2.out hb)
  clear hb k0 k1 HB2 HBX2 HBR2 hvc hcc hrc
  go_wp2_with fail
  refine (slices_Max.calls Ac cc c mx w2 HRC.out HCC.out HMX.out).mono ?_
  rintro e w3 ⟨rfl, hd⟩
  have hb : Below w2.heap.size w2 w3 := by
    obtain ⟨q, rfl⟩ := hd
    exact pw_below_drewN (Below.refl _ _) q
  have HB4 := Lib.hid (below_step HB3.out hb)
  have HBX4 := Lib.hid (blk_below HBX3.out hb)
  have HBR4 := Lib.hid (blk_below HBR3.out hb)
  have HVC4 := Lib.hid (Kd.R_below HVC.out hb)
  clear hb hd HB3 HBX3 HBR3 HVC HMX HCL HV HRC
  have hmw := HMW.out
  have hmw2 := HMW2.out
  go_upto_region 5 with (fail)
  clear hmw hmw2
  have hmk : ∀ W : World, (Instr.makeSlice 22 (.int .i64 (m : Int)) (.int .i64 (m : Int))).run Try.prog W = .ok (.slice (some ⟨W.heap.size, 0, none⟩) m m) (W.alloc (.cells (Array.replicate m (.int .i64 0)) 3)) := fun W => run_mk22 W m hm1
  have HMK := Lib.hid hmk
  clear hmk
  generalize hz : Array.replicate m (Value.int .i64 0) = Z at HMK
  have HZ := Lib.hid hz
  clear hz
  go_cut [6] from 20 to 24 (fun v6 wc => ∃ (g6 g0 g1 : Nat), v6 = .pointer (some ⟨g6, 0, none⟩) ∧ Hid (QS w gw gr g6 A0 A1 Ac c0 c1 cc nx mk c (.slice (some ⟨g0, 0, none⟩) m m) (.slice (some ⟨g1, 0, none⟩) m m) (List.replicate m 0) (List.replicate m 0) wc))
  case first =>
    have hmk := HMK.out
    go_region
    all_goals clear hmk
    all_goals (go_wp2_with fail)
    all_goals go_meet
    all_goals (case rel => exact ⟨_, _, _, rfl, Lib.hid (QS.of3 hm1 HZ.out HB4.out HBX4.out HBR4.out HVC4.out (three_at _ _ _ _).2.2.2 (by first | exact (three_at _ _ _ _).1 | exact (three_at _ _ _ _).2.1 | exact (three_at _ _ _ _).2.2.1) (by first | exact (three_at _ _ _ _).1 | exact (three_at _ _ _ _).2.1 | exact (three_at _ _ _ _).2.2.1) (by first | exact (three_at _ _ _ _).1 | exact (three_at _ _ _ _).2.1 | exact (three_at _ _ _ _).2.2.1) (by omega) (by omega) (by omega))⟩)
  case rest =>
    obtain ⟨g6, g0, g1, rfl, HQ⟩ := hcut
    clear HBX4 HBR4 HVC4 HB4 HZ HMK
    go_wp2_with fail
    go_loopw [27] (fun v27 wr => ∃ s : Nat, s ≤ c.length ∧ v27 = .int .i64 s ∧ Hid (QS w gw gr g6 A0 A1 Ac c0 c1 cc nx mk c (.slice (some ⟨g0, 0, none⟩) m m) (.slice (some ⟨g1, 0, none⟩) m m) (qOut nx mk c m s).1 (qOut nx mk c m s).2 wr)) (fun v27 _ => c.length - (intOf v27).toNat)
    case atStart => exact ⟨0, by omega, rfl, HQ⟩
    case round =>
      clear HQ
      obtain ⟨s, hs, rfl, HQ⟩ := hrel
      obtain ⟨wo, rfl⟩ : ∃ wo : World, wo = wr := ⟨_, rfl⟩
      by_cases hlt : s < c.length
      · obtain ⟨q1, q2, q3, q4, q5, q6, q7, q8, q9, q10, q11, q12⟩ := HQ.out.reads
        have hsn : s < nx.length := by rw [← HL.out]; exact hlt
        obtain ⟨kc, hkc⟩ := Int.eq_ofNat_of_zero_le (HRG.out s hsn).1
        have hkm : kc < m := by have := (HRG.out s hsn).2; omega
        obtain ⟨bc, oc, rfl, _, hcc⟩ := ints_at (Kd.R_reads' HQ.out.cls).2.2 (by omega)
        have hcs : wo.cell? ⟨bc, oc + s, none⟩ = some (.int .i64 (kc : Int)) := by rw [← hkc]; exact hcc s hlt
        obtain ⟨bm, om, rfl, _, hmm⟩ := ints_at (Kd.C_below HR1.out HQ.out.below) (by omega)
        have hms := hmm s (by omega)
        have hsm : s < mk.length := by omega
        have ht1 := q6 kc hkm
        have ht2 := q8 kc
        have HKC := Lib.hid hkc
        have Q1 := Lib.hid q1
        have Q2 := Lib.hid q2
        have Q3 := Lib.hid q3
        have Q4 := Lib.hid q4
        clear q1 q2 q3 q4 q5 q6 q7 q8 hcc hmm hkc q11
        go_wp2_with fail
        go_region
        go_wp2_with fail
        clear hcs hms ht1 ht2 q9 q10 q12
        go_loopw [43] (fun v43 wr2 => ∃ t : Nat, t ≤ c.length ∧ v43 = .int .i64 t ∧ Hid (QS w gw gr g6 A0 (some ⟨bm, om, none⟩) (some ⟨bc, oc, none⟩) c0 c1 cc nx mk c (.slice (some ⟨g0, 0, none⟩) m m) (.slice (some ⟨g1, 0, none⟩) m m) (qIn nx c s t (qOut nx mk c m s).1) ((qOut nx mk c m s).2.set kc (rd mk s)) wr2)) (fun v43 _ => c.length - (intOf v43).toNat)
        case atStart => exact ⟨0, by omega, rfl, Lib.hid (QS.drew (QS.setM HQ.out Q4.out kc (rd mk s)))⟩
        case round =>
          clear HQ
          obtain ⟨t, ht, rfl, HQ⟩ := hrel
          by_cases htl : t < c.length
          · obtain ⟨q1, q2, q3, q4, q5, q6, q7, q8, q9, q10, q11, q12⟩ := HQ.out.reads
            have htn : t < nx.length := by rw [← HL.out]; exact htl
            obtain ⟨jc, hjc⟩ := Int.eq_ofNat_of_zero_le (HRG.out t htn).1
            have hjm : jc < m := by have := (HRG.out t htn).2; omega
            obtain ⟨bc', oc', e', _, hcc⟩ := ints_at (Kd.R_reads' HQ.out.cls).2.2 (by omega)
            obtain ⟨rfl, rfl⟩ : bc = bc' ∧ oc = oc' := by injection e' with e'; injection e' with e1 e2; exact ⟨e1, e2⟩
            have hct : wr.cell? ⟨bc, oc + t, none⟩ = some (.int .i64 (jc : Int)) := by rw [← hjc]; exact hcc t htl
            obtain ⟨bn, on, rfl, _, hnn⟩ := ints_at (Kd.C_below HR0.out HQ.out.below) (by omega)
            have hns := hnn s hsn
            have ht1 := q5 kc hkm
            have ht2 := q7 kc
            have HJC := Lib.hid hjc
            have ht62 : t ≤ 62 := by omega
            clear q1 q2 q3 q4 q5 q6 q7 q8 hcc hnn hjc q12 e'
            go_wp2_with fail
            go_region
            clear hct hns ht1 ht2 q9 q10 q11
            go_wp2_with fail
            go_roundw
            case rel => exact ⟨t + 1, by omega, by go_num, Lib.hid (by rw [qIn_succ HKC.out HJC.out ht62]; exact QS.drew (QS.setN HQ.out Q3.out kc _))⟩
            case measure => simp [intOf]; omega
          · obtain rfl : t = c.length := by omega
            go_wp2_with fail
            go_roundw
            case rel => exact ⟨s + 1, by omega, by go_num, Lib.hid (by rw [qOut, HKC.out, Int.toNat_natCast, ← HL.out]; exact HQ.out)⟩
            case measure => simp [intOf]; omega
      · obtain rfl : s = c.length := by omega
        have hm0 : wo.cell? ⟨g6, 0, none⟩ = some (.slice (some ⟨g0, 0, none⟩) m m) := (blk_cell HQ.out.mid 0).trans rfl
        have hm1 : wo.cell? ⟨g6, 1, none⟩ = some (.slice (some ⟨g1, 0, none⟩) m m) := (blk_cell HQ.out.mid 1).trans rfl
        go_wp2_with (first | ((with_reducible refine gate_op (op := .store 28 (.tmp 2) (.tmp 67)) rfl ?_); refine whole_store_event rfl rfl 28 (.tmp 2) (.tmp 67) rfl (g := gr) (cur := #[.slice none 0 0, .slice none 0 0]) (.agg #[.slice (some ⟨g0, 0, none⟩) m m, .slice (some ⟨g1, 0, none⟩) m m]) [.slice (some ⟨g0, 0, none⟩) m m, .slice (some ⟨g1, 0, none⟩) m m] rfl rfl rfl info28s rfl (by simp [Value.oneCell']) HQ.out.res ?_; intro w5 hw5 hk5 hb5; have HB5 := Lib.hid (hb5 _ _ HQ.out.below HGR.out); have HK5 := Lib.hid hk5; have e0 : w5.cell? ⟨gr, 0, none⟩ = some (.slice (some ⟨g0, 0, none⟩) m m) := (blk_cell hw5 0).trans rfl; have e1 : w5.cell? ⟨gr, 1, none⟩ = some (.slice (some ⟨g1, 0, none⟩) m m) := (blk_cell hw5 1).trans rfl; clear hw5 hk5 hb5) | fail)
        refine bodyPost_ret (v := .tuple #[.agg #[.slice (some ⟨g0, 0, none⟩) m m, .slice (some ⟨g1, 0, none⟩) m m], .int .i64 0]) (by simp [results, Try.results34, go_sem, e0, e1, Result.andThen]) rfl ⟨_, _, rfl, ?_, ?_, HB5.out⟩
        · have := Kd.R_keep (Kd.R_types HQ.out.rowN HQ.out.res (by simp [Kd.int, Kd.scalar])) HK5.out (fun k hk => hk.2)
          rw [← HL.out]
          exact Kd.R_mono this (fun k hk => hk.1.1)
        · have := Kd.R_keep (Kd.R_types HQ.out.rowM HQ.out.res (by simp [Kd.int, Kd.scalar])) HK5.out (fun k hk => hk.2)
          rw [← HL.out]
          exact Kd.R_mono this (fun k hk => hk.1.1)
end Go.Proofs.Ytjffhhalmicodaa.X
end

section
set_option linter.unusedVariables false
set_option linter.unusedSimpArgs false
namespace Go.Proofs.Ytjffhhalmicodaa.X
open Go.RowKit Go.Proofs.YtjffhhalmicodaaW.PrintWords Go.Proofs.YtjffhhalmicodaaW.PrintLast Go.Proofs.YtjffhhalmicodaaW.PrintMore
set_option maxRecDepth 100000 in
set_option maxHeartbeats 2000000 in
theorem Quotient_no (A0 : Option Addr) (c0 : Nat) (nx : List Int) (A1 : Option Addr) (c1 : Nat) (mk : List Int) (w : World) (hr0 : Kd.C (Kd.int .i64) w A0 nx.length nx) (hc0 : nx.length ≤ c0) (hr1 : Kd.C (Kd.int .i64) w A1 mk.length mk) (hc1 : mk.length ≤ c1)
    (hv : PA.fixes_Works_valid.f nx mk = some false) :
    Calls Try.prog 34 #[.agg #[.slice A0 nx.length c0, .slice A1 mk.length c1]] w fun e w' => e = .returned (.tuple #[.agg #[.slice none 0 0, .slice none 0 0], .int .i64 2]) ∧ Below w.heap.size w w' := by
  have hu := Try.underlying28
  have HR0 := Lib.hid hr0
  have HR1 := Lib.hid hr1
  have HV := Lib.hid hv
  have hbd : ∀ w, (Instr.build 28 #[]).run Try.prog w = .ok (.agg #[.slice none 0 0, .slice none 0 0]) w := fun _ => by kernel_rfl
  have HBD := Lib.hid hbd
  clear hr0 hr1 hv hbd
  go_enter Try.func34, Try.ntmps34
  go_wp2_with (first | ((with_reducible refine gate_dst (N := 1) rfl ?_); refine box_event ?hg (N := 1) ?hd (cs := #[.slice A0 nx.length c0, .slice A1 mk.length c1]) (t := 28) ?hr ?_; (case hd => rfl); (case hg => rfl); (case hr => first | (go_simp; done) | (go_simp; rfl)); intro gw hgw wb hbw hbb; have HBX := Lib.hid hbw; have HB0 := Lib.hid (below_step (Below.refl w.heap.size w) hbb); have hw0 : wb.cell? ⟨gw, 0, none⟩ = some (.slice A0 nx.length c0) := (blk_cell hbw 0).trans rfl; have hw1 : wb.cell? ⟨gw, 1, none⟩ = some (.slice A1 mk.length c1) := (blk_cell hbw 1).trans rfl; clear hgw hbw hbb) | ((with_reducible refine gate_dst (N := 2) rfl ?_); refine box_event ?hg (N := 2) ?hd (cs := #[.slice none 0 0, .slice none 0 0]) (t := 28) ?hr ?_; (case hd => rfl); (case hg => rfl); (case hr => first | (go_simp; done) | (go_simp; rfl) | kernel_rfl); intro gr hgr wc hbw hbb; have HGR := Lib.hid (show w.heap.size ≤ gr by rw [hgr]; exact HB0.out.size); have HBR := Lib.hid hbw; have HB1 := Lib.hid (below_step HB0.out hbb); have HBX1 := Lib.hid (blk_below HBX.out hbb); have k0_ := pw_cell_below hbb hw0; have k1_ := pw_cell_below hbb hw1; clear hgr hbw hbb hw0 hw1 HB0 HBX; have hw0 := k0_; have hw1 := k1_; clear k0_ k1_) | fail)
  refine (PA.fixes_Works_valid.calls A0 c0 nx A1 c1 mk false wc (Kd.C_below HR0.out HB1.out) hc0 (Kd.C_below HR1.out HB1.out) hc1 HV.out).mono ?_
  rintro e w1 ⟨rfl, hb⟩
  have HB2 := Lib.hid (below_step HB1.out hb)
  have HBR2 := Lib.hid (blk_below HBR.out hb)
  clear hb hw0 hw1 HB1 HBX1 HBR
  have hbd := HBD.out
  go_wp2_with (first | ((with_reducible refine gate_op (op := .store 28 (.tmp 2) (.tmp 14)) rfl ?_); refine whole_store_event rfl rfl 28 (.tmp 2) (.tmp 14) rfl (g := gr) (cur := #[.slice none 0 0, .slice none 0 0]) (.agg #[.slice none 0 0, .slice none 0 0]) [.slice none 0 0, .slice none 0 0] rfl rfl rfl info28s rfl (by simp [Value.oneCell']) HBR2.out ?_; intro w5 hw5 hk5 hb5; have HB5 := Lib.hid (hb5 _ _ HB2.out HGR.out); have e0 : w5.cell? ⟨gr, 0, none⟩ = some (.slice none 0 0) := (blk_cell hw5 0).trans rfl; have e1 : w5.cell? ⟨gr, 1, none⟩ = some (.slice none 0 0) := (blk_cell hw5 1).trans rfl; clear hw5 hk5 hb5) | fail)
  exact bodyPost_ret (v := .tuple #[.agg #[.slice none 0 0, .slice none 0 0], .int .i64 2]) (by simp [results, Try.results34, go_sem, e0, e1, Result.andThen]) rfl ⟨rfl, HB5.out⟩
def fixes_Quotient.f (k : Nat) (l0_0 l0_1 : List Int) : Option (List Int × List Int × Int) := (PA.fixes_Works_valid.f l0_0 l0_1).bind fun b => if b = true then ((fixes_classes.f k l0_0 l0_1).bind fun c => (slices_Max.f c).bind fun mx =>
  if (0 ≤ wrap64 (mx + 1) ∧ wrap64 (mx + 1) ≤ 1000) ∧ c.length = l0_0.length ∧ l0_0.length ≤ l0_1.length ∧ l0_0.length ≤ 61 ∧ (∀ i, i < l0_0.length → 0 ≤ rd c (i : Int) ∧ rd c (i : Int) < wrap64 (mx + 1)) then
    some ((qOut l0_0 l0_1 c (wrap64 (mx + 1)).toNat l0_0.length).1, (qOut l0_0 l0_1 c (wrap64 (mx + 1)).toNat l0_0.length).2, 0) else none) else some ([], [], 2)
theorem fixes_Quotient.calls (k : Nat) (A0_0 : Option Addr) (c0_0 : Nat) (l0_0 : List Int) (A0_1 : Option Addr) (c0_1 : Nat) (l0_1 : List Int) (r1 : List Int) (r2 : List Int) (r3 : Int) (w : World) (hr0_0 : Kd.C (Kd.int .i64) w A0_0 l0_0.length l0_0) (hc0_0 : l0_0.length ≤ c0_0) (hr0_1 : Kd.C (Kd.int .i64) w A0_1 l0_1.length l0_1) (hc0_1 : l0_1.length ≤ c0_1) (h : fixes_Quotient.f k l0_0 l0_1 = some (r1, r2, r3)) :
    Calls Try.prog 34 #[.agg #[.slice A0_0 l0_0.length c0_0, .slice A0_1 l0_1.length c0_1]] w fun e w' => ∃ v0_ v1_ : Value, e = .returned (.tuple #[.agg #[v0_, v1_], .int .i64 r3]) ∧ Kd.R (Kd.int .i64) 3 w' w.heap.size (fun k_ => some k_ ≠ (v1_ : Value).ownBlock) v0_ r1 ∧ Kd.R (Kd.int .i64) 3 w' w.heap.size (fun k_ => some k_ ≠ (v0_ : Value).ownBlock) v1_ r2 ∧ Below w.heap.size w w' := by
  unfold fixes_Quotient.f at h
  obtain ⟨b, hb, h⟩ := Option.bind_eq_some_iff.mp h
  cases b
  · simp only [Bool.false_eq_true, if_false, Option.some.injEq, Prod.mk.injEq] at h
    obtain ⟨rfl, rfl, rfl⟩ := h
    refine (Quotient_no A0_0 c0_0 l0_0 A0_1 c0_1 l0_1 w hr0_0 hc0_0 hr0_1 hc0_1 hb).mono ?_
    rintro e w' ⟨rfl, hB⟩
    exact ⟨_, _, rfl, Kd.R_nil _ _ _ _ _, Kd.R_nil _ _ _ _ _, hB⟩
  · simp only [if_true] at h
    obtain ⟨c, hc, h⟩ := Option.bind_eq_some_iff.mp h
    obtain ⟨mx, hmx, h⟩ := Option.bind_eq_some_iff.mp h
    split at h
    · rename_i hcond
      obtain ⟨⟨h0, h1⟩, h2, h3, h4, h5⟩ := hcond
      obtain ⟨m, hm⟩ := Int.eq_ofNat_of_zero_le h0
      rw [hm, Int.toNat_natCast] at h
      simp only [Option.some.injEq, Prod.mk.injEq] at h
      obtain ⟨rfl, rfl, rfl⟩ := h
      rw [hm] at h1 h5
      exact Quotient_yes k A0_0 c0_0 l0_0 A0_1 c0_1 l0_1 c mx m w hr0_0 hc0_0 hr0_1 hc0_1 hb hc hmx hm (by omega) h2 h3 h4 h5
    · cases h
end Go.Proofs.Ytjffhhalmicodaa.X
end

section
set_option linter.unusedVariables false
namespace Go.Proofs.Ytjffhhalmicodaa.L
open Go.RowKit Go.Proofs.YtjffhhalmicodaaW.PrintWords Go.Proofs.YtjffhhalmicodaaW.PrintLast Go.Proofs.YtjffhhalmicodaaW.PrintMore Go.Proofs.Ytjffhhalmicodaa.X Go.Proofs.Ytjffhhalmicodaa.PF Go.Proofs.Ytjffhhalmicodaa.PA Go.Proofs.Ytjffhhalmicodaa.PB
theorem qIn_spec {nx c N : List Int} {s m kc : Nat} (h6 : nx.length ≤ 6) (hx : InS 6 (rd nx s)) (hm : m ≤ 6) (hcr : ∀ t : Nat, t < nx.length → 0 ≤ rd c t ∧ rd c t < m) (hN : N.length = m) (hI : ∀ v : Nat, v < m → InS 6 (rd N v)) (hk : rd c (s : Int) = kc) (hkm : kc < m) :
    ∀ t, t ≤ nx.length → (qIn nx c s t N).length = m ∧ ∀ v : Nat, v < m → InS 6 (rd (qIn nx c s t N) v) ∧ ∀ j, (tb (rd (qIn nx c s t N) v) j = true ↔ tb (rd N v) j = true ∨ (v = kc ∧ ∃ u : Nat, u < t ∧ tb (rd nx s) u = true ∧ rd c u = j)) := by
  intro t
  induction t with
  | zero =>
    intro _
    refine ⟨hN, fun v hv => ⟨hI v hv, fun j => ?_⟩⟩
    constructor
    · intro h; exact .inl h
    · rintro (h | ⟨_, u, hu, _⟩)
      · exact h
      · omega
  | succ t ih =>
    intro ht
    obtain ⟨i1, i2⟩ := ih (by omega)
    obtain ⟨jc, hj⟩ := Int.eq_ofNat_of_zero_le (hcr t (by omega)).1
    have hjm : jc < m := by have := (hcr t (by omega)).2; omega
    have hb := bit_of (by decide) hx (t := t) (by omega)
    rw [shr_at _ (by omega)] at hb
    rw [qIn_succ hk hj (by omega)]
    refine ⟨by rw [List.length_set, i1], fun v hv => ?_⟩
    obtain ⟨a1, a2⟩ := i2 v hv
    rw [rd_set (by rw [i1]; exact hkm)]
    by_cases e : v = kc
    · subst e
      rw [if_pos rfl]
      by_cases hq : tb (rd nx s) t = true
      · rw [if_pos hq] at hb
        have hp : InS 6 (((2 ^ jc : Nat) : Int)) := inS_of (Nat.pow_lt_pow_right (by decide) (by omega))
        rw [hb, Int.one_mul, pow_wrap (by omega)]
        refine ⟨or_in (by decide) a1 hp, fun j => ?_⟩
        rw [tb_or (by decide) (by decide) a1 hp, Bool.or_eq_true, a2, tb_nat, Nat.testBit_two_pow, decide_eq_true_eq]
        constructor
        · rintro ((h | ⟨h1, u, h2, h3, h4⟩) | rfl)
          · exact .inl h
          · exact .inr ⟨rfl, u, by omega, h3, h4⟩
          · exact .inr ⟨rfl, t, by omega, hq, hj⟩
        · rintro (h | ⟨h1, u, h2, h3, h4⟩)
          · exact .inl (.inl h)
          · by_cases eu : u = t
            · subst eu
              right
              omega
            · exact .inl (.inr ⟨rfl, u, by omega, h3, h4⟩)
      · rw [if_neg hq] at hb
        have hp : InS 6 0 := inS_zero 6
        rw [hb, Int.zero_mul, show wrap64 0 = 0 by unfold wrap64; omega]
        refine ⟨or_in (by decide) a1 hp, fun j => ?_⟩
        rw [tb_or (by decide) (by decide) a1 hp, Bool.or_eq_true, a2, tb_zero]
        constructor
        · rintro ((h | ⟨h1, u, h2, h3, h4⟩) | h)
          · exact .inl h
          · exact .inr ⟨rfl, u, by omega, h3, h4⟩
          · cases h
        · rintro (h | ⟨h1, u, h2, h3, h4⟩)
          · exact .inl (.inl h)
          · by_cases eu : u = t
            · subst eu
              exact absurd h3 hq
            · exact .inl (.inr ⟨rfl, u, by omega, h3, h4⟩)
    · rw [if_neg e]
      refine ⟨a1, fun j => ?_⟩
      rw [a2]
      constructor
      · rintro (h | ⟨h1, _⟩)
        · exact .inl h
        · exact absurd h1 e
      · rintro (h | ⟨h1, _⟩)
        · exact .inl h
        · exact absurd h1 e
theorem qOut_spec {nx mk c : List Int} {m : Nat} (h6 : nx.length ≤ 6) (hx : ∀ s : Nat, s < nx.length → InS 6 (rd nx s)) (hm : m ≤ 6) (hcr : ∀ t : Nat, t < nx.length → 0 ≤ rd c t ∧ rd c t < m) (hmk : ∀ s t : Nat, s < nx.length → t < nx.length → rd c s = rd c t → rd mk s = rd mk t) :
    ∀ s, s ≤ nx.length → ((qOut nx mk c m s).1.length = m ∧ (qOut nx mk c m s).2.length = m) ∧ (∀ v : Nat, v < m → InS 6 (rd (qOut nx mk c m s).1 v) ∧ ∀ j, (tb (rd (qOut nx mk c m s).1 v) j = true ↔ ∃ s' : Nat, s' < s ∧ rd c s' = v ∧ ∃ u : Nat, u < nx.length ∧ tb (rd nx s') u = true ∧ rd c u = j)) ∧ ∀ s' : Nat, s' < s → ∀ v : Nat, rd c s' = v → rd (qOut nx mk c m s).2 v = rd mk s' := by
  intro s
  induction s with
  | zero =>
    intro _
    refine ⟨⟨by simp [qOut], by simp [qOut]⟩, fun v hv => ?_, fun s' h => by omega⟩
    show InS 6 (rd (List.replicate m 0) v) ∧ ∀ j, (tb (rd (List.replicate m 0) v) j = true ↔ _)
    rw [rd_rep]
    refine ⟨inS_zero 6, fun j => ?_⟩
    rw [tb_zero]
    exact ⟨fun h => (by cases h), fun ⟨s1, h, _⟩ => (by omega)⟩
  | succ s ih =>
    intro hs
    obtain ⟨⟨l1, l2⟩, i1, i2⟩ := ih (by omega)
    obtain ⟨kc, hk⟩ := Int.eq_ofNat_of_zero_le (hcr s (by omega)).1
    have hkm : kc < m := by have := (hcr s (by omega)).2; omega
    obtain ⟨q1, q2⟩ := qIn_spec h6 (hx s (by omega)) hm hcr l1 (fun v hv => (i1 v hv).1) hk hkm nx.length (Nat.le_refl _)
    have e : qOut nx mk c m (s + 1) = (qIn nx c s nx.length (qOut nx mk c m s).1, (qOut nx mk c m s).2.set kc (rd mk s)) := by rw [qOut, hk, Int.toNat_natCast]
    rw [e]
    refine ⟨⟨q1, by rw [List.length_set, l2]⟩, fun v hv => ⟨(q2 v hv).1, fun j => ?_⟩, fun s' hs' v hv => ?_⟩
    · rw [(q2 v hv).2, (i1 v hv).2]
      constructor
      · rintro (⟨s', a, b⟩ | ⟨rfl, u, a, b, d⟩)
        · exact ⟨s', by omega, b⟩
        · exact ⟨s, by omega, hk, u, a, b, d⟩
      · rintro ⟨s', a, b, u, d, f, g⟩
        by_cases es : s' = s
        · subst es
          exact .inr ⟨by omega, u, d, f, g⟩
        · exact .inl ⟨s', by omega, b, u, d, f, g⟩
    · show rd ((qOut nx mk c m s).2.set kc (rd mk s)) v = _
      rw [rd_set (by rw [l2]; exact hkm)]
      by_cases ev : v = kc
      · rw [if_pos ev]
        refine hmk s s' (by omega) (by omega) ?_
        rw [hk, hv, ev]
      · rw [if_neg ev]
        have : s' ≠ s := fun q => by
          subst q
          rw [hk] at hv
          omega
        exact i2 s' (by omega) v hv
def QN (nx mk : List Int) (K : Nat) : List Int := (qOut nx mk (lv nx mk K) (nc nx mk K) nx.length).1
def QM (nx mk : List Int) (K : Nat) : List Int := (qOut nx mk (lv nx mk K) (nc nx mk K) nx.length).2
theorem lv_nc (nx mk : List Int) (K : Nat) {t : Nat} (ht : t < nx.length) : 0 ≤ rd (lv nx mk K) t ∧ rd (lv nx mk K) t < nc nx mk K := by
  rw [lv_rd _ _ _ _ ht]
  exact cls_range (lkey nx mk K) ht
theorem Q_spec {nx mk : List Int} (hv : VW nx mk) {K : Nat} (hK : Last nx mk K) : ((QN nx mk K).length = nc nx mk K ∧ (QM nx mk K).length = nc nx mk K) ∧
    ∀ s : Nat, s < nx.length → ∀ v : Nat, rd (lv nx mk K) s = v → rd (QM nx mk K) v = rd mk s ∧ InS (nc nx mk K) (rd (QN nx mk K) v) ∧ ∀ j, (tb (rd (QN nx mk K) v) j = true ↔ ∃ u : Nat, u < nx.length ∧ tb (rd nx s) u = true ∧ rd (lv nx mk K) u = j) := by
  have h6 := hv.le
  have hn := nc_le nx mk K
  obtain ⟨h1, h2, h3⟩ := qOut_spec (mk := mk) h6 (fun s hs => inS_mono (hv.next s hs) h6) (by omega) (fun t ht => lv_nc nx mk K ht) (fun s t hs ht h => (hK.bis hv hs ht h).1) nx.length (Nat.le_refl _)
  refine ⟨h1, fun s hs v hvs => ?_⟩
  have hvn : v < nc nx mk K := by have := (lv_nc nx mk K hs).2; omega
  obtain ⟨a, b⟩ := h2 v hvn
  have hb : ∀ j, (tb (rd (QN nx mk K) v) j = true ↔ ∃ u : Nat, u < nx.length ∧ tb (rd nx s) u = true ∧ rd (lv nx mk K) u = j) := fun j => by
    rw [show tb (rd (QN nx mk K) v) j = true ↔ _ from b j]
    constructor
    · rintro ⟨s', s1, s2, u, u1, u2, u3⟩
      obtain ⟨w, w1, w2, w3⟩ := (hK.bis hv s1 hs (show rd (lv nx mk K) s' = rd (lv nx mk K) s by rw [s2, hvs])).2 u u1 u2
      exact ⟨w, w1, w2, (show rd (lv nx mk K) u = rd (lv nx mk K) w from w3) ▸ u3⟩
    · rintro ⟨u, u1, u2, u3⟩
      exact ⟨s, hs, hvs, u, u1, u2, u3⟩
  refine ⟨h3 s hs v hvs, ?_, hb⟩
  have hin : InS 6 (rd (QN nx mk K) v) := a
  obtain ⟨x, hx, hx6⟩ := inS_nat hin
  rw [hx]
  refine inS_of (Nat.lt_pow_two_of_testBit x fun i hi => ?_)
  have : ¬ tb (rd (QN nx mk K) v) i = true := fun q => by
    obtain ⟨u, u1, _, u3⟩ := (hb i).1 q
    have := (lv_nc nx mk K u1).2
    omega
  rw [hx, tb_nat] at this
  simpa using this
theorem Quotient_ev {nx mk : List Int} (hv : VW nx mk) {K : Nat} (hK : Last nx mk K) : Evr (fun k => fixes_Quotient.f k nx mk) (QN nx mk K, QM nx mk K, 0) := by
  have h6 := hv.le
  have hn := nc_le nx mk K
  have hp := nc_pos hv K
  have ew : wrap64 ((nc nx mk K : Int) - 1 + 1) = (nc nx mk K : Int) := by unfold wrap64; omega
  unfold fixes_Quotient.f
  simp only [valid_true hv, Option.bind_some, if_true]
  refine Evr.bind (f := fun c _ => (slices_Max.f c).bind fun mx => _) (classes_ev hv hK) ?_
  refine Evr.of_all fun k => ?_
  rw [max_lv hv K]
  simp only [Option.bind_some, ew]
  rw [if_pos ⟨⟨by omega, by omega⟩, lv_len _ _ _, by rw [hv.len]; omega, by omega, fun i hi => lv_nc nx mk K hi⟩, Int.toNat_natCast]
  rfl
theorem Quotient_bad {nx mk : List Int} (h : ¬ VW nx mk) (k : Nat) : fixes_Quotient.f k nx mk = some ([], [], 2) := by
  unfold fixes_Quotient.f
  simp only [valid_false h, Option.bind_some]
  rfl
end Go.Proofs.Ytjffhhalmicodaa.L
end

section
set_option linter.unusedVariables false
namespace Go.Proofs.Ytjffhhalmicodaa.L
open Go.RowKit Go.Proofs.YtjffhhalmicodaaW.PrintWords Go.Proofs.YtjffhhalmicodaaW.PrintLast Go.Proofs.YtjffhhalmicodaaW.PrintMore Go.Proofs.Ytjffhhalmicodaa.X
structure Bi (nx mk nx' mk' : List Int) (R : Nat → Nat → Prop) : Prop where
  l : ∀ s t, R s t → s < nx.length
  r : ∀ s t, R s t → t < nx'.length
  m : ∀ s t, R s t → rd mk s = rd mk' t
  f : ∀ s t u, R s t → u < nx.length → tb (rd nx s) u = true → ∃ v, v < nx'.length ∧ tb (rd nx' t) v = true ∧ R u v
  b : ∀ s t v, R s t → v < nx'.length → tb (rd nx' t) v = true → ∃ u, u < nx.length ∧ tb (rd nx s) u = true ∧ R u v
def Ag (R : Nat → Nat → Prop) (a b : Int) : Prop := ∀ s t, R s t → tb a s = tb b t
theorem step_ag {nx mk nx' mk' : List Int} (hv : VW nx mk) (hv' : VW nx' mk') {R : Nat → Nat → Prop} (hR : Bi nx mk nx' mk' R) {p q : Int} (hp : InS nx.length p) (hq : InS nx'.length q) (h : Ag R p q) : Ag R (stepTo nx p) (stepTo nx' q) := by
  intro s t hst
  have h1 := hv.le
  have h2 := hv'.le
  have hs := hR.l s t hst
  have ht := hR.r s t hst
  rw [(tb_step (by omega) p).2, (tb_step (by omega) q).2]
  simp only [hs, ht, decide_true, Bool.true_and]
  rw [Bool.eq_iff_iff, bne_iff_ne, bne_iff_ne, Ne, Ne, and_zero (by omega) (hv.next s hs) hp, and_zero (by omega) (hv'.next t ht) hq]
  refine not_congr ?_
  constructor
  · intro a i hi
    have hil : i < nx'.length := Nat.lt_of_not_le fun z => by rw [tb_ge (hv'.next t ht) z] at hi; cases hi
    obtain ⟨u, u1, u2, u3⟩ := hR.b s t i hst hil hi
    rw [← h u i u3]
    exact a u u2
  · intro a i hi
    have hil : i < nx.length := Nat.lt_of_not_le fun z => by rw [tb_ge (hv.next s hs) z] at hi; cases hi
    obtain ⟨u, u1, u2, u3⟩ := hR.f s t i hst hil hi
    rw [h i u u3]
    exact a u u2
theorem box_ag {nx mk nx' mk' : List Int} (hv : VW nx mk) (hv' : VW nx' mk') {R : Nat → Nat → Prop} (hR : Bi nx mk nx' mk' R) {p q : Int} (hp : InS nx.length p) (hq : InS nx'.length q) (h : Ag R p q) : Ag R (boxTo nx p) (boxTo nx' q) := by
  intro s t hst
  have h1 := hv.le
  have h2 := hv'.le
  have hs := hR.l s t hst
  have ht := hR.r s t hst
  rw [(tb_box (by omega) p).2, (tb_box (by omega) q).2]
  simp only [hs, ht, decide_true, Bool.true_and]
  rw [Bool.eq_iff_iff, beq_iff_eq, beq_iff_eq, andNot_zero (by omega) (hv.next s hs) hp, andNot_zero (by omega) (hv'.next t ht) hq]
  constructor
  · intro a i hi
    have hil : i < nx'.length := Nat.lt_of_not_le fun z => by rw [tb_ge (hv'.next t ht) z] at hi; cases hi
    obtain ⟨u, u1, u2, u3⟩ := hR.b s t i hst hil hi
    rw [← h u i u3]
    exact a u u2
  · intro a i hi
    have hil : i < nx.length := Nat.lt_of_not_le fun z => by rw [tb_ge (hv.next s hs) z] at hi; cases hi
    obtain ⟨u, u1, u2, u3⟩ := hR.f s t i hst hil hi
    rw [h i u u3]
    exact a u u2
theorem V_fix_at {nx mk : List Int} (hv : VW nx mk) {c x : Nat} {a : Fm} (ha : WF a) {s : Sets} (hs : InE nx.length s) {m : Nat} (hm : nx.length ≤ m) : V nx mk (.fix c x a) s = it (fun t => V nx mk a (setL x t s)) (if c = 103 then allOf nx else 0) m := by
  have h : it (fun t => V nx mk a (setL x t s)) (if c = 103 then allOf nx else 0) (nx.length + 1) = it (fun t => V nx mk a (setL x t s)) (if c = 103 then allOf nx else 0) nx.length := it_stands hv (g := c = 103) (F_in hv (x := x) ha hs) (F_mono hv ha hs) nx.length (Nat.le_refl _)
  have := it_stay h (m - nx.length)
  rw [show nx.length + (m - nx.length) = m by omega] at this
  rw [this, V]
theorem V_ag {nx mk nx' mk' : List Int} (hv : VW nx mk) (hv' : VW nx' mk') {R : Nat → Nat → Prop} (hR : Bi nx mk nx' mk' R) : ∀ f, WF f → ∀ s s', InE nx.length s → InE nx'.length s' → (∀ c, Ag R (getL c s) (getL c s')) → Ag R (V nx mk f s) (V nx' mk' f s') := by
  have h1 := hv.le
  have h2 := hv'.le
  have hall : Ag R (allOf nx) (allOf nx') := fun s t hst => by
    rw [tb_all (by omega), tb_all (by omega)]
    simp [hR.l s t hst, hR.r s t hst]
  have hzero : Ag R 0 0 := fun s t _ => by rw [tb_zero, tb_zero]
  intro f
  induction f with
  | mark neg j =>
    intro hw s s' hs hs' hg
    have hmk : Ag R (mset mk j) (mset mk' j) := fun s t hst => by
      rw [(mset_spec hv hw).2, (mset_spec hv' hw).2, hR.m s t hst]
      simp [hR.l s t hst, hR.r s t hst]
    simp only [V]
    split
    · intro s t hst
      rw [tb_andNot (by omega) (by omega) (all_in (by omega)) (mset_spec hv hw).1, tb_andNot (by omega) (by omega) (all_in (by omega)) (mset_spec hv' hw).1, hall s t hst, hmk s t hst]
    · exact hmk
  | con c =>
    intro hw s s' hs hs' hg
    simp only [V]
    split
    · exact hall
    · exact hzero
  | var c => intro hw s s' hs hs' hg; exact hg c
  | two c a b iha ihb =>
    intro hw s s' hs hs' hg
    have ha := iha hw.2.1 s s' hs hs' hg
    have hb := ihb hw.2.2 s s' hs hs' hg
    have a1 := (V_spec hv a hw.2.1).1 s hs
    have a2 := (V_spec hv' a hw.2.1).1 s' hs'
    have b1 := (V_spec hv b hw.2.2).1 s hs
    have b2 := (V_spec hv' b hw.2.2).1 s' hs'
    simp only [V]
    split
    · intro s t hst
      rw [tb_and (by omega) (by omega) a1 b1, tb_and (by omega) (by omega) a2 b2, ha s t hst, hb s t hst]
    · intro s t hst
      rw [tb_or (by omega) (by omega) a1 b1, tb_or (by omega) (by omega) a2 b2, ha s t hst, hb s t hst]
  | one c a iha =>
    intro hw s s' hs hs' hg
    have ha := iha hw.2 s s' hs hs' hg
    have a1 := (V_spec hv a hw.2).1 s hs
    have a2 := (V_spec hv' a hw.2).1 s' hs'
    simp only [V]
    split
    · exact step_ag hv hv' hR a1 a2 ha
    · exact box_ag hv hv' hR a1 a2 ha
  | fix c x a iha =>
    intro hw s s' hs hs' hg
    rw [V_fix_at hv hw.2.2 hs (m := 6) h1, V_fix_at hv' hw.2.2 hs' (m := 6) h2]
    have h0 : InS nx.length (if c = 103 then allOf nx else 0) := by
      split
      · exact all_in (by omega)
      · exact inS_zero _
    have h0' : InS nx'.length (if c = 103 then allOf nx' else 0) := by
      split
      · exact all_in (by omega)
      · exact inS_zero _
    have hin := it_in h0 (F := fun t => V nx mk a (setL x t s)) (fun t ht => (V_spec hv a hw.2.2).1 _ (inE_set hs x ht))
    have hin' := it_in h0' (F := fun t => V nx' mk' a (setL x t s')) (fun t ht => (V_spec hv' a hw.2.2).1 _ (inE_set hs' x ht))
    have key : ∀ k, Ag R (it (fun t => V nx mk a (setL x t s)) (if c = 103 then allOf nx else 0) k) (it (fun t => V nx' mk' a (setL x t s')) (if c = 103 then allOf nx' else 0) k) := by
      intro k
      induction k with
      | zero =>
        show Ag R (if c = 103 then allOf nx else 0) (if c = 103 then allOf nx' else 0)
        split
        · exact hall
        · exact hzero
      | succ k ih =>
        refine iha hw.2.2 _ _ (inE_set hs x (hin k)) (inE_set hs' x (hin' k)) fun d => ?_
        rw [getL_setL, getL_setL]
        split
        · exact ih
        · exact hg d
    exact key 6
end Go.Proofs.Ytjffhhalmicodaa.L
end

section
set_option linter.unusedVariables false
namespace Go.Proofs.Ytjffhhalmicodaa.L
open Go.RowKit Go.Proofs.YtjffhhalmicodaaW.PrintWords Go.Proofs.YtjffhhalmicodaaW.PrintLast Go.Proofs.YtjffhhalmicodaaW.PrintMore Go.Proofs.Ytjffhhalmicodaa.X Go.Proofs.Ytjffhhalmicodaa.PF Go.Proofs.Ytjffhhalmicodaa.PA Go.Proofs.Ytjffhhalmicodaa.PB
theorem Holds_ev {nx mk : List Int} (hv : VW nx mk) {a : ByteArray} {f : Fm} (ha : wholeS 40 a = some f) : Evr (fun k => fixes_Holds.f k (nx.take 9) (mk.take 9) (txt a)) (V nx mk f (0, 0, 0), 0) := by
  obtain ⟨k, h, _⟩ := Holds_some hv ha
  exact Evr.of_mono (fun k => fixes_Holds.mono _ _ _ k) ⟨k, h⟩
theorem getL_zero (c : Nat) : getL c (0, 0, 0) = 0 := by
  unfold getL
  split
  · rfl
  · split <;> rfl
end Go.Proofs.Ytjffhhalmicodaa.L
end
