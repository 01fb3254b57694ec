import Derived.Test.YtjffhhalmicodaaLb
import Derived.Test.YtjffhhalmicodaaXs
set_option linter.unusedVariables false
namespace Go.Proofs.Ytjffhhalmicodaa.L
open Go.RowKit Go.Proofs.YtjffhhalmicodaaW.PrintWords Go.Proofs.YtjffhhalmicodaaW.PrintLast Go.Proofs.YtjffhhalmicodaaW.PrintMore Go.Proofs.Ytjffhhalmicodaa.X

theorem lift {α : Type} {f : Nat → Option α} (h : ∀ k, LeO (f k) (f (k + 1))) {k : Nat} {r : α} (hr : f k = some r) : ∀ {m}, k ≤ m → f m = some r := by
  intro m hm
  obtain ⟨d, rfl⟩ := Nat.exists_eq_add_of_le hm
  induction d with
  | zero => exact hr
  | succ d ih => exact h _ _ (ih (by omega))

theorem first_of {P : Nat → Prop} : ∀ n, P n → ∃ J, J ≤ n ∧ P J ∧ ∀ j, j < J → ¬ P j := by
  intro n
  induction n using Nat.strongRecOn with
  | ind n ih =>
    intro h
    by_cases e : ∃ j, j < n ∧ P j
    · obtain ⟨j, hj, hp⟩ := e
      obtain ⟨J, h1, h2⟩ := ih j hj hp
      exact ⟨J, by omega, h2⟩
    · exact ⟨n, Nat.le_refl _, h, fun j hj hp => e ⟨j, hj, hp⟩⟩

theorem it_stay {F : Int → Int} {i0 : Int} {J : Nat} (h : it F i0 (J + 1) = it F i0 J) : ∀ d, it F i0 (J + d) = it F i0 J := by
  intro d
  induction d with
  | zero => rfl
  | succ d ih =>
    show F (it F i0 (J + d)) = _
    rw [ih]
    exact h

theorem wrap_small {c : Int} (h0 : 0 ≤ c) (h1 : c < 1000000) : wrap64 (c + 1) = c + 1 := by unfold wrap64; omega

/-- the reference's loop -/
theorem rloop_at {nx mk : List Int} {x : Nat} {a : Fm} {s : Sets} {F : Int → Int} {i0 : Int} (hF : ∀ j, ∃ k, rholdF nx mk k a (setL x (it F i0 j) s) = some (it F i0 (j + 1))) {J : Nat} (hJ : it F i0 (J + 1) = it F i0 J) (hne : ∀ j, j < J → it F i0 (j + 1) ≠ it F i0 j) :
    ∀ d j s' (cnt : Int), j + d = J → (∀ v, setL x v s' = setL x v s) → 0 ≤ cnt → cnt + d < 1000000 → ∃ k, rloopF nx mk k x a (it F i0 j) cnt s' = some (it F i0 J, cnt + d) := by
  intro d
  induction d with
  | zero =>
    intro j s' cnt hj hs h0 h1
    obtain rfl : j = J := by omega
    obtain ⟨k, hk⟩ := hF j
    refine ⟨k + 1, ?_⟩
    rw [rloopF, hs, hk]
    simp only [Option.bind_some]
    rw [if_pos hJ]
    simp
  | succ d ih =>
    intro j s' cnt hj hs h0 h1
    obtain ⟨k, hk⟩ := hF j
    obtain ⟨k2, hk2⟩ := ih (j + 1) (setL x (it F i0 j) s') (cnt + 1) (by omega) (fun v => by rw [setL_setL, hs]) (by omega) (by omega)
    refine ⟨max k k2 + 1, ?_⟩
    rw [rloopF, hs, lift (fun k => (rholdF_mono nx mk k).1 _ _) hk (Nat.le_max_left k k2)]
    simp only [Option.bind_some]
    rw [if_neg (hne j (by omega)), wrap_small h0 (by omega), ← hs, lift (fun k => (rholdF_mono nx mk k).2 _ _ _ _ _) hk2 (Nat.le_max_right k k2)]
    congr 2
    omega

def i0Of (nx : List Int) (c : Nat) : Int := if c = 103 then allOf nx else 0
def FOf (nx mk : List Int) (x : Nat) (a : Fm) (s : Sets) : Int → Int := fun t => V nx mk a (setL x t s)
theorem i0_in {nx mk : List Int} (hv : VW nx mk) (c : Nat) : InS nx.length (i0Of nx c) := by
  have := hv.le
  unfold i0Of
  split
  · exact all_in (by omega)
  · exact inS_zero _
theorem F_in {nx mk : List Int} (hv : VW nx mk) {x : Nat} {a : Fm} (ha : WF a) {s : Sets} (hs : InE nx.length s) : ∀ t, InS nx.length t → InS nx.length (FOf nx mk x a s t) := fun t ht => (V_spec hv a ha).1 _ (inE_set hs x ht)
theorem F_mono {nx mk : List Int} (hv : VW nx mk) {x : Nat} {a : Fm} (ha : WF a) {s : Sets} (hs : InE nx.length s) : ∀ t u, InS nx.length t → InS nx.length u → Sub t u → Sub (FOf nx mk x a s t) (FOf nx mk x a s u) := fun t u ht hu h => (V_spec hv a ha).2 _ _ (inE_set hs x ht) (inE_set hs x hu) (subE_set (SubE.refl s) x h)

/-- how often a formula is worked out, less one -/
theorem steps_of {nx mk : List Int} (hv : VW nx mk) (c x : Nat) {a : Fm} (ha : WF a) {s : Sets} (hs : InE nx.length s) : ∃ J, J ≤ nx.length ∧ it (FOf nx mk x a s) (i0Of nx c) (J + 1) = it (FOf nx mk x a s) (i0Of nx c) J ∧ (∀ j, j < J → it (FOf nx mk x a s) (i0Of nx c) (j + 1) ≠ it (FOf nx mk x a s) (i0Of nx c) j) ∧ it (FOf nx mk x a s) (i0Of nx c) J = V nx mk (.fix c x a) s := by
  have h := it_stands hv (g := c = 103) (F_in hv (x := x) ha hs) (F_mono hv ha hs) nx.length (Nat.le_refl _)
  obtain ⟨J, h1, h2, h3⟩ := first_of (P := fun j => it (FOf nx mk x a s) (i0Of nx c) (j + 1) = it (FOf nx mk x a s) (i0Of nx c) j) nx.length h
  refine ⟨J, h1, h2, h3, ?_⟩
  have := it_stay h2 (nx.length - J)
  rw [show J + (nx.length - J) = nx.length by omega] at this
  rw [← this]
  rfl

theorem rhold_total {nx mk : List Int} (hv : VW nx mk) : ∀ f, WF f → ∀ s, InE nx.length s → ∃ k, rholdF nx mk k f s = some (V nx mk f s) := by
  have hle := hv.le
  intro f
  induction f with
  | mark neg j =>
    intro hw s hs
    refine ⟨1, ?_⟩
    rw [rholdF, V, rmarkTo_eq hw mk.length (by rw [hv.len]; omega) (fun i hi => hv.marks i (by rw [hv.len] at hi; exact hi))]
    rfl
  | con c => intro hw s hs; exact ⟨1, by rw [rholdF, V]⟩
  | var c => intro hw s hs; exact ⟨1, by rw [rholdF, V]⟩
  | two c a b iha ihb =>
    intro hw s hs
    obtain ⟨k1, h1⟩ := iha hw.2.1 s hs
    obtain ⟨k2, h2⟩ := ihb hw.2.2 s hs
    refine ⟨max k1 k2 + 1, ?_⟩
    rw [rholdF, lift (fun k => (rholdF_mono nx mk k).1 _ _) h1 (Nat.le_max_left k1 k2), lift (fun k => (rholdF_mono nx mk k).1 _ _) h2 (Nat.le_max_right k1 k2), V]
    rfl
  | one c a iha =>
    intro hw s hs
    obtain ⟨k1, h1⟩ := iha hw.2 s hs
    refine ⟨k1 + 1, ?_⟩
    rw [rholdF, h1, V]
    rfl
  | fix c x a iha =>
    intro hw s hs
    obtain ⟨J, hJ, h1, h2, h3⟩ := steps_of hv c x hw.2.2 hs
    obtain ⟨k, hk⟩ := rloop_at (nx := nx) (mk := mk) (x := x) (a := a) (s := s) (fun j => iha hw.2.2 _ (inE_set hs x (it_in (i0_in hv c) (F_in hv hw.2.2 hs) j))) h1 h2 J 0 s 1 (by omega) (fun _ => rfl) (by omega) (by omega)
    refine ⟨k + 1, ?_⟩
    rw [rholdF]
    have e : it (FOf nx mk x a s) (i0Of nx c) 0 = if c = 103 then allOf nx else 0 := rfl
    rw [e] at hk
    rw [hk, ← h3]
    rfl

/-- every letter that it names is bound -/
def Sc : List Nat → Fm → Prop
  | _, .mark _ _ => True
  | _, .con _ => True
  | b, .var c => c ∈ b
  | b, .two _ a c => Sc b a ∧ Sc b c
  | b, .one _ a => Sc b a
  | b, .fix _ x a => x ∉ b ∧ Sc (b ++ [x]) a

theorem parse_sc : ∀ n l b f r, parse n l b = some (f, r) → Sc b f := by
  intro n
  induction n with
  | zero => intro l b f r h; simp [parse] at h
  | succ n ih =>
    intro l b f r h
    cases l with
    | nil => simp [parse] at h
    | cons c l =>
      simp only [parse] at h
      by_cases h1 : isMk c = true
      · rw [if_pos h1] at h
        simp only [Option.some.injEq, Prod.mk.injEq] at h
        obtain ⟨rfl, rfl⟩ := h
        trivial
      · rw [if_neg h1] at h
        by_cases h2 : c = 45
        · rw [if_pos h2] at h
          cases l with
          | nil => cases h
          | cons d t =>
            simp only at h
            by_cases h3 : isMk d = true
            · rw [if_pos h3] at h
              simp only [Option.some.injEq, Prod.mk.injEq] at h
              obtain ⟨rfl, rfl⟩ := h
              trivial
            · rw [if_neg h3] at h
              cases h
        · rw [if_neg h2] at h
          by_cases h3 : c = 116 ∨ c = 102
          · rw [if_pos h3] at h
            simp only [Option.some.injEq, Prod.mk.injEq] at h
            obtain ⟨rfl, rfl⟩ := h
            trivial
          · rw [if_neg h3] at h
            by_cases h4 : isLt c = true
            · rw [if_pos h4] at h
              by_cases h5 : c ∈ b
              · rw [if_pos h5] at h
                simp only [Option.some.injEq, Prod.mk.injEq] at h
                obtain ⟨rfl, rfl⟩ := h
                exact h5
              · rw [if_neg h5] at h
                cases h
            · rw [if_neg h4] at h
              by_cases h6 : c = 109 ∨ c = 103
              · rw [if_pos h6] at h
                cases l with
                | nil => cases h
                | cons d t =>
                  simp only at h
                  by_cases h7 : isLt d = true ∧ d ∉ b
                  · rw [if_pos h7] at h
                    obtain ⟨p, hp, h⟩ := Option.bind_eq_some_iff.mp h
                    simp only [Option.some.injEq, Prod.mk.injEq] at h
                    obtain ⟨rfl, rfl⟩ := h
                    exact ⟨h7.2, ih _ _ _ _ hp⟩
                  · rw [if_neg h7] at h
                    cases h
              · rw [if_neg h6] at h
                by_cases h7 : c = 38 ∨ c = 124
                · rw [if_pos h7] at h
                  obtain ⟨p, hp, h⟩ := Option.bind_eq_some_iff.mp h
                  obtain ⟨q, hq, h⟩ := Option.bind_eq_some_iff.mp h
                  simp only [Option.some.injEq, Prod.mk.injEq] at h
                  obtain ⟨rfl, rfl⟩ := h
                  exact ⟨ih _ _ _ _ hp, ih _ _ _ _ hq⟩
                · rw [if_neg h7] at h
                  by_cases h8 : c = 60 ∨ c = 91
                  · rw [if_pos h8] at h
                    obtain ⟨p, hp, h⟩ := Option.bind_eq_some_iff.mp h
                    simp only [Option.some.injEq, Prod.mk.injEq] at h
                    obtain ⟨rfl, rfl⟩ := h
                    exact (show Sc b p.1 from ih l b p.1 p.2 hp)
                  · rw [if_neg h8] at h
                    cases h

/-- the program's map says what the reference's sets say, for the letters in use -/
def Rel (b : List Nat) (m : List (Int × Int)) (s : Sets) : Prop := ∀ c, c ∈ b → (findL m (c : Int)).getD 0 = getL c s
def Lets (b : List Nat) : Prop := ∀ c, c ∈ b → 120 ≤ c ∧ c ≤ 122
theorem key_ne {c x : Nat} (hc : 120 ≤ c ∧ c ≤ 122) (hx : 120 ≤ x ∧ x ≤ 122) (h : c ≠ x) : key c ≠ key x := by
  unfold key
  split <;> split <;> (try split) <;> (try split) <;> omega
theorem rel_put {b : List Nat} {m : List (Int × Int)} {s : Sets} {x : Nat} (hb : Lets b) (hx : 120 ≤ x ∧ x ≤ 122) (hn : x ∉ b) (h : Rel b m s) (v : Int) : Rel (b ++ [x]) (putL m (x : Int) v) (setL x v s) := by
  intro c hc
  rw [findL_putL, getL_setL]
  by_cases e : x = c
  · subst e
    rw [if_pos rfl, if_pos rfl]
    rfl
  · have hcb : c ∈ b := by
      rcases List.mem_append.1 hc with h | h
      · exact h
      · exact absurd (List.mem_singleton.1 h).symm e
    rw [if_neg (by omega), if_neg (key_ne (hb c hcb) hx (fun h => e h.symm))]
    exact h c hcb

theorem loop_at {nx mk : List Int} {b : List Nat} {x : Nat} {a : Fm} {s : Sets} (hb : Lets b) (hx : 120 ≤ x ∧ x ≤ 122) (hn : x ∉ b) {F : Int → Int} {i0 : Int}
    (hF : ∀ j m, Rel (b ++ [x]) m (setL x (it F i0 j) s) → ∃ k m', holdF nx mk k a m = some (it F i0 (j + 1), m') ∧ ∀ c ∈ b ++ [x], findL m' (c : Int) = findL m (c : Int)) {J : Nat} (hJ : it F i0 (J + 1) = it F i0 J) (hne : ∀ j, j < J → it F i0 (j + 1) ≠ it F i0 j) :
    ∀ d j m (cnt : Int), j + d = J → Rel b m s → 0 ≤ cnt → cnt + d < 1000000 → ∃ k m', loopF nx mk k x a (it F i0 j) cnt m = some (it F i0 J, cnt + d + 1, m') ∧ ∀ c ∈ b, findL m' (c : Int) = findL m (c : Int) := by
  have keep : ∀ (m m' : List (Int × Int)) v, (∀ c ∈ b ++ [x], findL m' (c : Int) = findL (putL m (x : Int) v) (c : Int)) → ∀ c ∈ b, findL m' (c : Int) = findL m (c : Int) := by
    intro m m' v h c hc
    rw [h c (List.mem_append.2 (.inl hc)), findL_putL, if_neg]
    intro e
    have : x = c := by omega
    exact hn (this ▸ hc)
  intro d
  induction d with
  | zero =>
    intro j m cnt hj hr h0 h1
    obtain rfl : j = J := by omega
    obtain ⟨k, m', hk, hm⟩ := hF j _ (rel_put hb hx hn hr (it F i0 j))
    refine ⟨k + 1, m', ?_, keep _ _ _ hm⟩
    rw [loopF, hk]
    simp only [Option.bind_some]
    rw [if_pos hJ, wrap_small h0 (by omega)]
    simp
  | succ d ih =>
    intro j m cnt hj hr h0 h1
    obtain ⟨k, m', hk, hm⟩ := hF j _ (rel_put hb hx hn hr (it F i0 j))
    have hm2 := keep _ _ _ hm
    obtain ⟨k2, m2, hk2, hm3⟩ := ih (j + 1) m' (cnt + 1) (by omega) (fun c hc => by rw [hm2 c hc]; exact hr c hc) (by omega) (by omega)
    refine ⟨max k k2 + 1, m2, ?_, fun c hc => by rw [hm3 c hc, hm2 c hc]⟩
    rw [loopF, lift (fun k => (holdF_mono nx mk k).1 _ _) hk (Nat.le_max_left k k2)]
    simp only [Option.bind_some]
    rw [if_neg (hne j (by omega)), wrap_small h0 (by omega), lift (fun k => (holdF_mono nx mk k).2 _ _ _ _ _) hk2 (Nat.le_max_right k k2)]
    congr 3
    omega

theorem neg_mark {nx mk : List Int} (hv : VW nx mk) {j : Nat} (hj : j ≤ 3) : whereTo (fun s => markOf mk j s == 0) nx.length = bits .andNot .i64 (allOf nx) (mset mk j) := by
  have hle := hv.le
  have h := whereTo_spec (fun s => markOf mk j s == 0) nx.length (by omega)
  have hm := mset_spec hv hj
  refine inS_ext h.1 (andNot_in (by omega) (by omega) (all_in (by omega)) hm.1) fun i hi => ?_
  rw [h.2, tb_andNot (by omega) (by omega) (all_in (by omega)) hm.1, hm.2, tb_all (by omega)]
  have hmi := hv.marks i hi
  have := markOf_val hmi.1 hmi.2 hj
  simp only [markOf, Nat.min_eq_left (show j ≤ 64 by omega)]
  rw [this]
  cases tb (rd mk i) j <;> simp [hi]

theorem hold_total {nx mk : List Int} (hv : VW nx mk) : ∀ f, WF f → ∀ b m s, Lets b → Sc b f → Rel b m s → InE nx.length s → ∃ k m', holdF nx mk k f m = some (V nx mk f s, m') ∧ ∀ c ∈ b, findL m' (c : Int) = findL m (c : Int) := by
  have hle := hv.le
  intro f
  induction f with
  | mark neg j =>
    intro hw b m s hb hsc hr hs
    refine ⟨1, m, ?_, fun _ _ => rfl⟩
    rw [holdF, V]
    cases neg with
    | true =>
      simp only [if_true]
      rw [neg_mark hv hw]
    | false =>
      simp only [Bool.false_eq_true, if_false]
      rw [mset, hv.len]
  | con c =>
    intro hw b m s hb hsc hr hs
    refine ⟨1, m, ?_, fun _ _ => rfl⟩
    rw [holdF, V]
    rcases hw with rfl | rfl
    · rfl
    · rfl
  | var c =>
    intro hw b m s hb hsc hr hs
    refine ⟨1, m, ?_, fun _ _ => rfl⟩
    rw [holdF, V, hr c hsc]
  | two c a b' iha ihb =>
    intro hw b m s hb hsc hr hs
    obtain ⟨k1, m1, h1, g1⟩ := iha hw.2.1 b m s hb hsc.1 hr hs
    obtain ⟨k2, m2, h2, g2⟩ := ihb hw.2.2 b m1 s hb hsc.2 (fun c hc => by rw [g1 c hc]; exact hr c hc) hs
    refine ⟨max k1 k2 + 1, m2, ?_, fun c hc => by rw [g2 c hc, g1 c hc]⟩
    rw [holdF, if_pos hw.1, lift (fun k => (holdF_mono nx mk k).1 _ _) h1 (Nat.le_max_left k1 k2)]
    simp only [Option.bind_some]
    rw [lift (fun k => (holdF_mono nx mk k).1 _ _) h2 (Nat.le_max_right k1 k2), V]
    rfl
  | one c a iha =>
    intro hw b m s hb hsc hr hs
    obtain ⟨k1, m1, h1, g1⟩ := iha hw.2 b m s hb hsc hr hs
    refine ⟨k1 + 1, m1, ?_, g1⟩
    rw [holdF, if_pos hw.1, h1, V]
    rfl
  | fix c x a iha =>
    intro hw b m s hb hsc hr hs
    obtain ⟨J, hJ, h1, h2, h3⟩ := steps_of hv c x hw.2.2 hs
    have hb2 : Lets (b ++ [x]) := fun c hc => by
      rcases List.mem_append.1 hc with h | h
      · exact hb c h
      · rw [List.mem_singleton.1 h]; exact hw.2.1
    obtain ⟨k, m', hk, hm⟩ := loop_at (nx := nx) (mk := mk) (a := a) (s := s) hb hw.2.1 hsc.1 (fun j m hr => iha hw.2.2 (b ++ [x]) m _ hb2 hsc.2 hr (inE_set hs x (it_in (i0_in hv c) (F_in hv hw.2.2 hs) j))) h1 h2 J 0 m 0 (by omega) hr (by omega) (by omega)
    refine ⟨k + 1, m', ?_, hm⟩
    rw [holdF, if_pos hw.1]
    have e : it (FOf nx mk x a s) (i0Of nx c) 0 = if c = 103 then allOf nx else 0 := rfl
    rw [e] at hk
    rw [hk, ← h3]
    rfl

theorem inE_zero (n : Nat) : InE n (0, 0, 0) := fun c => by
  unfold getL
  split
  · exact inS_zero n
  · split <;> exact inS_zero n

/-- what both come to, for a whole formula -/
theorem whole_sc {l : List Nat} {f : Fm} (h : whole l = some f) : Sc [] f := by
  unfold whole at h
  obtain ⟨p, hp, h⟩ := Option.bind_eq_some_iff.mp h
  split at h
  · injection h with h
    subst h
    exact parse_sc _ _ _ _ _ hp
  · cases h
theorem both_holds {nx mk : List Int} (hv : VW nx mk) {l : List Nat} {f : Fm} (h : whole l = some f) : ∃ k m, rholdF nx mk k f (0, 0, 0) = some (V nx mk f (0, 0, 0)) ∧ holdF nx mk k f [] = some (V nx mk f (0, 0, 0), m) := by
  obtain ⟨k1, h1⟩ := rhold_total hv f (whole_str h).2 (0, 0, 0) (inE_zero _)
  obtain ⟨k2, m, h2, _⟩ := hold_total hv f (whole_str h).2 [] [] (0, 0, 0) (fun c hc => by cases hc) (whole_sc h) (fun c hc => by cases hc) (inE_zero _)
  exact ⟨max k1 k2, m, lift (fun k => (rholdF_mono nx mk k).1 _ _) h1 (Nat.le_max_left k1 k2), lift (fun k => (holdF_mono nx mk k).1 _ _) h2 (Nat.le_max_right k1 k2)⟩
theorem both_steps {nx mk : List Int} (hv : VW nx mk) {l : List Nat} {c x : Nat} {a : Fm} (h : whole l = some (.fix c x a)) : ∃ k m J, J ≤ nx.length ∧ rloopF nx mk k x a (if c = 103 then allOf nx else 0) 1 (0, 0, 0) = some (V nx mk (.fix c x a) (0, 0, 0), 1 + (J : Int)) ∧ loopF nx mk k x a (if c = 103 then allOf nx else 0) 0 [] = some (V nx mk (.fix c x a) (0, 0, 0), 0 + (J : Int) + 1, m) := by
  have hle := hv.le
  have hw := (whole_str h).2
  have hsc := whole_sc h
  have hs := inE_zero nx.length
  obtain ⟨J, hJ, h1, h2, h3⟩ := steps_of hv c x hw.2.2 hs
  obtain ⟨k1, e1⟩ := rloop_at (nx := nx) (mk := mk) (x := x) (a := a) (s := (0, 0, 0)) (fun j => rhold_total hv a hw.2.2 _ (inE_set hs x (it_in (i0_in hv c) (F_in hv hw.2.2 hs) j))) h1 h2 J 0 (0, 0, 0) 1 (by omega) (fun _ => rfl) (by omega) (by omega)
  have hb2 : Lets ([] ++ [x]) := fun c hc => by
    rw [List.mem_singleton.1 hc]; exact hw.2.1
  obtain ⟨k2, m', e2, _⟩ := loop_at (nx := nx) (mk := mk) (a := a) (b := []) (s := (0, 0, 0)) (fun c hc => by cases hc) hw.2.1 hsc.1 (fun j m hr => hold_total hv a hw.2.2 ([] ++ [x]) m _ hb2 hsc.2 hr (inE_set hs x (it_in (i0_in hv c) (F_in hv hw.2.2 hs) j))) h1 h2 J 0 [] 0 (by omega) (fun c hc => by cases hc) (by omega) (by omega)
  rw [h3] at e1 e2
  exact ⟨max k1 k2, m', J, hJ, lift (fun k => (rholdF_mono nx mk k).2 _ _ _ _ _) e1 (Nat.le_max_left k1 k2), lift (fun k => (holdF_mono nx mk k).2 _ _ _ _ _) e2 (Nat.le_max_right k1 k2)⟩
end Go.Proofs.Ytjffhhalmicodaa.L
