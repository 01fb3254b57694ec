/- Texts of this claim, merged by a program (wip/tools/shake.py); what nothing names is left out. -/

section
namespace Go.Proofs.Ytjffhhalmicodaa.X
inductive Fm where
 | mark (neg : Bool) (k : Nat)
 | con (c : Nat)
 | var (c : Nat)
 | two (c : Nat) (a b : Fm)
 | one (c : Nat) (a : Fm)
 | fix (c x : Nat) (a : Fm)
 deriving DecidableEq
def isMk (c : Nat) : Bool := 48 ≤ c && c ≤ 51
def isLt (c : Nat) : Bool := 120 ≤ c && c ≤ 122
def parse : Nat → List Nat → List Nat → Option (Fm × List Nat)
 | 0, _, _ => none
 | _ + 1, [], _ => none
 | n + 1, c :: l, b =>
  if isMk c = true then some (.mark false (c - 48), l)
  else if c = 45 then (match l with
   | d :: r => if isMk d = true then some (.mark true (d - 48), r) else none
   | [] => none)
  else if c = 116 ∨ c = 102 then some (.con c, l)
  else if isLt c = true then (if c ∈ b then some (.var c, l) else none)
  else if c = 109 ∨ c = 103 then (match l with
   | x :: r => if isLt x = true ∧ x ∉ b then (parse n r (b ++ [x])).bind fun p => some (.fix c x p.1, p.2) else none
   | [] => none)
  else if c = 38 ∨ c = 124 then (parse n l b).bind fun p => (parse n p.2 b).bind fun q => some (.two c p.1 q.1, q.2)
  else if c = 60 ∨ c = 91 then (parse n l b).bind fun p => some (.one c p.1, p.2)
  else none
def str : Fm → List Nat
 | .mark neg k => if neg = true then [45, 48 + k] else [48 + k]
 | .con c => [c]
 | .var c => [c]
 | .two c a b => c :: (str a ++ str b)
 | .one c a => c :: str a
 | .fix c x a => c :: x :: str a
def WF : Fm → Prop
 | .mark _ k => k ≤ 3
 | .con c => c = 116 ∨ c = 102
 | .var c => 120 ≤ c ∧ c ≤ 122
 | .two c a b => (c = 38 ∨ c = 124) ∧ WF a ∧ WF b
 | .one c a => (c = 60 ∨ c = 91) ∧ WF a
 | .fix c x a => (c = 109 ∨ c = 103) ∧ (120 ≤ x ∧ x ≤ 122) ∧ WF a
theorem parse_len : ∀ n l b f r, parse n l b = some (f, r) → r.length < l.length := by
 intro n
 induction n with
 | zero => intro l b f r h; simp [parse] at h
 | succ n ih =>
  intro l b f r h
  cases l with
  | nil => simp [parse] at h
  | cons c l =>
   simp only [parse] at h
   split at h
   ·simp only [Option.some.injEq, Prod.mk.injEq] at h
    obtain ⟨_, rfl⟩ := h
    simp
   ·split at h
    ·cases l with
     | nil => cases h
     | cons d t =>
      simp only at h
      split at h
      ·simp only [Option.some.injEq, Prod.mk.injEq] at h
       obtain ⟨_, rfl⟩ := h
       simp only [List.length_cons]
       omega
      ·cases h
    ·split at h
     ·simp only [Option.some.injEq, Prod.mk.injEq] at h
      obtain ⟨_, rfl⟩ := h
      simp
     ·split at h
      ·split at h
       ·simp only [Option.some.injEq, Prod.mk.injEq] at h
        obtain ⟨_, rfl⟩ := h
        simp
       ·cases h
      ·split at h
       ·cases l with
        | nil => cases h
        | cons d t =>
         simp only at h
         split at h
         ·obtain ⟨p, hp, h⟩ := Option.bind_eq_some_iff.mp h
          simp only [Option.some.injEq, Prod.mk.injEq] at h
          obtain ⟨_, rfl⟩ := h
          have := ih _ _ _ _ hp
          simp only [List.length_cons]
          omega
         ·cases h
       ·split at h
        ·obtain ⟨p, hp, h⟩ := Option.bind_eq_some_iff.mp h
         obtain ⟨q, hq, h⟩ := Option.bind_eq_some_iff.mp h
         simp only [Option.some.injEq, Prod.mk.injEq] at h
         obtain ⟨_, rfl⟩ := h
         have h1 := ih _ _ _ _ hp
         have h2 := ih _ _ _ _ hq
         simp only [List.length_cons]
         omega
        ·split at h
         ·obtain ⟨p, hp, h⟩ := Option.bind_eq_some_iff.mp h
          simp only [Option.some.injEq, Prod.mk.injEq] at h
          obtain ⟨_, rfl⟩ := h
          have h1 := ih _ _ _ _ hp
          simp only [List.length_cons]
          omega
         ·cases h
theorem isMk_iff {c : Nat} : isMk c = true ↔ 48 ≤ c ∧ c ≤ 51 := by simp [isMk]
theorem isLt_iff {c : Nat} : isLt c = true ↔ 120 ≤ c ∧ c ≤ 122 := by simp [isLt]
theorem parse_str : ∀ n l b f r, parse n l b = some (f, r) → l = str f ++ r ∧ WF f := by
 intro n
 induction n with
 | zero => intro l b f r h; simp [parse] at h
 | succ n ih =>
  intro l b f r h
  cases l with
  | nil => simp [parse] at h
  | cons c l =>
   simp only [parse] at h
   by_cases h1 : isMk c = true
   ·rw [if_pos h1] at h
    simp only [Option.some.injEq, Prod.mk.injEq] at h
    obtain ⟨rfl, rfl⟩ := h
    have := isMk_iff.1 h1
    simp only [str, Bool.false_eq_true, if_false, WF, List.cons_append, List.nil_append, List.cons.injEq, and_true]
    omega
   ·rw [if_neg h1] at h
    by_cases h2 : c = 45
    ·rw [if_pos h2] at h
     cases l with
     | nil => cases h
     | cons d t =>
      simp only at h
      by_cases h3 : isMk d = true
      ·rw [if_pos h3] at h
       simp only [Option.some.injEq, Prod.mk.injEq] at h
       obtain ⟨rfl, rfl⟩ := h
       have := isMk_iff.1 h3
       simp only [str, if_true, WF, List.cons_append, List.nil_append, List.cons.injEq, and_true]
       omega
      ·rw [if_neg h3] at h
       cases h
    ·rw [if_neg h2] at h
     by_cases h3 : c = 116 ∨ c = 102
     ·rw [if_pos h3] at h
      simp only [Option.some.injEq, Prod.mk.injEq] at h
      obtain ⟨rfl, rfl⟩ := h
      exact ⟨rfl, h3⟩
     ·rw [if_neg h3] at h
      by_cases h4 : isLt c = true
      ·rw [if_pos h4] at h
       by_cases h5 : c ∈ b
       ·rw [if_pos h5] at h
        simp only [Option.some.injEq, Prod.mk.injEq] at h
        obtain ⟨rfl, rfl⟩ := h
        exact ⟨rfl, isLt_iff.1 h4⟩
       ·rw [if_neg h5] at h
        cases h
      ·rw [if_neg h4] at h
       by_cases h6 : c = 109 ∨ c = 103
       ·rw [if_pos h6] at h
        cases l with
        | nil => cases h
        | cons d t =>
         simp only at h
         by_cases h7 : isLt d = true ∧ d ∉ b
         ·rw [if_pos h7] at h
          obtain ⟨p, hp, h⟩ := Option.bind_eq_some_iff.mp h
          simp only [Option.some.injEq, Prod.mk.injEq] at h
          obtain ⟨rfl, rfl⟩ := h
          obtain ⟨e1, e2⟩ := ih _ _ _ _ hp
          exact ⟨by rw [e1]; rfl, h6, isLt_iff.1 h7.1, e2⟩
         ·rw [if_neg h7] at h
          cases h
       ·rw [if_neg h6] at h
        by_cases h7 : c = 38 ∨ c = 124
        ·rw [if_pos h7] at h
         obtain ⟨p, hp, h⟩ := Option.bind_eq_some_iff.mp h
         obtain ⟨q, hq, h⟩ := Option.bind_eq_some_iff.mp h
         simp only [Option.some.injEq, Prod.mk.injEq] at h
         obtain ⟨rfl, rfl⟩ := h
         obtain ⟨e1, e2⟩ := ih _ _ _ _ hp
         obtain ⟨e3, e4⟩ := ih _ _ _ _ hq
         exact ⟨by rw [e1, e3]; simp [str], h7, e2, e4⟩
        ·rw [if_neg h7] at h
         by_cases h8 : c = 60 ∨ c = 91
         ·rw [if_pos h8] at h
          obtain ⟨p, hp, h⟩ := Option.bind_eq_some_iff.mp h
          simp only [Option.some.injEq, Prod.mk.injEq] at h
          obtain ⟨rfl, rfl⟩ := h
          obtain ⟨e1, e2⟩ := ih _ _ _ _ hp
          exact ⟨by rw [e1]; rfl, h8, e2⟩
         ·rw [if_neg h8] at h
          cases h
def whole (l : List Nat) : Option Fm := (parse (l.length + 1) l []).bind fun p => if p.2 = [] then some p.1 else none
theorem whole_str {l : List Nat} {f : Fm} (h : whole l = some f) : l = str f ∧ WF f := by
 unfold whole at h
 obtain ⟨p, hp, h⟩ := Option.bind_eq_some_iff.mp h
 obtain ⟨e1, e2⟩ := parse_str _ _ _ _ _ hp
 split at h
 ·rename_i hn
  injection h with h
  subst h
  rw [hn, List.append_nil] at e1
  exact ⟨e1, e2⟩
 ·cases h
def kidsTo (n : Nat) : Nat → List Nat → List Nat → Option (List Fm × List Nat)
  | 0, l, _ => some ([], l)
  | k + 1, l, b => (kidsTo n k l b).bind fun p => (parse n p.2 b).bind fun q => some (p.1 ++ [q.1], q.2)
def mkN (c : Nat) : List Fm → Fm
  | [a] => .one c a
  | [a, b] => .two c a b
  | _ => .con c
theorem kidsTo_none {n k m : Nat} {l b : List Nat} (h : kidsTo n k l b = none) (hm : k ≤ m) : kidsTo n m l b = none := by
  induction m with
  | zero => obtain rfl : k = 0 := by omega
            exact h
  | succ m ih =>
    rcases Nat.lt_or_ge k (m + 1) with h1 | h1
    · simp only [kidsTo]
      rw [ih (by omega)]
      rfl
    · obtain rfl : k = m + 1 := by omega
      exact h
theorem kidsTo_len {n k : Nat} {l b : List Nat} {fs : List Fm} {r : List Nat} (h : kidsTo n k l b = some (fs, r)) : r.length ≤ l.length ∧ fs.length = k := by
 induction k generalizing fs r with
 | zero =>
  simp only [kidsTo, Option.some.injEq, Prod.mk.injEq] at h
  obtain ⟨rfl, rfl⟩ := h
  simp
 | succ k ih =>
  simp only [kidsTo] at h
  obtain ⟨p, hp, h⟩ := Option.bind_eq_some_iff.mp h
  obtain ⟨q, hq, h⟩ := Option.bind_eq_some_iff.mp h
  simp only [Option.some.injEq, Prod.mk.injEq] at h
  obtain ⟨rfl, rfl⟩ := h
  have h1 := ih hp
  have h2 := parse_len _ _ _ _ _ hq
  simp only [List.length_append, List.length_cons, List.length_nil]
  omega
end Go.Proofs.Ytjffhhalmicodaa.X
end
