/- Texts of this claim, merged by a program (wip/tools/shake.py); what nothing names is left out. -/

section
namespace Go.Proofs.Ytjffhhalmicodaa.X
inductive Fm where
  | mark (neg : Bool) (k : Nat)
  | con (c : Nat)
  | var (c : Nat)
  | two (c : Nat) (a b : Fm)
  | one (c : Nat) (a : Fm)
  | fix (c x : Nat) (a : Fm)
  deriving DecidableEq
def isMk (c : Nat) : Bool := 48 ≤ c && c ≤ 51
def isLt (c : Nat) : Bool := 120 ≤ c && c ≤ 122
def parse : Nat → List Nat → List Nat → Option (Fm × List Nat)
  | 0, _, _ => none
  | _ + 1, [], _ => none
  | n + 1, c :: l, b =>
    if isMk c = true then some (.mark false (c - 48), l)
    else if c = 45 then (match l with
      | d :: r => if isMk d = true then some (.mark true (d - 48), r) else none
      | [] => none)
    else if c = 116 ∨ c = 102 then some (.con c, l)
    else if isLt c = true then (if c ∈ b then some (.var c, l) else none)
    else if c = 109 ∨ c = 103 then (match l with
      | x :: r => if isLt x = true ∧ x ∉ b then (parse n r (b ++ [x])).bind fun p => some (.fix c x p.1, p.2) else none
      | [] => none)
    else if c = 38 ∨ c = 124 then (parse n l b).bind fun p => (parse n p.2 b).bind fun q => some (.two c p.1 q.1, q.2)
    else if c = 60 ∨ c = 91 then (parse n l b).bind fun p => some (.one c p.1, p.2)
    else none
theorem parse_len : ∀ n l b f r, parse n l b = some (f, r) → r.length < l.length := by
  intro n
  induction n with
  | zero => intro l b f r h; simp [parse] at h
  | succ n ih =>
    intro l b f r h
    cases l with
    | nil => simp [parse] at h
    | cons c l =>
      simp only [parse] at h
      split at h
      · simp only [Option.some.injEq, Prod.mk.injEq] at h
        obtain ⟨_, rfl⟩ := h
        simp
      · split at h
        · cases l with
          | nil => cases h
          | cons d t =>
            simp only at h
            split at h
            · simp only [Option.some.injEq, Prod.mk.injEq] at h
              obtain ⟨_, rfl⟩ := h
              simp only [List.length_cons]
              omega
            · cases h
        · split at h
          · simp only [Option.some.injEq, Prod.mk.injEq] at h
            obtain ⟨_, rfl⟩ := h
            simp
          · split at h
            · split at h
              · simp only [Option.some.injEq, Prod.mk.injEq] at h
                obtain ⟨_, rfl⟩ := h
                simp
              · cases h
            · split at h
              · cases l with
                | nil => cases h
                | cons d t =>
                  simp only at h
                  split at h
                  · obtain ⟨p, hp, h⟩ := Option.bind_eq_some_iff.mp h
                    simp only [Option.some.injEq, Prod.mk.injEq] at h
                    obtain ⟨_, rfl⟩ := h
                    have := ih _ _ _ _ hp
                    simp only [List.length_cons]
                    omega
                  · cases h
              · split at h
                · obtain ⟨p, hp, h⟩ := Option.bind_eq_some_iff.mp h
                  obtain ⟨q, hq, h⟩ := Option.bind_eq_some_iff.mp h
                  simp only [Option.some.injEq, Prod.mk.injEq] at h
                  obtain ⟨_, rfl⟩ := h
                  have h1 := ih _ _ _ _ hp
                  have h2 := ih _ _ _ _ hq
                  simp only [List.length_cons]
                  omega
                · split at h
                  · obtain ⟨p, hp, h⟩ := Option.bind_eq_some_iff.mp h
                    simp only [Option.some.injEq, Prod.mk.injEq] at h
                    obtain ⟨_, rfl⟩ := h
                    have h1 := ih _ _ _ _ hp
                    simp only [List.length_cons]
                    omega
                  · cases h
def whole (l : List Nat) : Option Fm := (parse (l.length + 1) l []).bind fun p => if p.2 = [] then some p.1 else none
def kidsTo (n : Nat) : Nat → List Nat → List Nat → Option (List Fm × List Nat)
  | 0, l, _ => some ([], l)
  | k + 1, l, b => (kidsTo n k l b).bind fun p => (parse n p.2 b).bind fun q => some (p.1 ++ [q.1], q.2)
def mkN (c : Nat) : List Fm → Fm
  | [a] => .one c a
  | [a, b] => .two c a b
  | _ => .con c
theorem kidsTo_none {n k m : Nat} {l b : List Nat} (h : kidsTo n k l b = none) (hm : k ≤ m) : kidsTo n m l b = none := by
  induction m with
  | zero => obtain rfl : k = 0 := by omega
            exact h
  | succ m ih =>
    rcases Nat.lt_or_ge k (m + 1) with h1 | h1
    · simp only [kidsTo]
      rw [ih (by omega)]
      rfl
    · obtain rfl : k = m + 1 := by omega
      exact h
theorem kidsTo_len {n k : Nat} {l b : List Nat} {fs : List Fm} {r : List Nat} (h : kidsTo n k l b = some (fs, r)) : r.length ≤ l.length ∧ fs.length = k := by
  induction k generalizing fs r with
  | zero =>
    simp only [kidsTo, Option.some.injEq, Prod.mk.injEq] at h
    obtain ⟨rfl, rfl⟩ := h
    simp
  | succ k ih =>
    simp only [kidsTo] at h
    obtain ⟨p, hp, h⟩ := Option.bind_eq_some_iff.mp h
    obtain ⟨q, hq, h⟩ := Option.bind_eq_some_iff.mp h
    simp only [Option.some.injEq, Prod.mk.injEq] at h
    obtain ⟨rfl, rfl⟩ := h
    have h1 := ih hp
    have h2 := parse_len _ _ _ _ _ hq
    simp only [List.length_append, List.length_cons, List.length_nil]
    omega
end Go.Proofs.Ytjffhhalmicodaa.X
end
