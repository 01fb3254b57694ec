import Derived.Test.YtjffhhalmicodaaLc
import Derived.Test.YtjffhhalmicodaaPBx2
set_option linter.unusedVariables false
set_option linter.unusedSimpArgs false
namespace Go.Proofs.Ytjffhhalmicodaa.L
open Go.RowKit Go.Proofs.YtjffhhalmicodaaW.PrintWords Go.Proofs.YtjffhhalmicodaaW.PrintLast Go.Proofs.YtjffhhalmicodaaW.PrintMore Go.Proofs.Ytjffhhalmicodaa.X
open Go.Proofs.Ytjffhhalmicodaa.PB (comfitref08_read.f comfitref08_read.j0 comfitref08_read.j1 comfitref08_read.j2 comfitref08_read.j3 comfitref08_read.j4)
open Go.Proofs.Ytjffhhalmicodaa.PA (comfitref08_digit.f comfitref08_letter.f)

/-- a formula's depth -/
def dep : Fm → Nat
  | .mark _ _ => 0
  | .con _ => 0
  | .var _ => 0
  | .two _ a b => max (dep a) (dep b)
  | .one _ a => dep a + 1
  | .fix _ _ a => dep a

def MayOk (may : Int) (b : List Nat) : Prop := InS 3 may ∧ ∀ c, 120 ≤ c → c ≤ 122 → (tb may (c - 120) = true ↔ c ∈ b)
theorem digit_in {c : Nat} (h : isMk c = true) : comfitref08_digit.f (c : Int) = some ((c : Int) - 48) := by
  have := isMk_iff.1 h
  rw [comfitref08_digit.f, if_pos (by omega), if_pos (by omega)]
  congr 1
  omega
theorem digit_out {c : Nat} (h : isMk c = false) : comfitref08_digit.f (c : Int) = some (-1) := by
  have : ¬ (48 ≤ c ∧ c ≤ 51) := fun e => by rw [isMk_iff.2 e] at h; cases h
  rw [comfitref08_digit.f]
  by_cases h1 : (c : Int) ≥ 48
  · rw [if_pos h1, if_neg (by omega)]
  · rw [if_neg h1]
theorem letter_in {c : Nat} (h : isLt c = true) : comfitref08_letter.f (c : Int) = some (((c - 120 : Nat) : Int)) := by
  have := isLt_iff.1 h
  rw [comfitref08_letter.f, if_pos (by omega), if_pos (by omega)]
  congr 1
  omega
theorem letter_out {c : Nat} (h : isLt c = false) : comfitref08_letter.f (c : Int) = some (-1) := by
  have : ¬ (120 ≤ c ∧ c ≤ 122) := fun e => by rw [isLt_iff.2 e] at h; cases h
  rw [comfitref08_letter.f]
  by_cases h1 : (c : Int) ≥ 120
  · rw [if_pos h1, if_neg (by omega)]
  · rw [if_neg h1]
theorem may_bit {may : Int} {b : List Nat} (h : MayOk may b) {c : Nat} (h1 : 120 ≤ c) (h2 : c ≤ 122) : Go.bits .and .i64 (shr .i64 may ((c - 120 : Nat) : Int)) 1 = if c ∈ b then 1 else 0 := by
  have hm := h.1
  have e : shr .i64 may ((c - 120 : Nat) : Int) = may / 2 ^ (c - 120) := by
    unfold shr
    rw [show min ((c - 120 : Nat) : Int).toNat IntKind.i64.bits = c - 120 by simp [IntKind.bits]; omega]
  rw [e, markOf_val hm.1 (by have := hm.2; have : (2 : Int) ^ 3 = 8 := by decide
                             omega) (by omega)]
  by_cases hc : c ∈ b
  · rw [if_pos ((h.2 c h1 h2).2 hc), if_pos hc]
  · rw [if_neg (fun g => hc ((h.2 c h1 h2).1 g)), if_neg hc]
theorem may_put {may : Int} {b : List Nat} (h : MayOk may b) {c : Nat} (h1 : 120 ≤ c) (h2 : c ≤ 122) : MayOk (Go.bits .or .i64 may (shl .i64 1 ((c - 120 : Nat) : Int))) (b ++ [c]) := by
  rw [shl1 (by omega)]
  have hq : InS 3 (((2 ^ (c - 120) : Nat) : Int)) := inS_of (Nat.pow_lt_pow_right (by decide) (by omega))
  refine ⟨or_in (by omega) h.1 hq, fun d h3 h4 => ?_⟩
  rw [tb_or (by omega) (by omega) h.1 hq, tb_nat, Nat.testBit_two_pow, Bool.or_eq_true, h.2 d h3 h4, decide_eq_true_eq, List.mem_append, List.mem_singleton]
  constructor
  · rintro (g | g)
    · exact .inl g
    · exact .inr (by omega)
  · rintro (g | g)
    · exact .inl g
    · exact .inr (by omega)

theorem drop_bt {s : ByteArray} {i c : Nat} {l : List Nat} (h : (cs s).drop i = c :: l) : i < s.size ∧ bt s (i : Int) = (c : Int) ∧ (cs s).drop (i + 1) = l ∧ l.length = s.size - (i + 1) ∧ c < 256 := by
  obtain ⟨h1, h2, h3⟩ := drop_at h
  have e : bt s (i : Int) = (c : Int) := by
    rw [← h2 h1]
    unfold bt
    simp [h1]
  refine ⟨h1, e, h3, ?_, ?_⟩
  · rw [← h3, List.length_drop, cs_length]
  · have := bt_range s (i : Int)
    omega

def ROut (s : ByteArray) (o : Option (Fm × List Nat)) (e : Int) (d : Int) : Prop := match o with
  | some (f, r) => e = (s.size : Int) - r.length ∧ d = dep f
  | none => e = -1
def RO (s : ByteArray) (n : Nat) : Prop := ∀ (i : Nat) (may : Int) (b l : List Nat), (cs s).drop i = l → i ≤ s.size → l.length < n → MayOk may b → ∃ k e d, comfitref08_read.f k s (i : Int) may = some (e, d) ∧ 0 ≤ d ∧ d ≤ l.length ∧ ROut s (parse n l b) e d

def parseDash (l : List Nat) : Option (Fm × List Nat) := match l with
  | d :: r => if isMk d = true then some (.mark true (d - 48), r) else none
  | [] => none
theorem parse_cons (n c : Nat) (l b : List Nat) : parse (n + 1) (c :: l) b = if isMk c = true then some (.mark false (c - 48), l)
    else if c = 45 then parseDash l
    else if c = 116 ∨ c = 102 then some (.con c, l)
    else if isLt c = true then (if c ∈ b then some (.var c, l) else none)
    else if c = 109 ∨ c = 103 then parseFix n c l b
    else if c = 38 ∨ c = 124 then (parse n l b).bind fun p => (parse n p.2 b).bind fun q => some (.two c p.1 q.1, q.2)
    else if c = 60 ∨ c = 91 then (parse n l b).bind fun p => some (.one c p.1, p.2)
    else none := by
  cases l <;> rfl
theorem w1 {s : ByteArray} (hsz : s.size ≤ 1000000) {i : Nat} (hi : i ≤ s.size) : wrap64 ((i : Int) + 1) = ((i + 1 : Nat) : Int) := by unfold wrap64; omega
theorem w2 {s : ByteArray} (hsz : s.size ≤ 1000000) {i : Nat} (hi : i ≤ s.size) : wrap64 ((i : Int) + 2) = ((i + 2 : Nat) : Int) := by unfold wrap64; omega

theorem read_mono (k : Nat) (s : ByteArray) (i may : Int) : LeO (comfitref08_read.f k s i may) (comfitref08_read.f (k + 1) s i may) := (PB.comfitref08_read.mono_l k).1 s i may

theorem read_all (s : ByteArray) (hsz : s.size ≤ 1000000) : ∀ n, RO s n := by
  intro n
  induction n with
  | zero => intro i may b l _ _ h; omega
  | succ n ih =>
    intro i may b l hl hi hn hm
    cases l with
    | nil =>
      have : s.size ≤ i := by
        have := congrArg List.length hl
        rw [List.length_drop, cs_length] at this
        simp at this
        omega
      refine ⟨1, -1, 0, ?_, by omega, by simp, ?_⟩
      · rw [comfitref08_read.f, if_pos (by omega)]
      · rw [parse]; rfl
    | cons c l =>
      obtain ⟨hlt, hb, hd, hll, h256⟩ := drop_bt hl
      have hw1 := w1 hsz hi
      have hw2 := w2 hsz hi
      have hge : ¬ ((i : Int) ≥ (s.size : Int)) := by omega
      have hi0 : (0 : Int) ≤ (i : Int) := by omega
      have hi1 : (i : Int) < (s.size : Int) := by omega
      have hlen : s.size = l.length + (i + 1) := by omega
      by_cases h1 : isMk c = true
      · refine ⟨2, (i : Int) + 1, 0, ?_, by omega, by simp; omega, ?_⟩
        · rw [comfitref08_read.f, if_neg hge, if_pos hi0, if_pos hi1, hb, digit_in h1]
          have := isMk_iff.1 h1
          simp only [Option.bind_some]
          rw [if_pos (by omega), comfitref08_read.j0, if_pos rfl, hw1]
          simp
        · rw [parse_cons, if_pos h1]
          exact ⟨by omega, rfl⟩
      · have h1f : isMk c = false := by simpa using h1
        by_cases h3 : c = 116 ∨ c = 102
        · refine ⟨2, (i : Int) + 1, 0, ?_, by omega, by simp; omega, ?_⟩
          · rw [comfitref08_read.f, if_neg hge, if_pos hi0, if_pos hi1, hb, digit_out h1f]
            simp only [Option.bind_some]
            rw [if_neg (by decide)]
            rcases h3 with rfl | rfl
            · rw [if_pos (by decide), comfitref08_read.j0, if_pos rfl, hw1]
              simp
            · rw [if_neg (by decide), if_pos (by decide), comfitref08_read.j0, if_pos rfl, hw1]
              simp
          · rw [parse_cons, if_neg h1, if_neg (by omega), if_pos h3]
            exact ⟨by omega, rfl⟩
        · by_cases h4 : isLt c = true
          · have hlc := isLt_iff.1 h4
            have hbit := may_bit hm hlc.1 hlc.2
            by_cases h5 : c ∈ b
            · refine ⟨2, (i : Int) + 1, 0, ?_, by omega, by simp; omega, ?_⟩
              · rw [comfitref08_read.f, if_neg hge, if_pos hi0, if_pos hi1, hb, digit_out h1f]
                simp only [Option.bind_some]
                rw [if_neg (by decide), if_neg (by omega), if_neg (by omega), letter_in h4]
                simp only [Option.bind_some]
                rw [if_pos (by omega), if_pos (by omega), hbit, if_pos h5, comfitref08_read.j0, if_pos (by decide), hw1]
                simp
              · rw [parse_cons, if_neg h1, if_neg (by omega), if_neg h3, if_pos h4, if_pos h5]
                exact ⟨by omega, rfl⟩
            · refine ⟨6, -1, 0, ?_, by omega, by simp; omega, ?_⟩
              · rw [comfitref08_read.f, if_neg hge, if_pos hi0, if_pos hi1, hb, digit_out h1f]
                simp only [Option.bind_some]
                rw [if_neg (by decide), if_neg (by omega), if_neg (by omega), letter_in h4]
                simp only [Option.bind_some]
                rw [if_pos (by omega), if_pos (by omega), hbit, if_neg h5]
                rw [comfitref08_read.j0, if_neg (by decide), if_neg (by omega), comfitref08_read.j1, if_neg (by decide), if_neg (by omega)]
                rw [show ((c : Int) == 124) = false from by simp; omega]
                rw [comfitref08_read.j2, if_neg (by decide), if_neg (by omega), show ((c : Int) == 91) = false from by simp; omega, comfitref08_read.j3, if_neg (by decide), if_neg (by omega), if_neg (by omega), comfitref08_read.j4, if_neg (by decide)]
              · rw [parse_cons, if_neg h1, if_neg (by omega), if_neg h3, if_pos h4, if_neg h5]
                rfl
          · have h4f : isLt c = false := by simpa using h4
            have hnl := h4
            rw [isLt_iff] at hnl
            -- from here on the byte is none that ends at once
            have start : ∀ k, comfitref08_read.f (k + 1) s (i : Int) may = comfitref08_read.j0 k s (i : Int) may (c : Int) false := by
              intro k
              rw [comfitref08_read.f, if_neg hge, if_pos hi0, if_pos hi1, hb, digit_out h1f]
              simp only [Option.bind_some]
              rw [if_neg (by decide), if_neg (by omega), if_neg (by omega), letter_out h4f]
              simp only [Option.bind_some]
              rw [if_neg (by decide)]
            by_cases h2 : c = 45
            · subst h2
              have j1f : ∀ k, comfitref08_read.j1 (k + 4) s (i : Int) may 45 false = some (-1, 0) := by
                intro k
                rw [comfitref08_read.j1, if_neg (by decide), if_neg (by decide), show ((45 : Int) == 124) = false from rfl, comfitref08_read.j2, if_neg (by decide), if_neg (by decide), show ((45 : Int) == 91) = false from rfl, comfitref08_read.j3, if_neg (by decide), if_neg (by decide), if_neg (by decide), comfitref08_read.j4, if_neg (by decide)]
              cases l with
              | nil =>
                refine ⟨6, -1, 0, ?_, by omega, by simp, ?_⟩
                · rw [start, comfitref08_read.j0, if_neg (by decide), if_pos (by rfl), hw1, if_neg (by simp at hlen; omega)]
                  exact j1f 0
                · rw [parse_cons, if_neg h1, if_pos rfl]
                  rfl
              | cons d r =>
                obtain ⟨hlt2, hb2, hd2, hll2, _⟩ := drop_bt hd
                have hp1 : ((i + 1 : Nat) : Int) < (s.size : Int) := by omega
                have hp0 : (0 : Int) ≤ ((i + 1 : Nat) : Int) := by omega
                by_cases h5 : isMk d = true
                · refine ⟨3, (i : Int) + 2, 0, ?_, by omega, by simp; omega, ?_⟩
                  · rw [start, comfitref08_read.j0, if_neg (by decide), if_pos (by rfl), hw1, if_pos hp1, if_pos hp0, hb2, digit_in h5]
                    simp only [Option.bind_some]
                    have := isMk_iff.1 h5
                    rw [comfitref08_read.j1, if_pos (by simp; omega), hw2]
                    simp
                  · rw [parse_cons, if_neg h1, if_pos rfl]
                    simp only [parseDash]
                    rw [if_pos h5]
                    exact ⟨by omega, rfl⟩
                · have h5f : isMk d = false := by simpa using h5
                  refine ⟨6, -1, 0, ?_, by omega, by simp; omega, ?_⟩
                  · rw [start, comfitref08_read.j0, if_neg (by decide), if_pos (by rfl), hw1, if_pos hp1, if_pos hp0, hb2, digit_out h5f]
                    simp only [Option.bind_some]
                    rw [show (decide ((-1 : Int) ≥ 0)) = false from rfl]
                    exact j1f 0
                  · rw [parse_cons, if_neg h1, if_pos rfl]
                    simp only [parseDash]
                    rw [if_neg h5]
                    rfl
            · have st1 : ∀ k, comfitref08_read.f (k + 2) s (i : Int) may = comfitref08_read.j1 k s (i : Int) may (c : Int) false := by
                intro k
                rw [start, comfitref08_read.j0, if_neg (by decide), if_neg (by omega)]
              by_cases h7 : c = 38 ∨ c = 124
              · have st2 : ∀ k, comfitref08_read.f (k + 4) s (i : Int) may = (comfitref08_read.f k s ((i + 1 : Nat) : Int) may).bind fun bt105 => (if bt105.1 < 0 then (some ((-1), 0)) else ((comfitref08_read.f k s bt105.1 may).bind fun bt107 => (some (bt107.1, mx bt105.2 bt107.2)))) := by
                  intro k
                  rw [st1, comfitref08_read.j1, if_neg (by decide)]
                  rcases h7 with rfl | rfl
                  · rw [if_pos (by rfl), comfitref08_read.j2, if_pos rfl, hw1]
                  · rw [if_neg (by decide), comfitref08_read.j2, if_pos (by rfl), hw1]
                obtain ⟨k1, e1, d1, g1, g2, g3, g4⟩ := ih (i + 1) may b l hd (by omega) (by simp at hn; omega) hm
                have hpc : parse (n + 1) (c :: l) b = (parse n l b).bind fun p => (parse n p.2 b).bind fun q => some (.two c p.1 q.1, q.2) := by
                  rw [parse_cons, if_neg h1, if_neg h2, if_neg h3, if_neg h4, if_neg (by omega), if_pos h7]
                rw [hpc]
                cases hp : parse n l b with
                | none =>
                  rw [hp] at g4
                  obtain rfl : e1 = -1 := g4
                  refine ⟨k1 + 4, -1, 0, ?_, by omega, by simp; omega, rfl⟩
                  rw [st2, g1]
                  simp only [Option.bind_some]
                  rw [if_pos (by decide)]
                | some p =>
                  rw [hp] at g4
                  obtain ⟨q1, q2⟩ := (g4 : e1 = (s.size : Int) - p.2.length ∧ d1 = dep p.1)
                  have hlen2 := parse_len _ _ _ _ _ hp
                  have hdr := (parse_str _ _ _ _ _ hp).1
                  have hdrop : (cs s).drop (s.size - p.2.length) = p.2 := by
                    rw [← cs_length, show (cs s).length - p.2.length = (i + 1) + (l.length - p.2.length) by rw [cs_length]; omega, ← List.drop_drop, hd]
                    rw [hdr, List.length_append, Nat.add_sub_cancel]
                    simp
                  obtain ⟨k2, e2, d2, g5, g6, g7, g8⟩ := ih (s.size - p.2.length) may b p.2 hdrop (by omega) (by simp at hn; omega) hm
                  have he1 : e1 = ((s.size - p.2.length : Nat) : Int) := by omega
                  have hrun : comfitref08_read.f (max k1 k2 + 4) s (i : Int) may = some (e2, mx d1 d2) := by
                    rw [st2, lift (fun k => read_mono k s _ _) g1 (Nat.le_max_left k1 k2)]
                    simp only [Option.bind_some]
                    rw [if_neg (by omega), he1, lift (fun k => read_mono k s _ _) g5 (Nat.le_max_right k1 k2)]
                    rfl
                  refine ⟨max k1 k2 + 4, e2, mx d1 d2, hrun, ?_, ?_, ?_⟩
                  · unfold mx; split <;> omega
                  · simp only [List.length_cons]; unfold mx; split <;> omega
                  · simp only [Option.bind_some]
                    cases hq : parse n p.2 b with
                    | none =>
                      rw [hq] at g8
                      exact g8
                    | some q =>
                      rw [hq] at g8
                      obtain ⟨q3, q4⟩ := (g8 : e2 = (s.size : Int) - q.2.length ∧ d2 = dep q.1)
                      refine ⟨q3, ?_⟩
                      show mx d1 d2 = ((max (dep p.1) (dep q.1) : Nat) : Int)
                      unfold mx
                      split <;> omega
              · have st2 : ∀ k, comfitref08_read.f (k + 4) s (i : Int) may = if c = 60 then (comfitref08_read.j3 k s (i : Int) may (c : Int) true) else (comfitref08_read.j3 k s (i : Int) may (c : Int) ((c : Int) == 91)) := by
                  intro k
                  rw [st1, comfitref08_read.j1, if_neg (by decide), if_neg (by omega), show ((c : Int) == 124) = false by simp; omega, comfitref08_read.j2, if_neg (by decide)]
                  by_cases h : c = 60
                  · rw [if_pos h, if_pos (by omega)]
                  · rw [if_neg h, if_neg (by omega)]
                by_cases h8 : c = 60 ∨ c = 91
                · have st3 : ∀ k, comfitref08_read.f (k + 5) s (i : Int) may = (comfitref08_read.f k s ((i + 1 : Nat) : Int) may).bind fun bt109 => (some (bt109.1, wrap64 (bt109.2 + 1))) := by
                    intro k
                    rw [st2 (k + 1)]
                    rcases h8 with rfl | rfl
                    · rw [if_pos rfl, comfitref08_read.j3, if_pos rfl, hw1]
                    · rw [if_neg (by decide), comfitref08_read.j3, if_pos (by rfl), hw1]
                  obtain ⟨k1, e1, d1, g1, g2, g3, g4⟩ := ih (i + 1) may b l hd (by omega) (by simp at hn; omega) hm
                  have hpc : parse (n + 1) (c :: l) b = (parse n l b).bind fun p => some (.one c p.1, p.2) := by
                    rw [parse_cons, if_neg h1, if_neg h2, if_neg h3, if_neg h4, if_neg (by omega), if_neg h7, if_pos h8]
                  rw [hpc]
                  have hwd : wrap64 (d1 + 1) = d1 + 1 := by unfold wrap64; omega
                  refine ⟨k1 + 5, e1, d1 + 1, ?_, by omega, by simp; omega, ?_⟩
                  · rw [st3, g1]
                    simp only [Option.bind_some]
                    rw [hwd]
                  · cases hp : parse n l b with
                    | none =>
                      rw [hp] at g4
                      exact g4
                    | some p =>
                      rw [hp] at g4
                      obtain ⟨q1, q2⟩ := (g4 : e1 = (s.size : Int) - p.2.length ∧ d1 = dep p.1)
                      exact ⟨q1, by show d1 + 1 = ((dep p.1 + 1 : Nat) : Int); omega⟩
                · have st3 : ∀ k, comfitref08_read.f (k + 4) s (i : Int) may = comfitref08_read.j3 k s (i : Int) may (c : Int) false := by
                    intro k
                    rw [st2, if_neg (by omega), show ((c : Int) == 91) = false by simp; omega]
                  by_cases h6 : c = 109 ∨ c = 103
                  · have hpc : parse (n + 1) (c :: l) b = parseFix n c l b := by
                      rw [parse_cons, if_neg h1, if_neg h2, if_neg h3, if_neg h4, if_pos h6]
                    rw [hpc]
                    have hc2 : (c : Int) = 109 ∨ (c : Int) = 103 := by omega
                    cases l with
                    | nil =>
                      refine ⟨6, -1, 0, ?_, by omega, by simp, rfl⟩
                      have hx : ¬ ((i + 1 : Nat) : Int) < (s.size : Int) := by simp at hlen; omega
                      rw [st3 2, comfitref08_read.j3, if_neg (by decide), hw1]
                      rcases hc2 with h | h
                      · rw [if_pos h, if_neg hx, comfitref08_read.j4, if_neg (by decide)]
                      · rw [if_neg (by omega), if_pos h, if_neg hx, comfitref08_read.j4, if_neg (by decide)]
                    | cons x r =>
                      obtain ⟨hlt2, hb2, hd2, hll2, _⟩ := drop_bt hd
                      have hp1 : ((i + 1 : Nat) : Int) < (s.size : Int) := by omega
                      have hp0 : (0 : Int) ≤ ((i + 1 : Nat) : Int) := by omega
                      by_cases hx : isLt x = true
                      · have hlx := isLt_iff.1 hx
                        have hbit := may_bit hm hlx.1 hlx.2
                        have st4 : ∀ k, comfitref08_read.f (k + 5) s (i : Int) may = comfitref08_read.j4 k s (i : Int) may ((Go.bits .and .i64 (shr .i64 may ((x - 120 : Nat) : Int)) 1) == 0) := by
                          intro k
                          have hx0 : ((x - 120 : Nat) : Int) ≥ 0 := by omega
                          have hx1 : 0 ≤ ((x - 120 : Nat) : Int) := by omega
                          rw [st3 (k + 1), comfitref08_read.j3, if_neg (by decide), hw1]
                          rcases hc2 with h | h
                          · rw [if_pos h, if_pos hp1, if_pos hp0, hb2, letter_in hx]
                            simp only [Option.bind_some]
                            rw [if_pos hx0, if_pos hx1]
                          · rw [if_neg (by omega), if_pos h, if_pos hp1, if_pos hp0, hb2, letter_in hx]
                            simp only [Option.bind_some]
                            rw [if_pos hx0, if_pos hx1]
                        by_cases hxb : x ∈ b
                        · refine ⟨6, -1, 0, ?_, by omega, by simp; omega, ?_⟩
                          · rw [st4 1, hbit, if_pos hxb, comfitref08_read.j4, if_neg (by decide)]
                          · simp only [parseFix]
                            rw [if_neg (fun h => h.2 hxb)]
                            rfl
                        · obtain ⟨k1, e1, d1, g1, g2, g3, g4⟩ := ih (i + 2) _ (b ++ [x]) r hd2 (by omega) (by simp at hn; omega) (may_put hm hlx.1 hlx.2)
                          refine ⟨k1 + 6, e1, d1, ?_, by omega, by simp; omega, ?_⟩
                          · rw [st4 (k1 + 1), hbit, if_neg hxb, comfitref08_read.j4, if_pos (by rfl), hw1, if_pos hp0, if_pos hp1, hb2, letter_in hx, hw2]
                            simp only [Option.bind_some]
                            rw [if_pos (by omega), g1]
                            rfl
                          · simp only [parseFix]
                            rw [if_pos ⟨hx, hxb⟩]
                            cases hp : parse n r (b ++ [x]) with
                            | none =>
                              rw [hp] at g4
                              exact g4
                            | some p =>
                              rw [hp] at g4
                              obtain ⟨q1, q2⟩ := (g4 : e1 = (s.size : Int) - p.2.length ∧ d1 = dep p.1)
                              exact ⟨q1, q2⟩
                      · have hxf : isLt x = false := by simpa using hx
                        refine ⟨6, -1, 0, ?_, by omega, by simp; omega, ?_⟩
                        · rw [st3 2, comfitref08_read.j3, if_neg (by decide), hw1]
                          rcases hc2 with h | h
                          · rw [if_pos h, if_pos hp1, if_pos hp0, hb2, letter_out hxf]
                            simp only [Option.bind_some]
                            rw [if_neg (by decide), comfitref08_read.j4, if_neg (by decide)]
                          · rw [if_neg (by omega), if_pos h, if_pos hp1, if_pos hp0, hb2, letter_out hxf]
                            simp only [Option.bind_some]
                            rw [if_neg (by decide), comfitref08_read.j4, if_neg (by decide)]
                        · simp only [parseFix]
                          rw [if_neg (fun h => hx h.1)]
                          rfl
                  · refine ⟨6, -1, 0, ?_, by omega, by simp; omega, ?_⟩
                    · rw [st3 2, comfitref08_read.j3, if_neg (by decide), if_neg (by omega), if_neg (by omega), comfitref08_read.j4, if_neg (by decide)]
                    · rw [parse_cons, if_neg h1, if_neg h2, if_neg h3, if_neg h4, if_neg h6, if_neg h7, if_neg h8]
                      rfl
end Go.Proofs.Ytjffhhalmicodaa.L
