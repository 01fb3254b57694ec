/- Texts of this claim, merged by a program (wip/tools/shake.py); what nothing names is left out. -/
import Derived.KernelRfl
import Derived.RegionTactic
import Derived.ChangeAlike
import Derived.Test.YtjffhhalmicodaaProg
import Derived.Below
import Derived.Deep.Draws
import Derived.Deep.AppendLies
import Derived.Maps.AppendAt
import Derived.OwnWalk
import Derived.Laws.BytesArg
import Derived.Laws.MakeOwn
import Derived.Laws.OwnMore
import Derived.Deep.OwnRows
import Derived.Tactics
import Derived.Lib.ConvBytes
import Derived.Laws.Slices
import Derived.WalkKit
import Derived.RowKit3
import Derived.Deep.LoopGhost
import Derived.Deep.QuietTactic
import Derived.BigQuiet
import Derived.WideLaws
import Derived.Deep.DeepCutAuto
import Derived.Deep.CutBlock
import Derived.Deep.RegionHeld3
import Derived.Laws.Rows
import Derived.Lib.AppendStr
import Derived.ArgAppend
import Derived.Laws.IdiomCopy
import Derived.OrdersHeld
import Derived.Laws.BitsLemmas
import Derived.RowKit
import Derived.Test.YtjffhhalmicodaaStg
namespace Go.Proofs.Ytjffhhalmicodaa
abbrev Mq138 : Array Bool := #[false, false, false, false, false, false, false, false, false, false, false, false, false, false, false]
abbrev Mq139 : Array Bool := #[true, false, false, false, false, false, false, false, false, false, false, false, false, false, false]
abbrev Mq140 : Array Bool := #[true, true, false, false, false, false, false, false, false, false, false, false, false, false, false]
abbrev Mq141 : Array Bool := #[true, true, true, false, false, false, false, false, false, false, false, false, false, false, false]
abbrev Mq142 : Array Bool := #[true, true, true, true, false, false, false, false, false, false, false, false, false, false, false]
abbrev Mq143 : Array Bool := #[true, true, true, true, true, false, false, false, false, false, false, false, false, false, false]
abbrev Mq144 : Array Bool := #[true, true, true, true, true, true, false, false, false, false, false, false, false, false, false]
abbrev Mq145 : Array Bool := #[true, true, true, true, true, true, true, false, false, false, false, false, false, false, false]
abbrev Mq146 : Array Bool := #[true, true, true, true, true, true, true, true, false, false, false, false, false, false, false]
abbrev Mq147 : Array Bool := #[true, true, true, true, true, true, true, true, true, false, false, false, false, false, false]
abbrev Mq148 : Array Bool := #[true, true, true, true, true, true, true, true, true, true, false, false, false, false, false]
abbrev Mq149 : Array Bool := #[true, true, true, true, true, true, true, true, true, true, true, false, false, false, false]
abbrev Mq150 : Array Bool := #[true, true, true, true, true, true, true, true, true, true, true, true, false, false, false]
abbrev Mq151 : Array Bool := #[true, true, true, true, true, true, true, true, true, true, true, true, true, false, false]
abbrev Mq152 : Array Bool := #[true, true, true, true, true, true, true, true, true, true, true, true, true, true, false]
abbrev Mq153 : Array Bool := #[true, true, true, true, true, true, true, true, true, true, true, true, true, true, true]
end Go.Proofs.Ytjffhhalmicodaa
section
set_option linter.unusedVariables false
set_option linter.unusedSimpArgs false
namespace Go.Proofs.Ytjffhhalmicodaa.L
open Go.RowKit Go.Proofs.G.PrintWords Go.Proofs.G.PrintLast Go.Proofs.G.PrintMore Go.Proofs.Ytjffhhalmicodaa.X
open Go.Proofs.Ytjffhhalmicodaa.PB (r8read.f r8read.j0 r8read.j1 r8read.j2 r8read.j3 r8read.j4)
open Go.Proofs.Ytjffhhalmicodaa.PA (r8digit.f r8letter.f)
def dep : Fm → Nat
 | .mark _ _ => 0
 | .con _ => 0
 | .var _ => 0
 | .two _ a b => max (dep a) (dep b)
 | .one _ a => dep a + 1
 | .fix _ _ a => dep a
def MayOk (may : Int) (b : List Nat) : Prop := InS 3 may ∧ ∀ c, 120 ≤ c → c ≤ 122 → (tb may (c - 120) = true ↔ c ∈ b)
theorem digit_in {c : Nat} (h : isMk c = true) : r8digit.f (c : Int) = some ((c : Int) - 48) := by
  have := isMk_iff.1 h
  rw [r8digit.f, if_pos (by omega), if_pos (by omega)]
  congr 1
  omega
theorem digit_out {c : Nat} (h : isMk c = false) : r8digit.f (c : Int) = some (-1) := by
  have : ¬ (48 ≤ c ∧ c ≤ 51) := fun e => by rw [isMk_iff.2 e] at h; cases h
  rw [r8digit.f]
  by_cases h1 : (c : Int) ≥ 48
  · rw [if_pos h1, if_neg (by omega)]
  · rw [if_neg h1]
theorem letter_in {c : Nat} (h : isLt c = true) : r8letter.f (c : Int) = some (((c - 120 : Nat) : Int)) := by
  have := isLt_iff.1 h
  rw [r8letter.f, if_pos (by omega), if_pos (by omega)]
  congr 1
  omega
theorem letter_out {c : Nat} (h : isLt c = false) : r8letter.f (c : Int) = some (-1) := by
  have : ¬ (120 ≤ c ∧ c ≤ 122) := fun e => by rw [isLt_iff.2 e] at h; cases h
  rw [r8letter.f]
  by_cases h1 : (c : Int) ≥ 120
  · rw [if_pos h1, if_neg (by omega)]
  · rw [if_neg h1]
theorem may_bit {may : Int} {b : List Nat} (h : MayOk may b) {c : Nat} (h1 : 120 ≤ c) (h2 : c ≤ 122) : Go.bits .and .i64 (shr .i64 may ((c - 120 : Nat) : Int)) 1 = if c ∈ b then 1 else 0 := by
  have hm := h.1
  have e : shr .i64 may ((c - 120 : Nat) : Int) = may / 2 ^ (c - 120) := by
    unfold shr
    rw [show min ((c - 120 : Nat) : Int).toNat IntKind.i64.bits = c - 120 by simp [IntKind.bits]; omega]
  rw [e, markOf_val hm.1 (by have := hm.2; have : (2 : Int) ^ 3 = 8 := by decide
                             omega) (by omega)]
  by_cases hc : c ∈ b
  · rw [if_pos ((h.2 c h1 h2).2 hc), if_pos hc]
  · rw [if_neg (fun g => hc ((h.2 c h1 h2).1 g)), if_neg hc]
theorem may_put {may : Int} {b : List Nat} (h : MayOk may b) {c : Nat} (h1 : 120 ≤ c) (h2 : c ≤ 122) : MayOk (Go.bits .or .i64 may (shl .i64 1 ((c - 120 : Nat) : Int))) (b ++ [c]) := by
 rw [shl1 (by omega)]
 have hq : InS 3 (((2 ^ (c - 120) : Nat) : Int)) := inS_of (Nat.pow_lt_pow_right (by decide) (by omega))
 refine ⟨or_in (by omega) h.1 hq, fun d h3 h4 => ?_⟩
 rw [tb_or (by omega) (by omega) h.1 hq, tb_nat, Nat.testBit_two_pow, Bool.or_eq_true, h.2 d h3 h4, decide_eq_true_eq, List.mem_append, List.mem_singleton]
 constructor
 ·rintro (g | g)
  ·exact .inl g
  ·exact .inr (by omega)
 ·rintro (g | g)
  ·exact .inl g
  ·exact .inr (by omega)
theorem drop_bt {s : ByteArray} {i c : Nat} {l : List Nat} (h : (cs s).drop i = c :: l) : i < s.size ∧ bt s (i : Int) = (c : Int) ∧ (cs s).drop (i + 1) = l ∧ l.length = s.size - (i + 1) ∧ c < 256 := by
 obtain ⟨h1, h2, h3⟩ := drop_at h
 have e : bt s (i : Int) = (c : Int) := by
  rw [← h2 h1]
  unfold bt
  simp [h1]
 refine ⟨h1, e, h3, ?_, ?_⟩
 ·rw [← h3, List.length_drop, cs_length]
 ·have := bt_range s (i : Int)
  omega
def ROut (s : ByteArray) (o : Option (Fm × List Nat)) (e : Int) (d : Int) : Prop := match o with
  | some (f, r) => e = (s.size : Int) - r.length ∧ d = dep f
  | none => e = -1
def RO (s : ByteArray) (n : Nat) : Prop := ∀ (i : Nat) (may : Int) (b l : List Nat), (cs s).drop i = l → i ≤ s.size → l.length < n → MayOk may b → ∃ k e d, r8read.f k s (i : Int) may = some (e, d) ∧ 0 ≤ d ∧ d ≤ l.length ∧ ROut s (parse n l b) e d
def parseDash (l : List Nat) : Option (Fm × List Nat) := match l with
  | d :: r => if isMk d = true then some (.mark true (d - 48), r) else none
  | [] => none
theorem parse_cons (n c : Nat) (l b : List Nat) : parse (n + 1) (c :: l) b = if isMk c = true then some (.mark false (c - 48), l)
    else if c = 45 then parseDash l
    else if c = 116 ∨ c = 102 then some (.con c, l)
    else if isLt c = true then (if c ∈ b then some (.var c, l) else none)
    else if c = 109 ∨ c = 103 then parseFix n c l b
    else if c = 38 ∨ c = 124 then (parse n l b).bind fun p => (parse n p.2 b).bind fun q => some (.two c p.1 q.1, q.2)
    else if c = 60 ∨ c = 91 then (parse n l b).bind fun p => some (.one c p.1, p.2)
    else none := by
  cases l <;> rfl
theorem w1 {s : ByteArray} (hsz : s.size ≤ 1000000) {i : Nat} (hi : i ≤ s.size) : wrap64 ((i : Int) + 1) = ((i + 1 : Nat) : Int) := by unfold wrap64; omega
theorem w2 {s : ByteArray} (hsz : s.size ≤ 1000000) {i : Nat} (hi : i ≤ s.size) : wrap64 ((i : Int) + 2) = ((i + 2 : Nat) : Int) := by unfold wrap64; omega
theorem read_mono (k : Nat) (s : ByteArray) (i may : Int) : LeO (r8read.f k s i may) (r8read.f (k + 1) s i may) := (PB.r8read.mono_l k).1 s i may
theorem read_all (s : ByteArray) (hsz : s.size ≤ 1000000) : ∀ n, RO s n := by
 intro n
 induction n with
 | zero => intro i may b l _ _ h; omega
 | succ n ih =>
  intro i may b l hl hi hn hm
  cases l with
  | nil =>
   have : s.size ≤ i := by
    have := congrArg List.length hl
    rw [List.length_drop, cs_length] at this
    simp at this
    omega
   refine ⟨1, -1, 0, ?_, by omega, by simp, ?_⟩
   ·rw [r8read.f, if_pos (by omega)]
   ·rw [parse]; rfl
  | cons c l =>
   obtain ⟨hlt, hb, hd, hll, h256⟩ := drop_bt hl
   have hw1 := w1 hsz hi
   have hw2 := w2 hsz hi
   have hge : ¬ ((i : Int) ≥ (s.size : Int)) := by omega
   have hi0 : (0 : Int) ≤ (i : Int) := by omega
   have hi1 : (i : Int) < (s.size : Int) := by omega
   have hlen : s.size = l.length + (i + 1) := by omega
   by_cases h1 : isMk c = true
   ·refine ⟨2, (i : Int) + 1, 0, ?_, by omega, by simp; omega, ?_⟩
    ·rw [r8read.f, if_neg hge, if_pos hi0, if_pos hi1, hb, digit_in h1]
     have := isMk_iff.1 h1
     simp only [Option.bind_some]
     rw [if_pos (by omega), r8read.j0, if_pos rfl, hw1]
     simp
    ·rw [parse_cons, if_pos h1]
     exact ⟨by omega, rfl⟩
   ·have h1f : isMk c = false := by simpa using h1
    by_cases h3 : c = 116 ∨ c = 102
    ·refine ⟨2, (i : Int) + 1, 0, ?_, by omega, by simp; omega, ?_⟩
     ·rw [r8read.f, if_neg hge, if_pos hi0, if_pos hi1, hb, digit_out h1f]
      simp only [Option.bind_some]
      rw [if_neg (by decide)]
      rcases h3 with rfl | rfl
      ·rw [if_pos (by decide), r8read.j0, if_pos rfl, hw1]
       simp
      ·rw [if_neg (by decide), if_pos (by decide), r8read.j0, if_pos rfl, hw1]
       simp
     ·rw [parse_cons, if_neg h1, if_neg (by omega), if_pos h3]
      exact ⟨by omega, rfl⟩
    ·by_cases h4 : isLt c = true
     ·have hlc := isLt_iff.1 h4
      have hbit := may_bit hm hlc.1 hlc.2
      by_cases h5 : c ∈ b
      ·refine ⟨2, (i : Int) + 1, 0, ?_, by omega, by simp; omega, ?_⟩
       ·rw [r8read.f, if_neg hge, if_pos hi0, if_pos hi1, hb, digit_out h1f]
        simp only [Option.bind_some]
        rw [if_neg (by decide), if_neg (by omega), if_neg (by omega), letter_in h4]
        simp only [Option.bind_some]
        rw [if_pos (by omega), if_pos (by omega), hbit, if_pos h5, r8read.j0, if_pos (by decide), hw1]
        simp
       ·rw [parse_cons, if_neg h1, if_neg (by omega), if_neg h3, if_pos h4, if_pos h5]
        exact ⟨by omega, rfl⟩
      ·refine ⟨6, -1, 0, ?_, by omega, by simp; omega, ?_⟩
       ·rw [r8read.f, if_neg hge, if_pos hi0, if_pos hi1, hb, digit_out h1f]
        simp only [Option.bind_some]
        rw [if_neg (by decide), if_neg (by omega), if_neg (by omega), letter_in h4]
        simp only [Option.bind_some]
        rw [if_pos (by omega), if_pos (by omega), hbit, if_neg h5]
        rw [r8read.j0, if_neg (by decide), if_neg (by omega), r8read.j1, if_neg (by decide), if_neg (by omega)]
        rw [show ((c : Int) == 124) = false from by simp; omega]
        rw [r8read.j2, if_neg (by decide), if_neg (by omega), show ((c : Int) == 91) = false from by simp; omega, r8read.j3, if_neg (by decide), if_neg (by omega), if_neg (by omega), r8read.j4, if_neg (by decide)]
       ·rw [parse_cons, if_neg h1, if_neg (by omega), if_neg h3, if_pos h4, if_neg h5]
        rfl
     ·have h4f : isLt c = false := by simpa using h4
      have hnl := h4
      rw [isLt_iff] at hnl
      have start : ∀ k, r8read.f (k + 1) s (i : Int) may = r8read.j0 k s (i : Int) may (c : Int) false := by
       intro k
       rw [r8read.f, if_neg hge, if_pos hi0, if_pos hi1, hb, digit_out h1f]
       simp only [Option.bind_some]
       rw [if_neg (by decide), if_neg (by omega), if_neg (by omega), letter_out h4f]
       simp only [Option.bind_some]
       rw [if_neg (by decide)]
      by_cases h2 : c = 45
      ·subst h2
       have j1f : ∀ k, r8read.j1 (k + 4) s (i : Int) may 45 false = some (-1, 0) := by
        intro k
        rw [r8read.j1, if_neg (by decide), if_neg (by decide), show ((45 : Int) == 124) = false from rfl, r8read.j2, if_neg (by decide), if_neg (by decide), show ((45 : Int) == 91) = false from rfl, r8read.j3, if_neg (by decide), if_neg (by decide), if_neg (by decide), r8read.j4, if_neg (by decide)]
       cases l with
       | nil =>
        refine ⟨6, -1, 0, ?_, by omega, by simp, ?_⟩
        ·rw [start, r8read.j0, if_neg (by decide), if_pos (by rfl), hw1, if_neg (by simp at hlen; omega)]
         exact j1f 0
        ·rw [parse_cons, if_neg h1, if_pos rfl]
         rfl
       | cons d r =>
        obtain ⟨hlt2, hb2, hd2, hll2, _⟩ := drop_bt hd
        have hp1 : ((i + 1 : Nat) : Int) < (s.size : Int) := by omega
        have hp0 : (0 : Int) ≤ ((i + 1 : Nat) : Int) := by omega
        by_cases h5 : isMk d = true
        ·refine ⟨3, (i : Int) + 2, 0, ?_, by omega, by simp; omega, ?_⟩
         ·rw [start, r8read.j0, if_neg (by decide), if_pos (by rfl), hw1, if_pos hp1, if_pos hp0, hb2, digit_in h5]
          simp only [Option.bind_some]
          have := isMk_iff.1 h5
          rw [r8read.j1, if_pos (by simp; omega), hw2]
          simp
         ·rw [parse_cons, if_neg h1, if_pos rfl]
          simp only [parseDash]
          rw [if_pos h5]
          exact ⟨by omega, rfl⟩
        ·have h5f : isMk d = false := by simpa using h5
         refine ⟨6, -1, 0, ?_, by omega, by simp; omega, ?_⟩
         ·rw [start, r8read.j0, if_neg (by decide), if_pos (by rfl), hw1, if_pos hp1, if_pos hp0, hb2, digit_out h5f]
          simp only [Option.bind_some]
          rw [show (decide ((-1 : Int) ≥ 0)) = false from rfl]
          exact j1f 0
         ·rw [parse_cons, if_neg h1, if_pos rfl]
          simp only [parseDash]
          rw [if_neg h5]
          rfl
      ·have st1 : ∀ k, r8read.f (k + 2) s (i : Int) may = r8read.j1 k s (i : Int) may (c : Int) false := by
        intro k
        rw [start, r8read.j0, if_neg (by decide), if_neg (by omega)]
       by_cases h7 : c = 38 ∨ c = 124
       ·have st2 : ∀ k, r8read.f (k + 4) s (i : Int) may = (r8read.f k s ((i + 1 : Nat) : Int) may).bind fun bt105 => (if bt105.1 < 0 then (some ((-1), 0)) else ((r8read.f k s bt105.1 may).bind fun bt107 => (some (bt107.1, mx bt105.2 bt107.2)))) := by
         intro k
         rw [st1, r8read.j1, if_neg (by decide)]
         rcases h7 with rfl | rfl
         ·rw [if_pos (by rfl), r8read.j2, if_pos rfl, hw1]
         ·rw [if_neg (by decide), r8read.j2, if_pos (by rfl), hw1]
        obtain ⟨k1, e1, d1, g1, g2, g3, g4⟩ := ih (i + 1) may b l hd (by omega) (by simp at hn; omega) hm
        have hpc : parse (n + 1) (c :: l) b = (parse n l b).bind fun p => (parse n p.2 b).bind fun q => some (.two c p.1 q.1, q.2) := by
         rw [parse_cons, if_neg h1, if_neg h2, if_neg h3, if_neg h4, if_neg (by omega), if_pos h7]
        rw [hpc]
        cases hp : parse n l b with
        | none =>
         rw [hp] at g4
         obtain rfl : e1 = -1 := g4
         refine ⟨k1 + 4, -1, 0, ?_, by omega, by simp; omega, rfl⟩
         rw [st2, g1]
         simp only [Option.bind_some]
         rw [if_pos (by decide)]
        | some p =>
         rw [hp] at g4
         obtain ⟨q1, q2⟩ := (g4 : e1 = (s.size : Int) - p.2.length ∧ d1 = dep p.1)
         have hlen2 := parse_len _ _ _ _ _ hp
         have hdr := (parse_str _ _ _ _ _ hp).1
         have hdrop : (cs s).drop (s.size - p.2.length) = p.2 := by
          rw [← cs_length, show (cs s).length - p.2.length = (i + 1) + (l.length - p.2.length) by rw [cs_length]; omega, ← List.drop_drop, hd]
          rw [hdr, List.length_append, Nat.add_sub_cancel]
          simp
         obtain ⟨k2, e2, d2, g5, g6, g7, g8⟩ := ih (s.size - p.2.length) may b p.2 hdrop (by omega) (by simp at hn; omega) hm
         have he1 : e1 = ((s.size - p.2.length : Nat) : Int) := by omega
         have hrun : r8read.f (max k1 k2 + 4) s (i : Int) may = some (e2, mx d1 d2) := by
          rw [st2, lift (fun k => read_mono k s _ _) g1 (Nat.le_max_left k1 k2)]
          simp only [Option.bind_some]
          rw [if_neg (by omega), he1, lift (fun k => read_mono k s _ _) g5 (Nat.le_max_right k1 k2)]
          rfl
         refine ⟨max k1 k2 + 4, e2, mx d1 d2, hrun, ?_, ?_, ?_⟩
         ·unfold mx; split <;> omega
         ·simp only [List.length_cons]; unfold mx; split <;> omega
         ·simp only [Option.bind_some]
          cases hq : parse n p.2 b with
          | none =>
           rw [hq] at g8
           exact g8
          | some q =>
           rw [hq] at g8
           obtain ⟨q3, q4⟩ := (g8 : e2 = (s.size : Int) - q.2.length ∧ d2 = dep q.1)
           refine ⟨q3, ?_⟩
           show mx d1 d2 = ((max (dep p.1) (dep q.1) : Nat) : Int)
           unfold mx
           split <;> omega
       ·have st2 : ∀ k, r8read.f (k + 4) s (i : Int) may = if c = 60 then (r8read.j3 k s (i : Int) may (c : Int) true) else (r8read.j3 k s (i : Int) may (c : Int) ((c : Int) == 91)) := by
         intro k
         rw [st1, r8read.j1, if_neg (by decide), if_neg (by omega), show ((c : Int) == 124) = false by simp; omega, r8read.j2, if_neg (by decide)]
         by_cases h : c = 60
         ·rw [if_pos h, if_pos (by omega)]
         ·rw [if_neg h, if_neg (by omega)]
        by_cases h8 : c = 60 ∨ c = 91
        ·have st3 : ∀ k, r8read.f (k + 5) s (i : Int) may = (r8read.f k s ((i + 1 : Nat) : Int) may).bind fun bt109 => (some (bt109.1, wrap64 (bt109.2 + 1))) := by
          intro k
          rw [st2 (k + 1)]
          rcases h8 with rfl | rfl
          ·rw [if_pos rfl, r8read.j3, if_pos rfl, hw1]
          ·rw [if_neg (by decide), r8read.j3, if_pos (by rfl), hw1]
         obtain ⟨k1, e1, d1, g1, g2, g3, g4⟩ := ih (i + 1) may b l hd (by omega) (by simp at hn; omega) hm
         have hpc : parse (n + 1) (c :: l) b = (parse n l b).bind fun p => some (.one c p.1, p.2) := by
          rw [parse_cons, if_neg h1, if_neg h2, if_neg h3, if_neg h4, if_neg (by omega), if_neg h7, if_pos h8]
         rw [hpc]
         have hwd : wrap64 (d1 + 1) = d1 + 1 := by unfold wrap64; omega
         refine ⟨k1 + 5, e1, d1 + 1, ?_, by omega, by simp; omega, ?_⟩
         ·rw [st3, g1]
          simp only [Option.bind_some]
          rw [hwd]
         ·cases hp : parse n l b with
          | none =>
           rw [hp] at g4
           exact g4
          | some p =>
           rw [hp] at g4
           obtain ⟨q1, q2⟩ := (g4 : e1 = (s.size : Int) - p.2.length ∧ d1 = dep p.1)
           exact ⟨q1, by show d1 + 1 = ((dep p.1 + 1 : Nat) : Int); omega⟩
        ·have st3 : ∀ k, r8read.f (k + 4) s (i : Int) may = r8read.j3 k s (i : Int) may (c : Int) false := by
          intro k
          rw [st2, if_neg (by omega), show ((c : Int) == 91) = false by simp; omega]
         by_cases h6 : c = 109 ∨ c = 103
         ·have hpc : parse (n + 1) (c :: l) b = parseFix n c l b := by
           rw [parse_cons, if_neg h1, if_neg h2, if_neg h3, if_neg h4, if_pos h6]
          rw [hpc]
          have hc2 : (c : Int) = 109 ∨ (c : Int) = 103 := by omega
          cases l with
          | nil =>
           refine ⟨6, -1, 0, ?_, by omega, by simp, rfl⟩
           have hx : ¬ ((i + 1 : Nat) : Int) < (s.size : Int) := by simp at hlen; omega
           rw [st3 2, r8read.j3, if_neg (by decide), hw1]
           rcases hc2 with h | h
           ·rw [if_pos h, if_neg hx, r8read.j4, if_neg (by decide)]
           ·rw [if_neg (by omega), if_pos h, if_neg hx, r8read.j4, if_neg (by decide)]
          | cons x r =>
           obtain ⟨hlt2, hb2, hd2, hll2, _⟩ := drop_bt hd
           have hp1 : ((i + 1 : Nat) : Int) < (s.size : Int) := by omega
           have hp0 : (0 : Int) ≤ ((i + 1 : Nat) : Int) := by omega
           by_cases hx : isLt x = true
           ·have hlx := isLt_iff.1 hx
            have hbit := may_bit hm hlx.1 hlx.2
            have st4 : ∀ k, r8read.f (k + 5) s (i : Int) may = r8read.j4 k s (i : Int) may ((Go.bits .and .i64 (shr .i64 may ((x - 120 : Nat) : Int)) 1) == 0) := by
             intro k
             have hx0 : ((x - 120 : Nat) : Int) ≥ 0 := by omega
             have hx1 : 0 ≤ ((x - 120 : Nat) : Int) := by omega
             rw [st3 (k + 1), r8read.j3, if_neg (by decide), hw1]
             rcases hc2 with h | h
             ·rw [if_pos h, if_pos hp1, if_pos hp0, hb2, letter_in hx]
              simp only [Option.bind_some]
              rw [if_pos hx0, if_pos hx1]
             ·rw [if_neg (by omega), if_pos h, if_pos hp1, if_pos hp0, hb2, letter_in hx]
              simp only [Option.bind_some]
              rw [if_pos hx0, if_pos hx1]
            by_cases hxb : x ∈ b
            ·refine ⟨6, -1, 0, ?_, by omega, by simp; omega, ?_⟩
             ·rw [st4 1, hbit, if_pos hxb, r8read.j4, if_neg (by decide)]
             ·simp only [parseFix]
              rw [if_neg (fun h => h.2 hxb)]
              rfl
            ·obtain ⟨k1, e1, d1, g1, g2, g3, g4⟩ := ih (i + 2) _ (b ++ [x]) r hd2 (by omega) (by simp at hn; omega) (may_put hm hlx.1 hlx.2)
             refine ⟨k1 + 6, e1, d1, ?_, by omega, by simp; omega, ?_⟩
             ·rw [st4 (k1 + 1), hbit, if_neg hxb, r8read.j4, if_pos (by rfl), hw1, if_pos hp0, if_pos hp1, hb2, letter_in hx, hw2]
              simp only [Option.bind_some]
              rw [if_pos (by omega), g1]
              rfl
             ·simp only [parseFix]
              rw [if_pos ⟨hx, hxb⟩]
              cases hp : parse n r (b ++ [x]) with
              | none =>
               rw [hp] at g4
               exact g4
              | some p =>
               rw [hp] at g4
               obtain ⟨q1, q2⟩ := (g4 : e1 = (s.size : Int) - p.2.length ∧ d1 = dep p.1)
               exact ⟨q1, q2⟩
           ·have hxf : isLt x = false := by simpa using hx
            refine ⟨6, -1, 0, ?_, by omega, by simp; omega, ?_⟩
            ·rw [st3 2, r8read.j3, if_neg (by decide), hw1]
             rcases hc2 with h | h
             ·rw [if_pos h, if_pos hp1, if_pos hp0, hb2, letter_out hxf]
              simp only [Option.bind_some]
              rw [if_neg (by decide), r8read.j4, if_neg (by decide)]
             ·rw [if_neg (by omega), if_pos h, if_pos hp1, if_pos hp0, hb2, letter_out hxf]
              simp only [Option.bind_some]
              rw [if_neg (by decide), r8read.j4, if_neg (by decide)]
            ·simp only [parseFix]
             rw [if_neg (fun h => hx h.1)]
             rfl
         ·refine ⟨6, -1, 0, ?_, by omega, by simp; omega, ?_⟩
          ·rw [st3 2, r8read.j3, if_neg (by decide), if_neg (by omega), if_neg (by omega), r8read.j4, if_neg (by decide)]
          ·rw [parse_cons, if_neg h1, if_neg h2, if_neg h3, if_neg h4, if_neg h6, if_neg h7, if_neg h8]
           rfl
end Go.Proofs.Ytjffhhalmicodaa.L
end

section
set_option linter.unusedVariables false
set_option linter.unusedSimpArgs false
namespace Go.Proofs.Ytjffhhalmicodaa.L
open Go.RowKit Go.Proofs.G.PrintWords Go.Proofs.G.PrintLast Go.Proofs.G.PrintMore Go.Proofs.Ytjffhhalmicodaa.X
open Go.Proofs.Ytjffhhalmicodaa.PB (r8Valid.f r8Valid.l0 r8Valid.j0)
open Go.Proofs.Ytjffhhalmicodaa.PA (fixes_Works_valid.f q8Of.f q8list.f)
theorem list_eq (l : List Int) : q8list.f l = some (l.take 9) := by
 unfold q8list.f slices_Clone.f
 by_cases h : l.length ≤ 9
 ·have e : mn (l.length : Int) 9 = l.length := by unfold mn; split <;> omega
  rw [e, if_pos (by omega), if_pos (by omega), if_pos (by simp; omega)]
  simp only [Option.bind_some, Option.some.injEq]
  rw [show ((l.length : Int)).toNat = l.length by omega, List.take_of_length_le (by omega), List.take_of_length_le h]
 ·have e : mn (l.length : Int) 9 = 9 := by unfold mn; split <;> omega
  rw [e, if_pos (by omega), if_pos (by omega), if_pos (by simp; omega)]
  rfl
theorem Of_eq (nx mk : List Int) : q8Of.f nx mk = some (nx.take 9, mk.take 9) := by
  unfold q8Of.f
  rw [list_eq, list_eq]
  rfl
theorem take_of {nx mk : List Int} (h : VW nx mk) : nx.take 9 = nx ∧ mk.take 9 = mk := by
  have := h.le
  have := h.len
  exact ⟨List.take_of_length_le (by omega), List.take_of_length_le (by omega)⟩
theorem VW_take {nx mk : List Int} : VW (nx.take 9) (mk.take 9) ↔ VW nx mk := by
 constructor
 ·intro h
  have h1 := h.le
  have h2 := h.len
  rw [List.length_take] at h1
  rw [List.length_take, List.length_take] at h2
  have e1 : nx.take 9 = nx := List.take_of_length_le (by omega)
  have e2 : mk.take 9 = mk := List.take_of_length_le (by omega)
  rw [e1, e2] at h
  exact h
 ·intro h
  rw [(take_of h).1, (take_of h).2]
  exact h
theorem minTo_ge {l : List Int} {b : Int} : ∀ n : Nat, b ≤ minTo l n ↔ ∀ i : Nat, i ≤ n → b ≤ rd l i := by
  intro n
  induction n with
  | zero =>
    exact ⟨fun h i hi => by obtain rfl : i = 0 := by omega
                            exact h, fun h => h 0 (Nat.le_refl _)⟩
  | succ n ih =>
    have e : b ≤ minTo l (n + 1) ↔ b ≤ minTo l n ∧ b ≤ rd l ((n : Int) + 1) := by
      show b ≤ mn _ _ ↔ _
      unfold mn; split <;> omega
    rw [e, ih]
    constructor
    · rintro ⟨h1, h2⟩ i hi
      rcases Nat.lt_or_ge i (n + 1) with h | h
      · exact h1 i (by omega)
      · obtain rfl : i = n + 1 := by omega
        exact h2
    · exact fun h => ⟨fun i hi => h i (by omega), h (n + 1) (Nat.le_refl _)⟩
theorem maxTo_lt {l : List Int} {b : Int} : ∀ n : Nat, maxTo l n < b ↔ ∀ i : Nat, i ≤ n → rd l i < b := by
  intro n
  induction n with
  | zero =>
    exact ⟨fun h i hi => by obtain rfl : i = 0 := by omega
                            exact h, fun h => h 0 (Nat.le_refl _)⟩
  | succ n ih =>
    have e : maxTo l (n + 1) < b ↔ maxTo l n < b ∧ rd l ((n : Int) + 1) < b := by
      show mx _ _ < b ↔ _
      unfold mx; split <;> omega
    rw [e, ih]
    constructor
    · rintro ⟨h1, h2⟩ i hi
      rcases Nat.lt_or_ge i (n + 1) with h | h
      · exact h1 i (by omega)
      · obtain rfl : i = n + 1 := by omega
        exact h2
    · exact fun h => ⟨fun i hi => h i (by omega), h (n + 1) (Nat.le_refl _)⟩
theorem shl_len {l : List Int} (h : l.length ≤ 6) : shl .i64 1 (l.length : Int) = 2 ^ l.length := by
  rw [shl1 (by omega)]
  simp
theorem valid_true {nx mk : List Int} (h : VW nx mk) : fixes_Works_valid.f nx mk = some true := by
 have h1 := h.pos
 have h2 := h.le
 have h3 := h.len
 unfold fixes_Works_valid.f slices_Min.f slices_Max.f
 rw [if_pos (by omega), if_pos (by omega), if_pos (by omega), if_pos (by omega)]
 simp only [Option.bind_some]
 rw [if_pos ((minTo_ge _).2 fun i hi => (h.next i (by omega)).1)]
 rw [if_pos (by omega)]
 simp only [Option.bind_some]
 rw [if_pos (by rw [shl_len h2]; exact (maxTo_lt _).2 fun i hi => (h.next i (by omega)).2)]
 rw [if_pos (by omega)]
 simp only [Option.bind_some]
 rw [if_pos ((minTo_ge _).2 fun i hi => (h.marks i (by omega)).1)]
 rw [if_pos (by omega)]
 simp only [Option.bind_some]
 congr 1
 refine decide_eq_true ((maxTo_lt _).2 fun i hi => ?_)
 have := (h.marks i (by omega)).2
 omega
theorem valid_false {nx mk : List Int} (h : ¬ VW nx mk) : fixes_Works_valid.f nx mk = some false := by
 unfold fixes_Works_valid.f slices_Min.f slices_Max.f
 by_cases h1 : (nx.length : Int) ≥ 1
 ·rw [if_pos h1]
  by_cases h2 : (nx.length : Int) ≤ 6
  ·rw [if_pos h2]
   by_cases h3 : (mk.length : Int) = (nx.length : Int)
   ·rw [if_pos h3, if_pos (by omega)]
    simp only [Option.bind_some]
    by_cases h4 : minTo nx (nx.length - 1) ≥ 0
    ·rw [if_pos h4, if_pos (by omega)]
     simp only [Option.bind_some]
     by_cases h5 : maxTo nx (nx.length - 1) < shl .i64 1 (nx.length : Int)
     ·rw [if_pos h5, if_pos (by omega)]
      simp only [Option.bind_some]
      by_cases h6 : minTo mk (mk.length - 1) ≥ 0
      ·rw [if_pos h6, if_pos (by omega)]
       simp only [Option.bind_some]
       congr 1
       refine decide_eq_false fun h7 => h ?_
       rw [shl_len (by omega)] at h5
       exact ⟨by omega, by omega, by omega, fun i hi => ⟨(minTo_ge _).1 h4 i (by omega), (maxTo_lt _).1 h5 i (by omega)⟩, fun i hi => ⟨(minTo_ge _).1 h6 i (by omega), by have := (maxTo_lt _).1 h7 i (by omega); omega⟩⟩
      ·rw [if_neg h6]
     ·rw [if_neg h5]
    ·rw [if_neg h4]
   ·rw [if_neg h3]
  ·rw [if_neg h2]
 ·rw [if_neg h1]
theorem Valid_loop {nx mk : List Int} (h1 : nx.length ≤ 6) (h2 : mk.length = nx.length) : ∀ d i : Nat, i + d = nx.length → ∃ k r, r8Valid.l0 k (nx.length : Int) nx (nx.length : Int) (i : Int) nx mk = some r ∧ (r = true ↔ ∀ j : Nat, i ≤ j → j < nx.length → InS nx.length (rd nx j) ∧ 0 ≤ rd mk j ∧ rd mk j ≤ 15) := by
 intro d
 induction d with
 | zero =>
  intro i hi
  refine ⟨1, true, ?_, ?_⟩
  ·rw [r8Valid.l0, if_neg (by omega)]
  ·simp only [true_iff]
   intro j hj hj2
   omega
 | succ d ih =>
  intro i hi
  obtain ⟨k, r, hk, hr⟩ := ih (i + 1) (by omega)
  have step : ∀ k, r8Valid.l0 (k + 1) (nx.length : Int) nx (nx.length : Int) (i : Int) nx mk = if rd nx i < 0 then some false else if rd nx i ≥ 2 ^ nx.length then some false else if rd mk i < 0 then some false else if rd mk i > 15 then some false else r8Valid.l0 k (nx.length : Int) nx (nx.length : Int) ((i + 1 : Nat) : Int) nx mk := by
   intro k
   rw [r8Valid.l0, if_pos (by omega), if_pos (by omega), if_pos (by omega), if_pos (show (0 : Int) ≤ (nx.length : Int) by omega), if_pos (show (i : Int) < (mk.length : Int) by omega), shl_len h1]
   rw [show wrap64 ((i : Int) + 1) = ((i + 1 : Nat) : Int) by unfold wrap64; omega]
  by_cases g1 : rd nx i < 0
  ·refine ⟨1, false, by rw [step, if_pos g1], ?_⟩
   simp only [Bool.false_eq_true, false_iff]
   intro h
   have := (h i (Nat.le_refl _) (by omega)).1.1
   omega
  ·by_cases g2 : rd nx i ≥ 2 ^ nx.length
   ·refine ⟨1, false, by rw [step, if_neg g1, if_pos g2], ?_⟩
    simp only [Bool.false_eq_true, false_iff]
    intro h
    have := (h i (Nat.le_refl _) (by omega)).1.2
    omega
   ·by_cases g3 : rd mk i < 0
    ·refine ⟨1, false, by rw [step, if_neg g1, if_neg g2, if_pos g3], ?_⟩
     simp only [Bool.false_eq_true, false_iff]
     intro h
     have := (h i (Nat.le_refl _) (by omega)).2.1
     omega
    ·by_cases g4 : rd mk i > 15
     ·refine ⟨1, false, by rw [step, if_neg g1, if_neg g2, if_neg g3, if_pos g4], ?_⟩
      simp only [Bool.false_eq_true, false_iff]
      intro h
      have := (h i (Nat.le_refl _) (by omega)).2.2
      omega
     ·refine ⟨k + 1, r, by rw [step, if_neg g1, if_neg g2, if_neg g3, if_neg g4, hk], ?_⟩
      rw [hr]
      constructor
      ·intro h j hj hj2
       rcases Nat.lt_or_ge i j with e | e
       ·exact h j e hj2
       ·obtain rfl : j = i := by omega
        exact ⟨⟨by omega, by omega⟩, by omega, by omega⟩
      ·intro h j hj hj2
       exact h j (by omega) hj2
open Classical in
theorem Valid_eq (nx mk : List Int) : ∃ k, r8Valid.f k nx mk = some (decide (VW nx mk)) := by
 have bad : ¬ VW nx mk → some false = some (decide (VW nx mk)) := fun h => by rw [decide_eq_false h]
 unfold r8Valid.f
 by_cases h1 : (nx.length : Int) < 1
 ·refine ⟨1, ?_⟩
  rw [if_pos h1, r8Valid.j0, if_pos rfl]
  exact bad fun h => by have := h.pos; omega
 ·by_cases h2 : (nx.length : Int) > 6
  ·refine ⟨1, ?_⟩
   rw [if_neg h1, if_pos h2, r8Valid.j0, if_pos rfl]
   exact bad fun h => by have := h.le; omega
  ·by_cases h3 : (mk.length : Int) = (nx.length : Int)
   ·obtain ⟨k, r, hk, hr⟩ := Valid_loop (nx := nx) (mk := mk) (by omega) (by omega) nx.length 0 (by omega)
    refine ⟨k + 1, ?_⟩
    rw [if_neg h1, if_neg h2, r8Valid.j0]
    rw [if_neg (by simp [h3])]
    rw [show ((0 : Nat) : Int) = 0 from rfl] at hk
    rw [hk]
    congr 1
    have : r = true ↔ VW nx mk := by
     rw [hr]
     exact ⟨fun h => ⟨by omega, by omega, by omega, fun i hi => (h i (by omega) hi).1, fun i hi => (h i (by omega) hi).2⟩, fun h j _ hj => ⟨h.next j hj, h.marks j hj⟩⟩
    cases r
    ·rw [eq_comm, decide_eq_false_iff_not]
     intro h
     have := this.2 h
     cases this
    ·rw [eq_comm, decide_eq_true_iff]
     exact this.1 rfl
   ·refine ⟨1, ?_⟩
    rw [if_neg h1, if_neg h2, r8Valid.j0]
    rw [if_pos (by simp; omega)]
    exact bad fun h => by have := h.len; omega
theorem awake_at : PB.q8awake.f 3 = some true := by kernel_rfl
end Go.Proofs.Ytjffhhalmicodaa.L
end

section
namespace Go.Proofs.Ytjffhhalmicodaa.PF
open Go.RowKit Go.Proofs.G.PrintWords Go.Proofs.G.PrintLast Go.Proofs.G.PrintMore
attribute [local go_sem] max2_int min2_int max_two min_two max_three min_three max_four min_four
set_option linter.unusedVariables false
set_option linter.unusedSimpArgs false
def r8State.f (l0_0 : List Int) (l0_1 : List Int) (a1 : Int) : Option (Bool) := if a1 ≥ 0 then (some (decide (a1 < (l0_0.length : Int)))) else (some false)
set_option maxHeartbeats 8000000 in
set_option maxRecDepth 100000 in
theorem r8State.calls (A0_0 : Option Addr) (c0_0 : Nat) (l0_0 : List Int) (A0_1 : Option Addr) (c0_1 : Nat) (l0_1 : List Int) (a1 : Int) (r : Bool) (w : World) (hr0_0 : Kd.C (Kd.int .i64) w A0_0 l0_0.length l0_0) (hc0_0 : l0_0.length ≤ c0_0) (hr0_1 : Kd.C (Kd.int .i64) w A0_1 l0_1.length l0_1) (hc0_1 : l0_1.length ≤ c0_1) (h : r8State.f l0_0 l0_1 a1 = some r) :
  Calls Try.prog 40 #[.agg #[.slice A0_0 l0_0.length c0_0, .slice A0_1 l0_1.length c0_1], .int .i64 a1] w fun e w' => e = .returned (.bool r) ∧ Below w.heap.size w w' := by
 have hu24 := Try.underlying24
 have HR0_0 := As0.mk hr0_0
 have HC0_0 := As0.mk hc0_0
 clear hr0_0 hc0_0
 have HR0_1 := As0.mk hr0_1
 have HC0_1 := As0.mk hc0_1
 clear hr0_1 hc0_1
 have HB := As0.mk (Below.refl w.heap.size w)
 have H : (if a1 ≥ 0 then (some (decide (a1 < (l0_0.length : Int)))) else (some false)) = some r := h
 clear h
 by_cases c3 : a1 ≥ 0
 ·rw [if_pos c3] at H
  have c3b0 : decide (0 ≤ a1) = true := decide_eq_true c3
  clear c3
  obtain rfl := Option.some.inj H
  go_enter Try.func40, Try.ntmps40
  go_wp2_with (first | ((with_reducible refine gate_dst (N := 2) rfl ?_); (try (refine gate_guard (by rfl) ?_; dsimp only)); refine box_event ?hg (N := 2) ?hd (cs := #[.slice A0_0 l0_0.length c0_0, .slice A0_1 l0_1.length c0_1]) (t := 24) ?hr ?_; (case hd => rfl); (case hg => rfl); (case hr => first | (go_simp; done) | (go_simp; rfl)); intro gb150 hg w4 hbox hb; have n0_ := As0.mk (bst (by repeat (first | (with_reducible first | exact HB.out | apply below_alloc | apply pwd | apply bd1) | exact HB.out)) hb); have n1_ := As0.mk (hbox); have n2_ := As0.mk ((by rw [hg]; exact (below_size (by repeat (first | (with_reducible first | exact HB.out | apply below_alloc | apply pwd | apply bd1) | exact HB.out))) : w.heap.size ≤ gb150)); have n3_ := As0.mk ((by rw [hg]; exact (below_size (by repeat (first | (with_reducible first | exact HB.out | apply below_alloc | apply pwd | apply bd1) | exact HB.out))) : w.heap.size ≤ gb150)); clear HB; have HB := n0_; have BK150 := n1_; have GW150 := n2_; have GE150 := n3_; clear n0_ n1_ n2_ n3_; clear hb hbox hg; have hcz5_0 : w4.cell? ⟨gb150, 0, none⟩ = some (.slice A0_0 l0_0.length c0_0) := (blk_cell BK150.out 0).trans rfl; have hcz5_1 : w4.cell? ⟨gb150, 1, none⟩ = some (.slice A0_1 l0_1.length c0_1) := (blk_cell BK150.out 1).trans rfl; have hfz5_0 := blk_frozen BK150.out 0; have hfz5_1 := blk_frozen BK150.out 1))
  go_ret
  exact ⟨by first | rfl | (simp [errW_none, errW_some] <;> rfl) | (simp [*, errW_none, errW_some] <;> rfl), by repeat (first | (with_reducible first | exact HB.out | apply below_alloc | apply pwd | apply bd1 | refine below_set ?_ GE150.out) | exact HB.out)⟩
 ·rw [if_neg c3] at H
  have c3b0 : decide (0 ≤ a1) = false := decide_eq_false c3
  clear c3
  obtain rfl := Option.some.inj H
  go_enter Try.func40, Try.ntmps40
  go_wp2_with (first | ((with_reducible refine gate_dst (N := 2) rfl ?_); (try (refine gate_guard (by rfl) ?_; dsimp only)); refine box_event ?hg (N := 2) ?hd (cs := #[.slice A0_0 l0_0.length c0_0, .slice A0_1 l0_1.length c0_1]) (t := 24) ?hr ?_; (case hd => rfl); (case hg => rfl); (case hr => first | (go_simp; done) | (go_simp; rfl)); intro gb150 hg w6 hbox hb; have n0_ := As0.mk (bst (by repeat (first | (with_reducible first | exact HB.out | apply below_alloc | apply pwd | apply bd1) | exact HB.out)) hb); have n1_ := As0.mk (hbox); have n2_ := As0.mk ((by rw [hg]; exact (below_size (by repeat (first | (with_reducible first | exact HB.out | apply below_alloc | apply pwd | apply bd1) | exact HB.out))) : w.heap.size ≤ gb150)); have n3_ := As0.mk ((by rw [hg]; exact (below_size (by repeat (first | (with_reducible first | exact HB.out | apply below_alloc | apply pwd | apply bd1) | exact HB.out))) : w.heap.size ≤ gb150)); clear HB; have HB := n0_; have BK150 := n1_; have GW150 := n2_; have GE150 := n3_; clear n0_ n1_ n2_ n3_; clear hb hbox hg))
  go_ret
  exact ⟨by first | rfl | (simp [errW_none, errW_some] <;> rfl) | (simp [*, errW_none, errW_some] <;> rfl), by repeat (first | (with_reducible first | exact HB.out | apply below_alloc | apply pwd | apply bd1 | refine below_set ?_ GE150.out) | exact HB.out)⟩
def r8Alike.f (k : Nat) (l0_0 : List Int) (l0_1 : List Int) (a1 : Int) (a2 : Int) : Option (Bool) := (r8Level.f k l0_0 l0_1 6).bind fun t152 => (if 0 ≤ a1 then (if a1 < (t152.length : Int) then (if 0 ≤ a2 then (if a2 < (t152.length : Int) then (some ((rd t152 a1) == (rd t152 a2))) else (none)) else (none)) else (none)) else (none))
set_option maxHeartbeats 8000000 in
set_option maxRecDepth 100000 in
theorem r8Alike.calls (k : Nat) (A0_0 : Option Addr) (c0_0 : Nat) (l0_0 : List Int) (A0_1 : Option Addr) (c0_1 : Nat) (l0_1 : List Int) (a1 : Int) (a2 : Int) (r : Bool) (w : World) (hr0_0 : Kd.C (Kd.int .i64) w A0_0 l0_0.length l0_0) (hc0_0 : l0_0.length ≤ c0_0) (hr0_1 : Kd.C (Kd.int .i64) w A0_1 l0_1.length l0_1) (hc0_1 : l0_1.length ≤ c0_1) (h : r8Alike.f k l0_0 l0_1 a1 a2 = some r) :
  Calls Try.prog 41 #[.agg #[.slice A0_0 l0_0.length c0_0, .slice A0_1 l0_1.length c0_1], .int .i64 a1, .int .i64 a2] w fun e w' => e = .returned (.bool r) ∧ Below w.heap.size w w' := by
 have hu24 := Try.underlying24
 have HR0_0 := As0.mk hr0_0
 have HC0_0 := As0.mk hc0_0
 clear hr0_0 hc0_0
 have HR0_1 := As0.mk hr0_1
 have HC0_1 := As0.mk hc0_1
 clear hr0_1 hc0_1
 have HB := As0.mk (Below.refl w.heap.size w)
 have H : ((r8Level.f k l0_0 l0_1 6).bind fun t152 => (if 0 ≤ a1 then (if a1 < (t152.length : Int) then (if 0 ≤ a2 then (if a2 < (t152.length : Int) then (some ((rd t152 a1) == (rd t152 a2))) else (none)) else (none)) else (none)) else (none))) = some r := h
 clear h
 replace H := Option.bind_eq_some_iff.mp H
 obtain ⟨t152, A40, H⟩ := H
 replace H : (if 0 ≤ a1 then (if a1 < (t152.length : Int) then (if 0 ≤ a2 then (if a2 < (t152.length : Int) then (some ((rd t152 a1) == (rd t152 a2))) else (none)) else (none)) else (none)) else (none)) = some r := H
 have A4 := As0.mk A40
 clear A40
 by_cases c5 : 0 ≤ a1
 ·rw [if_pos c5] at H
  have c5b0 : decide (0 ≤ a1) = true := decide_eq_true c5
  clear c5
  by_cases c6 : a1 < (t152.length : Int)
  ·rw [if_pos c6] at H
   have c6b0 : decide (a1 < (t152.length : Int)) = true := decide_eq_true c6
   clear c6
   by_cases c7 : 0 ≤ a2
   ·rw [if_pos c7] at H
    have c7b0 : decide (0 ≤ a2) = true := decide_eq_true c7
    clear c7
    by_cases c8 : a2 < (t152.length : Int)
    ·rw [if_pos c8] at H
     have c8b0 : decide (a2 < (t152.length : Int)) = true := decide_eq_true c8
     clear c8
     obtain rfl := Option.some.inj H
     go_enter Try.func41, Try.ntmps41
     go_wp2_with (first | ((with_reducible refine gate_dst (N := 3) rfl ?_); refine box_event ?hg (N := 3) ?hd (cs := #[.slice A0_0 l0_0.length c0_0, .slice A0_1 l0_1.length c0_1]) (t := 24) ?hr ?_; (case hd => rfl); (case hg => rfl); (case hr => first | (go_simp; done) | (go_simp; rfl)); intro gb151 hg w9 hbox hb; have n0_ := As0.mk (bst (by repeat (first | (with_reducible first | exact HB.out | apply below_alloc | apply pwd | apply bd1) | exact HB.out)) hb); have n1_ := As0.mk (hbox); have n2_ := As0.mk ((by rw [hg]; exact (below_size (by repeat (first | (with_reducible first | exact HB.out | apply below_alloc | apply pwd | apply bd1) | exact HB.out))) : w.heap.size ≤ gb151)); have n3_ := As0.mk ((by rw [hg]; exact (below_size (by repeat (first | (with_reducible first | exact HB.out | apply below_alloc | apply pwd | apply bd1) | exact HB.out))) : w.heap.size ≤ gb151)); clear HB; have HB := n0_; have BK151 := n1_; have GW151 := n2_; have GE151 := n3_; clear n0_ n1_ n2_ n3_; clear hb hbox hg; have hcz10_0 : w9.cell? ⟨gb151, 0, none⟩ = some (.slice A0_0 l0_0.length c0_0) := (blk_cell BK151.out 0).trans rfl; have hcz10_1 : w9.cell? ⟨gb151, 1, none⟩ = some (.slice A0_1 l0_1.length c0_1) := (blk_cell BK151.out 1).trans rfl; have hfz10_0 := blk_frozen BK151.out 0; have hfz10_1 := blk_frozen BK151.out 1) | (go_at_call 65; (with_reducible refine (r8Level.calls k _ _ l0_0 _ _ l0_1 6 t152 _ ?side1 ?side2 ?side3 ?side4 A4.out).mono ?_); (case side1 => repeat (first | exact (Kd.C_below HR0_0.out HB.out) | (with_reducible refine Kd.C_alloc ?_ _) | (with_reducible refine Kd.C_drewN ?_ _) | (with_reducible refine Kd.C_drew ?_))); (case side2 => exact HC0_0.out); (case side3 => repeat (first | exact (Kd.C_below HR0_1.out HB.out) | (with_reducible refine Kd.C_alloc ?_ _) | (with_reducible refine Kd.C_drewN ?_ _) | (with_reducible refine Kd.C_drew ?_))); (case side4 => exact HC0_1.out); rintro e w11 ⟨v153, rfl, ho0, hb⟩; have n0_ := As0.mk (Kd.R_lower ho0 (below_size (by repeat (first | (with_reducible first | exact HB.out | apply below_alloc | apply pwd | apply bd1 | refine below_set ?_ GE151.out) | exact HB.out)))); have n1_ := As0.mk (blk_below (g := gb151) (o := .cells #[.slice A0_0 l0_0.length c0_0, .slice A0_1 l0_1.length c0_1] 24 (0, 0)) (by (with_reducible repeat (first | refine blk_drewN ?_ _ | refine blk_drew ?_ | refine blk_alloc ?_ _)); exact BK151.out) hb); have n2_ := As0.mk (bst (by repeat (first | (with_reducible first | exact HB.out | apply below_alloc | apply pwd | apply bd1 | refine below_set ?_ GE151.out) | exact HB.out)) hb); clear BK151; clear HB; have HO154 := n0_; have BK151 := n1_; have HB := n2_; clear n0_ n1_ n2_; (try clear hb); (try clear hb2); (try clear hk); (try clear hi); (try clear ho0); obtain ⟨Ao12, co12, eo12⟩ := Kd.R_slice HO154.out; subst eo12; have p155 : 0 ≤ (a1 : Int) := of_decide_eq_true (by first | (with_reducible assumption) | assumption); have q155 : a1 < (t152.length : Int) := of_decide_eq_true (by first | (with_reducible assumption) | assumption); obtain ⟨ad155, e155, hx155_0⟩ := Kd.at_int (Kd.R_reads' HO154.out).2.2 a1 p155 q155; cases e155; replace p155 := eq_true p155; replace q155 := eq_true q155; have p156 : 0 ≤ (a2 : Int) := of_decide_eq_true (by first | (with_reducible assumption) | assumption); have q156 : a2 < (t152.length : Int) := of_decide_eq_true (by first | (with_reducible assumption) | assumption); obtain ⟨ad156, e156, hx156_0⟩ := Kd.at_int (Kd.R_reads' HO154.out).2.2 a2 p156 q156; obtain rfl : ad155 = ad156 := (by injection e156); replace p156 := eq_true p156; replace q156 := eq_true q156))
     repeat (go_quiet (first | ((with_reducible refine gate_dst (N := 3) rfl ?_); refine box_event ?hg (N := 3) ?hd (cs := #[.slice A0_0 l0_0.length c0_0, .slice A0_1 l0_1.length c0_1]) (t := 24) ?hr ?_; (case hd => rfl); (case hg => rfl); (case hr => first | (go_simp; done) | (go_simp; rfl)); intro gb151 hg w9 hbox hb; have n0_ := As0.mk (bst (by repeat (first | (with_reducible first | exact HB.out | apply below_alloc | apply pwd | apply bd1) | exact HB.out)) hb); have n1_ := As0.mk (hbox); have n2_ := As0.mk ((by rw [hg]; exact (below_size (by repeat (first | (with_reducible first | exact HB.out | apply below_alloc | apply pwd | apply bd1) | exact HB.out))) : w.heap.size ≤ gb151)); have n3_ := As0.mk ((by rw [hg]; exact (below_size (by repeat (first | (with_reducible first | exact HB.out | apply below_alloc | apply pwd | apply bd1) | exact HB.out))) : w.heap.size ≤ gb151)); clear HB; have HB := n0_; have BK151 := n1_; have GW151 := n2_; have GE151 := n3_; clear n0_ n1_ n2_ n3_; clear hb hbox hg; have hcz10_0 : w9.cell? ⟨gb151, 0, none⟩ = some (.slice A0_0 l0_0.length c0_0) := (blk_cell BK151.out 0).trans rfl; have hcz10_1 : w9.cell? ⟨gb151, 1, none⟩ = some (.slice A0_1 l0_1.length c0_1) := (blk_cell BK151.out 1).trans rfl; have hfz10_0 := blk_frozen BK151.out 0; have hfz10_1 := blk_frozen BK151.out 1) | (go_at_call 65; (with_reducible refine (r8Level.calls k _ _ l0_0 _ _ l0_1 6 t152 _ ?side1 ?side2 ?side3 ?side4 A4.out).mono ?_); (case side1 => repeat (first | exact (Kd.C_below HR0_0.out HB.out) | (with_reducible refine Kd.C_alloc ?_ _) | (with_reducible refine Kd.C_drewN ?_ _) | (with_reducible refine Kd.C_drew ?_))); (case side2 => exact HC0_0.out); (case side3 => repeat (first | exact (Kd.C_below HR0_1.out HB.out) | (with_reducible refine Kd.C_alloc ?_ _) | (with_reducible refine Kd.C_drewN ?_ _) | (with_reducible refine Kd.C_drew ?_))); (case side4 => exact HC0_1.out); rintro e w11 ⟨v153, rfl, ho0, hb⟩; have n0_ := As0.mk (Kd.R_lower ho0 (below_size (by repeat (first | (with_reducible first | exact HB.out | apply below_alloc | apply pwd | apply bd1 | refine below_set ?_ GE151.out) | exact HB.out)))); have n1_ := As0.mk (blk_below (g := gb151) (o := .cells #[.slice A0_0 l0_0.length c0_0, .slice A0_1 l0_1.length c0_1] 24 (0, 0)) (by (with_reducible repeat (first | refine blk_drewN ?_ _ | refine blk_drew ?_ | refine blk_alloc ?_ _)); exact BK151.out) hb); have n2_ := As0.mk (bst (by repeat (first | (with_reducible first | exact HB.out | apply below_alloc | apply pwd | apply bd1 | refine below_set ?_ GE151.out) | exact HB.out)) hb); clear BK151; clear HB; have HO154 := n0_; have BK151 := n1_; have HB := n2_; clear n0_ n1_ n2_; (try clear hb); (try clear hb2); (try clear hk); (try clear hi); (try clear ho0); obtain ⟨Ao12, co12, eo12⟩ := Kd.R_slice HO154.out; subst eo12; have p155 : 0 ≤ (a1 : Int) := of_decide_eq_true (by first | (with_reducible assumption) | assumption); have q155 : a1 < (t152.length : Int) := of_decide_eq_true (by first | (with_reducible assumption) | assumption); obtain ⟨ad155, e155, hx155_0⟩ := Kd.at_int (Kd.R_reads' HO154.out).2.2 a1 p155 q155; cases e155; replace p155 := eq_true p155; replace q155 := eq_true q155; have p156 : 0 ≤ (a2 : Int) := of_decide_eq_true (by first | (with_reducible assumption) | assumption); have q156 : a2 < (t152.length : Int) := of_decide_eq_true (by first | (with_reducible assumption) | assumption); obtain ⟨ad156, e156, hx156_0⟩ := Kd.at_int (Kd.R_reads' HO154.out).2.2 a2 p156 q156; obtain rfl : ad155 = ad156 := (by injection e156); replace p156 := eq_true p156; replace q156 := eq_true q156)); try go_wp2_with (first | ((with_reducible refine gate_dst (N := 3) rfl ?_); refine box_event ?hg (N := 3) ?hd (cs := #[.slice A0_0 l0_0.length c0_0, .slice A0_1 l0_1.length c0_1]) (t := 24) ?hr ?_; (case hd => rfl); (case hg => rfl); (case hr => first | (go_simp; done) | (go_simp; rfl)); intro gb151 hg w9 hbox hb; have n0_ := As0.mk (bst (by repeat (first | (with_reducible first | exact HB.out | apply below_alloc | apply pwd | apply bd1) | exact HB.out)) hb); have n1_ := As0.mk (hbox); have n2_ := As0.mk ((by rw [hg]; exact (below_size (by repeat (first | (with_reducible first | exact HB.out | apply below_alloc | apply pwd | apply bd1) | exact HB.out))) : w.heap.size ≤ gb151)); have n3_ := As0.mk ((by rw [hg]; exact (below_size (by repeat (first | (with_reducible first | exact HB.out | apply below_alloc | apply pwd | apply bd1) | exact HB.out))) : w.heap.size ≤ gb151)); clear HB; have HB := n0_; have BK151 := n1_; have GW151 := n2_; have GE151 := n3_; clear n0_ n1_ n2_ n3_; clear hb hbox hg; have hcz10_0 : w9.cell? ⟨gb151, 0, none⟩ = some (.slice A0_0 l0_0.length c0_0) := (blk_cell BK151.out 0).trans rfl; have hcz10_1 : w9.cell? ⟨gb151, 1, none⟩ = some (.slice A0_1 l0_1.length c0_1) := (blk_cell BK151.out 1).trans rfl; have hfz10_0 := blk_frozen BK151.out 0; have hfz10_1 := blk_frozen BK151.out 1) | (go_at_call 65; (with_reducible refine (r8Level.calls k _ _ l0_0 _ _ l0_1 6 t152 _ ?side1 ?side2 ?side3 ?side4 A4.out).mono ?_); (case side1 => repeat (first | exact (Kd.C_below HR0_0.out HB.out) | (with_reducible refine Kd.C_alloc ?_ _) | (with_reducible refine Kd.C_drewN ?_ _) | (with_reducible refine Kd.C_drew ?_))); (case side2 => exact HC0_0.out); (case side3 => repeat (first | exact (Kd.C_below HR0_1.out HB.out) | (with_reducible refine Kd.C_alloc ?_ _) | (with_reducible refine Kd.C_drewN ?_ _) | (with_reducible refine Kd.C_drew ?_))); (case side4 => exact HC0_1.out); rintro e w11 ⟨v153, rfl, ho0, hb⟩; have n0_ := As0.mk (Kd.R_lower ho0 (below_size (by repeat (first | (with_reducible first | exact HB.out | apply below_alloc | apply pwd | apply bd1 | refine below_set ?_ GE151.out) | exact HB.out)))); have n1_ := As0.mk (blk_below (g := gb151) (o := .cells #[.slice A0_0 l0_0.length c0_0, .slice A0_1 l0_1.length c0_1] 24 (0, 0)) (by (with_reducible repeat (first | refine blk_drewN ?_ _ | refine blk_drew ?_ | refine blk_alloc ?_ _)); exact BK151.out) hb); have n2_ := As0.mk (bst (by repeat (first | (with_reducible first | exact HB.out | apply below_alloc | apply pwd | apply bd1 | refine below_set ?_ GE151.out) | exact HB.out)) hb); clear BK151; clear HB; have HO154 := n0_; have BK151 := n1_; have HB := n2_; clear n0_ n1_ n2_; (try clear hb); (try clear hb2); (try clear hk); (try clear hi); (try clear ho0); obtain ⟨Ao12, co12, eo12⟩ := Kd.R_slice HO154.out; subst eo12; have p155 : 0 ≤ (a1 : Int) := of_decide_eq_true (by first | (with_reducible assumption) | assumption); have q155 : a1 < (t152.length : Int) := of_decide_eq_true (by first | (with_reducible assumption) | assumption); obtain ⟨ad155, e155, hx155_0⟩ := Kd.at_int (Kd.R_reads' HO154.out).2.2 a1 p155 q155; cases e155; replace p155 := eq_true p155; replace q155 := eq_true q155; have p156 : 0 ≤ (a2 : Int) := of_decide_eq_true (by first | (with_reducible assumption) | assumption); have q156 : a2 < (t152.length : Int) := of_decide_eq_true (by first | (with_reducible assumption) | assumption); obtain ⟨ad156, e156, hx156_0⟩ := Kd.at_int (Kd.R_reads' HO154.out).2.2 a2 p156 q156; obtain rfl : ad155 = ad156 := (by injection e156); replace p156 := eq_true p156; replace q156 := eq_true q156)))
     go_ret
     exact ⟨by first | rfl | (simp [errW_none, errW_some] <;> rfl) | (simp [*, errW_none, errW_some] <;> rfl), by repeat (first | (with_reducible first | exact HB.out | apply below_alloc | apply pwd | apply bd1 | refine below_set ?_ GE151.out) | exact HB.out)⟩
    ·rw [if_neg c8] at H
     exact absurd H (by simp)
   ·rw [if_neg c7] at H
    exact absurd H (by simp)
  ·rw [if_neg c6] at H
   exact absurd H (by simp)
 ·rw [if_neg c5] at H
  exact absurd H (by simp)
end Go.Proofs.Ytjffhhalmicodaa.PF
end

section
set_option linter.unusedVariables false
namespace Go.Proofs.Ytjffhhalmicodaa.L
open Go.RowKit Go.Proofs.G.PrintWords Go.Proofs.G.PrintLast Go.Proofs.G.PrintMore Go.Proofs.Ytjffhhalmicodaa.X Go.Proofs.Ytjffhhalmicodaa.PF
def levs (nx mk : List Int) (j : Nat) : List (List Int) := (List.range (j + 1)).map (lv nx mk)
theorem levs_last (nx mk : List Int) (j : Nat) : (levs nx mk j).getLastD [] = lv nx mk j := by
  unfold levs
  rw [List.range_succ, List.map_append]
  simp
theorem levs_succ (nx mk : List Int) (j : Nat) : levs nx mk (j + 1) = levs nx mk j ++ [lv nx mk (j + 1)] := by
  unfold levs
  rw [List.range_succ, List.map_append]
  rfl
theorem levs_len (nx mk : List Int) (j : Nat) : (levs nx mk j).length = j + 1 := by simp [levs]
theorem lev_loop {nx mk : List Int} {K : Nat} (hK : Last nx mk K) (h6 : K ≤ 100) : ∀ d j, j + d = K → Evr (fun k => levF nx k (levs nx mk j)) (levs nx mk K) := by
 intro d
 induction d with
 | zero =>
  intro j hj
  obtain rfl : j = K := by omega
  refine Evr.step (h := fun _ => some (levs nx mk j)) (fun k => ?_) (Evr.const _)
  rw [levF, if_pos (by rw [levs_len]; omega), levs_last, if_pos]
  exact hK.same
 | succ d ih =>
  intro j hj
  refine Evr.step (fun k => ?_) (ih (j + 1) (by omega))
  rw [levF, if_pos (by rw [levs_len]; omega), levs_last, if_neg, levs_succ]
  ·rfl
  ·exact hK.first j (by omega)
theorem levels_ev {nx mk : List Int} (hv : VW nx mk) {K : Nat} (hK : Last nx mk K) : Evr (fun k => fixes_levels.f k nx mk) (levs nx mk K) := by
 have h6 := hv.le
 have hl := hK.le hv
 refine Evr.congr (fun k => ?_) (lev_loop hK (by omega) K 0 (by omega))
 unfold fixes_levels.f
 rw [if_pos ⟨by omega, by rw [hv.len]; omega⟩]
 rfl
theorem E_six {nx mk : List Int} (hv : VW nx mk) {K : Nat} (hK : Last nx mk K) (s t : Nat) : E nx mk 6 s t ↔ E nx mk K s t := by
 have hl := hK.le hv
 have h6 := hv.le
 have e : lv nx mk 6 = lv nx mk K := by
  have := lv_stay hK.same (6 - K)
  rwa [show K + (6 - K) = 6 by omega] at this
 unfold E
 rw [e]
end Go.Proofs.Ytjffhhalmicodaa.L
end

section
set_option linter.unusedVariables false
namespace Go.Proofs.Ytjffhhalmicodaa.L
open Go.RowKit Go.Proofs.G.PrintWords Go.Proofs.G.PrintLast Go.Proofs.G.PrintMore Go.Proofs.Ytjffhhalmicodaa.X Go.Proofs.Ytjffhhalmicodaa.PF Go.Proofs.Ytjffhhalmicodaa.PA Go.Proofs.Ytjffhhalmicodaa.PB
theorem awake_ev : Evr (fun k => PB.q8awake.f k) true := Evr.of_mono (fun k => PB.q8awake.mono k) ⟨3, awake_at⟩
open Classical in
theorem Valid_ev (nx mk : List Int) : Evr (fun k => PB.r8Valid.f k nx mk) (decide (VW nx mk)) := Evr.of_mono (fun k => PB.r8Valid.mono nx mk k) (Valid_eq nx mk)
theorem vw_no {nx mk : List Int} (h : ¬ VW nx mk) : ¬ VW (nx.take 9) (mk.take 9) := fun q => h (VW_take.1 q)
def St (nx : List Int) (a : Int) : Prop := 0 ≤ a ∧ a < nx.length
instance (nx : List Int) (a : Int) : Decidable (St nx a) := inferInstanceAs (Decidable (_ ∧ _))
theorem isState_ok {nx mk : List Int} (hv : VW nx mk) (a b : Int) : fixes_isState.f nx mk [a, b] = some (decide (St nx a ∧ St nx b)) := by
 unfold fixes_isState.f
 rw [valid_true hv]
 simp only [Option.bind_some, if_true]
 congr 1
 rw [Bool.eq_iff_iff]
 unfold St offS
 simp
theorem St.nat {nx : List Int} {a : Int} (h : St nx a) : ∃ s : Nat, a = (s : Int) ∧ s < nx.length := by
  obtain ⟨s, rfl⟩ := Int.eq_ofNat_of_zero_le h.1
  exact ⟨s, rfl, by have := h.2; omega⟩
theorem RAlike_ev {nx mk : List Int} (hv : VW nx mk) {K : Nat} (hK : Last nx mk K) {s t : Nat} (hs : s < nx.length) (ht : t < nx.length) : Evr (fun k => r8Alike.f k nx mk (s : Int) (t : Int)) (rd (lv nx mk K) s == rd (lv nx mk K) t) := by
 obtain ⟨l, hl, hev⟩ := Level_ev hv 6 (by decide)
 unfold r8Alike.f
 refine Evr.bind (f := fun x _ => _) hev ?_
 refine Evr.of_all fun k => ?_
 rw [hl.1, if_pos (by omega), if_pos (by omega), if_pos (by omega), if_pos (by omega)]
 congr 1
 rw [Bool.eq_iff_iff, beq_iff_eq, beq_iff_eq, hl.eq_iff hs ht, E_six hv hK]
 exact Iff.rfl
theorem State_eq (nx mk : List Int) (a : Int) : r8State.f nx mk a = some (decide (St nx a)) := by
 unfold r8State.f
 by_cases h : a ≥ 0
 ·rw [if_pos h]
  congr 1
  rw [Bool.eq_iff_iff, decide_eq_true_eq, decide_eq_true_eq]
  unfold St
  omega
 ·have h2 : ¬ St nx a := fun q => h q.1
  rw [if_neg h, decide_eq_false h2]
end Go.Proofs.Ytjffhhalmicodaa.L
end

section
set_option linter.unusedVariables false
set_option linter.unusedSimpArgs false
namespace Go.Proofs.Ytjffhhalmicodaa.X
open Go.RowKit Go.Proofs.G.PrintWords Go.Proofs.G.PrintLast Go.Proofs.G.PrintMore
def meets (nx below : List Int) (t x y : Nat) : Bool := (bits .and .i64 (shr .i64 (rd nx (t : Int)) (y : Int)) 1 == 1) && (rd below (x : Int) == rd below (y : Int))
set_option maxRecDepth 100000 in
set_option maxHeartbeats 2000000 in
theorem meets_calls (bw bt bb bx b off n c0 b2 off2 c2 t x y : Nat) (nx below : List Int) (W : World) (hw : W.cell? ⟨bw, 0, none⟩ = some (.slice (some ⟨b, off, none⟩) n c0)) (ht : W.cell? ⟨bt, 0, none⟩ = some (.int .i64 (t : Int))) (hb : W.cell? ⟨bb, 0, none⟩ = some (.slice (some ⟨b2, off2, none⟩) n c2)) (hx : W.cell? ⟨bx, 0, none⟩ = some (.int .i64 (x : Int)))
    (htn : t < n) (hxn : x < n) (hyn : y < n) (hn : n ≤ 61) (h1 : W.cell? ⟨b, off + t, none⟩ = some (.int .i64 (rd nx (t : Int)))) (h2 : W.cell? ⟨b2, off2 + x, none⟩ = some (.int .i64 (rd below (x : Int)))) (h3 : W.cell? ⟨b2, off2 + y, none⟩ = some (.int .i64 (rd below (y : Int)))) :
    Calls Try.prog 91 #[.int .i64 (y : Int), .pointer (some ⟨bw, 0, none⟩), .pointer (some ⟨bt, 0, none⟩), .pointer (some ⟨bb, 0, none⟩), .pointer (some ⟨bx, 0, none⟩)] W fun e w' => e = .returned (.bool (meets nx below t x y)) ∧ ∃ q, w' = W.drewN q := by
  have hu := Try.underlying28
  have k1 : (t : Int) < (n : Int) := by omega
  have k2 : (x : Int) < (n : Int) := by omega
  have k3 : (y : Int) < (n : Int) := by omega
  have hy62 : y ≤ 62 := by omega
  have hsh := shr_at (rd nx (t : Int)) (t := y) (by omega)
  have HSH := Lib.hid hsh
  clear hsh
  cases hq : (bits .and .i64 (rd nx (t : Int) / 2 ^ y) 1 == 1) with
  | true =>
    have HQ := Lib.hid hq
    go_enter Try.func91, Try.ntmps91
    go_wp2_with fail
    go_quiet (fail)
    go_wp2
    go_ret
    exact ⟨ret_bool (by unfold meets; rw [HSH.out, HQ.out, Bool.true_and]), _, rfl⟩
  | false =>
    have HQ := Lib.hid hq
    go_enter Try.func91, Try.ntmps91
    go_wp2_with fail
    go_quiet (fail)
    go_wp2
    go_ret
    exact ⟨ret_bool (by unfold meets; rw [HSH.out, HQ.out, Bool.false_and]), _, rfl⟩
theorem pred_meets (w : World) (bw bt bb bx c0 c2 t x : Nat) (A0 A2 : Option Addr) (nx below : List Int) (hr : Kd.C (Kd.int .i64) w A0 nx.length nx) (hr2 : Kd.C (Kd.int .i64) w A2 below.length below) (hl : below.length = nx.length) (hw : w.cell? ⟨bw, 0, none⟩ = some (.slice A0 nx.length c0)) (ht : w.cell? ⟨bt, 0, none⟩ = some (.int .i64 (t : Int))) (hb : w.cell? ⟨bb, 0, none⟩ = some (.slice A2 below.length c2)) (hx : w.cell? ⟨bx, 0, none⟩ = some (.int .i64 (x : Int))) (htn : t < nx.length) (hxn : x < nx.length) (hn : nx.length ≤ 61) :
    Pred w 91 #[.pointer (some ⟨bw, 0, none⟩), .pointer (some ⟨bt, 0, none⟩), .pointer (some ⟨bb, 0, none⟩), .pointer (some ⟨bx, 0, none⟩)] nx.length (meets nx below t x) := by
  intro W y hy hB
  obtain ⟨b, off, rfl, _, hc⟩ := ints_at hr (by omega)
  obtain ⟨b2, off2, rfl, _, hc2⟩ := ints_at hr2 (by omega)
  exact (meets_calls bw bt bb bx b off nx.length c0 b2 off2 c2 t x y nx below W (pwc hB hw) (pwc hB ht) (by rw [← hl]; exact pwc hB hb) (pwc hB hx) htn hxn hy hn (pwc hB (hc t htn)) (pwc hB (hc2 x (by omega))) (pwc hB (hc2 y (by omega)))).mono fun e w' ⟨he, q, hq⟩ => ⟨he, hq ▸ pwd (Below.refl _ _) q⟩
end Go.Proofs.Ytjffhhalmicodaa.X
end

section
set_option linter.unusedVariables false
set_option linter.unusedSimpArgs false
namespace Go.Proofs.Ytjffhhalmicodaa.X
open Go.RowKit Go.Proofs.G.PrintWords Go.Proofs.G.PrintLast Go.Proofs.G.PrintMore
def firstG (p : Nat → Bool) : Nat → Option Nat
  | 0 => none
  | n + 1 => match firstG p n with
    | some x => some x
    | none => if p n = true then some n else none
theorem firstG_spec (p : Nat → Bool) : ∀ n, (firstG p n = none ∧ ∀ x, x < n → p x = false) ∨ ∃ x, firstG p n = some x ∧ x < n ∧ p x = true ∧ ∀ y, y < x → p y = false
 | 0 => .inl ⟨rfl, fun x h => by omega⟩
 | n + 1 => by
  rcases firstG_spec p n with ⟨h1, h2⟩ | ⟨x, h1, h2, h3⟩
  ·by_cases hp : p n = true
   ·exact .inr ⟨n, by rw [firstG, h1, if_pos hp], by omega, hp, h2⟩
   ·refine .inl ⟨by rw [firstG, h1, if_neg hp], fun x hx => ?_⟩
    by_cases e : x = n
    ·rw [e]; simpa using hp
    ·exact h2 x (by omega)
  ·exact .inr ⟨x, by rw [firstG, h1], by omega, h3⟩
def goodX (nx below : List Int) (s t x : Nat) : Bool := !(bits .and .i64 (shr .i64 (rd nx (s : Int)) (x : Int)) 1 == 0) && (whereTo (meets nx below t x) nx.length == 0)
def foldY (T : Nat → Nat → Nat → Option ByteArray) (nx : List Int) (d t x : Nat) (turned : Bool) (jb ob : ByteArray) : Nat → Option ByteArray
  | 0 => some ob
  | y + 1 => (foldY T nx d t x turned jb ob y).bind fun out => if bits .and .i64 (shr .i64 (rd nx (t : Int)) (y : Int)) 1 = 0 then some out else
    (if turned = true then T d y x else T d x y).bind fun kid => if out.toList = ob.toList then some kid else if out.size ≤ 1000000 ∧ kid.size ≤ 1000000 then some (jb ++ out ++ kid) else none
def someF (T : Nat → Nat → Nat → Option ByteArray) (nx : List Int) (L : List (List Int)) (d s t : Nat) (nb jb ob : ByteArray) (turned : Bool) : Option (ByteArray × Bool) :=
  if (1 ≤ d ∧ d ≤ L.length) ∧ (L.getD (d - 1) []).length = nx.length ∧ s < nx.length ∧ t < nx.length ∧ nx.length ≤ 61 ∧ nb.size ≤ 1 ∧ jb.size ≤ 1 ∧ L.length ≤ 1000 then
    match firstG (goodX nx (L.getD (d - 1) []) s t) nx.length with
    | none => some (⟨#[]⟩, false)
    | some x => (foldY T nx (d - 1) t x turned jb ob nx.length).bind fun out => if out.size ≤ 1000000 then some (nb ++ out, true) else none
  else none
def TellC (nx mk : List Int) (L : List (List Int)) (T : Nat → Nat → Nat → Option ByteArray) : Prop :=
  ∀ (d s t : Nat) (r : ByteArray), T d s t = some r → ∀ (A0 : Option Addr) (c0 : Nat) (A1 : Option Addr) (c1 : Nat) (AL : Option Addr) (cL : Nat) (w : World), Kd.C (Kd.int .i64) w A0 nx.length nx → nx.length ≤ c0 → Kd.C (Kd.int .i64) w A1 mk.length mk → mk.length ≤ c1 → Kd.C (Kd.slice 3 (Kd.int .i64)) w AL L.length L → L.length ≤ cL →
    Calls Try.prog 67 #[.agg #[.slice A0 nx.length c0, .slice A1 mk.length c1], .slice AL L.length cL, .int .i64 d, .int .i64 s, .int .i64 t] w fun e w' => e = .returned (.string r) ∧ Below w.heap.size w w'
theorem rows_at {w : World} {A : Option Addr} {n : Nat} {L : List (List Int)} (h : Kd.C (Kd.slice 3 (Kd.int .i64)) w A n L) (hn : 0 < n) :
    ∃ b off, A = some ⟨b, off, none⟩ ∧ ∀ j, j < n → ∃ A2 c2, w.cell? ⟨b, off + j, none⟩ = some (.slice A2 (L.getD j []).length c2) ∧ (L.getD j []).length ≤ c2 ∧ Kd.C (Kd.int .i64) w A2 (L.getD j []).length (L.getD j []) := by
  have get : ∀ j : Nat, j < n → ∃ ad A2 c2, A = some ad ∧ w.cell? (ad.add j) = some (.slice A2 (L.getD j []).length c2) ∧ (L.getD j []).length ≤ c2 ∧ Kd.C (Kd.int .i64) w A2 (L.getD j []).length (L.getD j []) := by
    intro j hj
    obtain ⟨ad, c, e, _, hK, hc⟩ := Kd.C_get h [] (j : Int) (by omega) (by omega)
    obtain ⟨A2, c2, rfl, hl, hC⟩ := hK
    rw [Int.toNat_natCast] at hl hC hc
    refine ⟨ad, A2, c2, e, ?_, hl, hC⟩
    have := hc 0 _ rfl
    rwa [show (Kd.slice 3 (Kd.int .i64)).sz = 1 from rfl, Nat.mul_one, Nat.add_zero] at this
  obtain ⟨ad, A2, c2, e, hc, _⟩ := get 0 hn
  have hsp : ad.spot = none := by
    cases hs : ad.spot with
    | none => rfl
    | some q =>
      have : w.cell? ad = some (.slice A2 (L.getD 0 []).length c2) := by simpa [Addr.add] using hc
      unfold World.cell? at this
      split at this <;> simp [hs] at this
  refine ⟨ad.block, ad.off, by rw [e, ← hsp], fun j hj => ?_⟩
  obtain ⟨ad1, A3, c3, e1, h1, h2, h3⟩ := get j hj
  obtain rfl : ad = ad1 := by rw [e] at e1; injection e1
  have : ad.add j = ⟨ad.block, ad.off + j, none⟩ := by
    unfold Addr.add
    split
    · rename_i h0; subst h0; rw [← hsp]; simp
    · rfl
  rw [this] at h1
  exact ⟨A3, c3, h1, h2, h3⟩
structure SS (w : World) (gw gt gb : Nat) (A0 A1 A2 AL : Option Addr) (c0 c1 c2 t : Nat) (nx mk bel : List Int) (L : List (List Int)) (wr : World) : Prop where
 below : Below w.heap.size w wr
 box : wr.heap[gw]? = some (.cells #[.slice A0 nx.length c0, .slice A1 mk.length c1] 28 (0, 0))
 tee : wr.heap[gt]? = some (.cells #[.int .i64 (t : Int)] 3 (0, 0))
 low : wr.heap[gb]? = some (.cells #[.slice A2 bel.length c2] 22 (0, 0))
 r0 : Kd.C (Kd.int .i64) wr A0 nx.length nx
 r1 : Kd.C (Kd.int .i64) wr A1 mk.length mk
 r2 : Kd.C (Kd.int .i64) wr A2 bel.length bel
 rL : Kd.C (Kd.slice 3 (Kd.int .i64)) wr AL L.length L
theorem SS.step {w : World} {gw gt gb : Nat} {A0 A1 A2 AL : Option Addr} {c0 c1 c2 t : Nat} {nx mk bel : List Int} {L : List (List Int)} {wr w2 : World} (h : SS w gw gt gb A0 A1 A2 AL c0 c1 c2 t nx mk bel L wr) (hb : Below wr.heap.size wr w2) : SS w gw gt gb A0 A1 A2 AL c0 c1 c2 t nx mk bel L w2 :=
  ⟨bst h.below hb, blk_below h.box hb, blk_below h.tee hb, blk_below h.low hb, Kd.C_below h.r0 hb, Kd.C_below h.r1 hb, Kd.C_below h.r2 hb, Kd.C_below h.rL hb⟩
theorem SS.reads {w : World} {gw gt gb : Nat} {A0 A1 A2 AL : Option Addr} {c0 c1 c2 t : Nat} {nx mk bel : List Int} {L : List (List Int)} {wr : World} (h : SS w gw gt gb A0 A1 A2 AL c0 c1 c2 t nx mk bel L wr) : wr.cell? ⟨gw, 0, none⟩ = some (.slice A0 nx.length c0) ∧ wr.cell? ⟨gw, 1, none⟩ = some (.slice A1 mk.length c1) ∧ wr.cell? ⟨gt, 0, none⟩ = some (.int .i64 (t : Int)) ∧ wr.cell? ⟨gb, 0, none⟩ = some (.slice A2 bel.length c2) :=
  ⟨(blk_cell h.box 0).trans rfl, (blk_cell h.box 1).trans rfl, (blk_cell h.tee 0).trans rfl, (blk_cell h.low 0).trans rfl⟩
theorem info3s : (Try.prog.info? 3).map (·.size) = some 1 := by kernel_rfl
set_option maxRecDepth 100000 in
set_option maxHeartbeats 2000000 in
theorem some_no (nx mk : List Int) (L : List (List Int)) (d s t : Nat) (nb jb ob : ByteArray) (turned : Bool) (A0 : Option Addr) (c0 : Nat) (A1 : Option Addr) (c1 : Nat) (AL : Option Addr) (cL : Nat) (w : World) (hr0 : Kd.C (Kd.int .i64) w A0 nx.length nx) (hc0 : nx.length ≤ c0) (hr1 : Kd.C (Kd.int .i64) w A1 mk.length mk) (hc1 : mk.length ≤ c1) (hrL : Kd.C (Kd.slice 3 (Kd.int .i64)) w AL L.length L) (hcL : L.length ≤ cL)
  (hdL : d < L.length) (hbl : (L.getD d []).length = nx.length) (hs : s < nx.length) (ht : t < nx.length) (h61 : nx.length ≤ 61) (hL : L.length ≤ 1000) (hno : ∀ x, x < nx.length → goodX nx (L.getD d []) s t x = false) :
  Calls Try.prog 84 #[.agg #[.slice A0 nx.length c0, .slice A1 mk.length c1], .slice AL L.length cL, .int .i64 ((d : Int) + 1), .int .i64 s, .int .i64 t, .string nb, .string jb, .string ob, .bool turned] w fun e w' => e = .returned (.tuple #[.string ⟨#[]⟩, .bool false]) ∧ Below w.heap.size w w' := by
 have hu := Try.underlying28
 obtain ⟨bL, oL, rfl, hLc⟩ := rows_at hrL (by omega)
 obtain ⟨A2, c2, hcl, hl2, hC2⟩ := hLc d hdL
 generalize hbe : L.getD d [] = bel at *
 have HBE := Lib.hid hbe
 have HBL := Lib.hid hbl
 have HR0 := Lib.hid hr0
 have HR1 := Lib.hid hr1
 have HRL := Lib.hid hrL
 have HC2 := Lib.hid hC2
 have HNO := Lib.hid hno
 clear hr0 hr1 hrL hC2 hno hLc hbe hbl
 have hd1 : ((d : Int) + 1 - 1) = (d : Int) := by omega
 have eg : ∀ args w, (callFunc 91 args).run Try.prog w = .ok (.enter 91 args) w := enters_of' Try.func91 (by kernel_rfl) rfl
 have EG := Lib.hid eg
 clear eg
 go_enter Try.func84, Try.ntmps84
 go_wp2_with (first | ((with_reducible refine gate_dst (N := 9) rfl ?_); refine box_event ?hg (N := 9) ?hd (cs := #[.slice A0 nx.length c0, .slice A1 mk.length c1]) (t := 28) ?hr ?_; (case hd => rfl); (case hg => rfl); (case hr => first | (go_simp; done) | (go_simp; rfl)); intro gw hgw wa hbw hbb; have HBX := Lib.hid hbw; have HB0 := Lib.hid (bst (Below.refl w.heap.size w) hbb); have k0_ := pwc hbb hcl; clear hgw hbw hbb hcl; have hcl := k0_; clear k0_) | ((with_reducible refine gate_dst (N := 13) rfl ?_); refine box_event ?hg (N := 13) ?hd (cs := #[.int .i64 (t : Int)]) (t := 3) ?hr ?_; (case hd => rfl); (case hg => rfl); (case hr => first | (go_simp; done) | (go_simp; rfl)); intro gt hgt wb hbw hbb; have HBT := Lib.hid hbw; have HB1 := Lib.hid (bst HB0.out hbb); have HBX1 := Lib.hid (blk_below HBX.out hbb); have k0_ := pwc hbb hcl; clear hgt hbw hbb hcl HB0 HBX; have hcl := k0_; clear k0_) | ((with_reducible refine gate_dst (N := 20) rfl ?_); refine box_event ?hg (N := 20) ?hd (cs := #[.slice none 0 0]) (t := 22) ?hr ?_; (case hd => rfl); (case hg => rfl); (case hr => kernel_rfl); intro gb hgb wc hbw hbb; have HGB := Lib.hid (Nat.le_of_eq hgb.symm); have HBB := Lib.hid hbb; have HBL2 := Lib.hid hbw; clear hgb hbw hbb) | ((with_reducible refine gate_op (op := .store 22 (.tmp 20) (.tmp 29)) rfl ?_); refine whole_store_event rfl rfl 22 (.tmp 20) (.tmp 29) rfl (g := gb) (cur := #[.slice none 0 0]) (.slice A2 bel.length c2) [.slice A2 bel.length c2] rfl rfl rfl info22s rfl (by simp [Value.oneCell']) HBL2.out ?_; intro w3 hw3 hk3 hb3; have HB3 := Lib.hid (hb3 _ _ HBB.out HGB.out); have HS0 := Lib.hid (show SS w gw gt gb A0 A1 A2 (some ⟨bL, oL, none⟩) c0 c1 c2 t nx mk bel L w3 from ⟨bst HB1.out HB3.out, blk_below HBX1.out HB3.out, blk_below HBT.out HB3.out, hw3, Kd.C_below HR0.out (bst HB1.out HB3.out), Kd.C_below HR1.out (bst HB1.out HB3.out), Kd.C_below HC2.out (bst HB1.out HB3.out), Kd.C_below HRL.out (bst HB1.out HB3.out)⟩); have hw0 : w3.cell? ⟨gw, 0, none⟩ = some (.slice A0 nx.length c0) := HS0.out.reads.1; clear hw3 hk3 hb3 hcl HBB HBL2 HGB HB3 HB1 HBX1 HBT HR0 HR1 HRL HC2) | fail)
 go_loopw [33] (fun v33 wr => ∃ x : Nat, x ≤ nx.length ∧ v33 = .int .i64 x ∧ Hid (SS w gw gt gb A0 A1 A2 (some ⟨bL, oL, none⟩) c0 c1 c2 t nx mk bel L wr)) (fun v33 _ => nx.length - (intOf v33).toNat)
 case atStart => exact ⟨0, by omega, rfl, HS0⟩
 case round =>
  clear HS0 hw0
  obtain ⟨x, hx, rfl, HS⟩ := hrel
  by_cases hlt : x < nx.length
  ·obtain ⟨b0, o0, rfl, _, hcn⟩ := ints_at HS.out.r0 (by omega)
   clear hcn
   go_wp2_with (first | ((with_reducible refine gate_dst (N := 21) rfl ?_); refine box_event ?hg (N := 21) ?hd (cs := #[.int .i64 0]) (t := 3) ?hr ?_; (case hd => rfl); (case hg => rfl); (case hr => kernel_rfl); intro gx hgx wd hbw hbb; have HGX := Lib.hid (Nat.le_of_eq hgx.symm); have HBB := Lib.hid hbb; have HBX := Lib.hid hbw; clear hgx hbw hbb) | ((with_reducible refine gate_op (op := .store 3 (.tmp 21) (.tmp 35)) rfl ?_); refine whole_store_event rfl rfl 3 (.tmp 21) (.tmp 35) rfl (g := gx) (cur := #[.int .i64 0]) (.int .i64 (x : Int)) [.int .i64 (x : Int)] rfl rfl rfl info3s rfl (by simp [Value.oneCell']) HBX.out ?_; intro w5 hw5 hk5 hb5; have HS5 := Lib.hid (HS.out.step (hb5 _ _ HBB.out HGX.out)); have HX5 := Lib.hid hw5; clear hw5 hk5 hb5 HBB HBX HGX HS) | fail)
   obtain ⟨b0', o0', e0', _, hcn⟩ := ints_at HS5.out.r0 (by omega)
   obtain ⟨rfl, rfl⟩ : b0 = b0' ∧ o0 = o0' := by injection e0' with e0'; injection e0' with e1 e2; exact ⟨e1, e2⟩
   clear e0'
   have q0 := HS5.out.reads.1
   have q1 := HS5.out.reads.2.1
   have q2 := hcn s hs
   have q3 : w5.cell? ⟨gx, 0, none⟩ = some (.int .i64 (x : Int)) := (blk_cell HX5.out 0).trans rfl
   have hx62 : x ≤ 62 := by omega
   have hgd := HNO.out x hlt
   unfold goodX at hgd
   rw [shr_at _ (show x ≤ 64 by omega)] at hgd
   clear hcn
   cases hq : (bits .and .i64 (rd nx (s : Int) / 2 ^ x) 1 == 0) with
   | true =>
    clear hgd
    go_quiet (fail)
    go_wp2_with fail
    go_roundw
    case rel => exact ⟨x + 1, by omega, by go_num, Lib.hid (HS5.out.step (pwd (Below.refl _ _) _))⟩
    case measure => simp [intOf]; omega
   | false =>
    rw [hq] at hgd
    have hwn : (whereTo (meets nx bel t x) nx.length != 0) = true := by
     simp only [Bool.not_false, Bool.true_and] at hgd
     rw [bne, hgd]
     rfl
    have HWN := Lib.hid hwn
    clear hgd hwn
    have HS6 := Lib.hid (HS5.out.step (bd1 (Below.refl w5.heap.size w5)))
    have q4 : w5.drew.cell? ⟨gx, 0, none⟩ = some (.int .i64 (x : Int)) := by simpa using q3
    refine start_ (n := 15) (S := fun w' => w'.cell? ⟨gw, 0, none⟩ = some (.slice (some ⟨b0, o0, none⟩) nx.length c0) ∧ w'.cell? ⟨gw, 1, none⟩ = some (.slice A1 mk.length c1) ∧ w'.cell? ⟨b0, o0 + s, none⟩ = some (.int .i64 (rd nx (s : Int))) ∧ w'.cell? ⟨gx, 0, none⟩ = some (.int .i64 (x : Int))) (ds := []) Mq138 (by kernel_rfl) rfl rfl ⟨by simpa using q0, by simpa using q1, by simpa using q2, by simpa using q3⟩ (fun hHeld => ?_)
    clear q0 q1 q2 q3 HS5 HX5
    generalize w5.drew = wd at HS6 q4 hHeld ⊢
    refine px (v := ?_) (a' := ?_) 0 (some 36) Mq139 ?_ ?_ ?_
    rotate_left;(intro w';go_simp;first | done | with_reducible rfl);rotate_left;(simp only [Act.put, sq];rfl)
    refine take_ (i := 1) (N := (some 37)) (v := ?_) (a' := ?_) Mq140 rfl rfl (by kernel_rfl) (fun _ _ _ h => h) (Or.inl ⟨by rfl, ?_⟩) hHeld ?_ ?_
    rotate_left
    ·rintro w' ⟨s0, s1, s2, s3⟩; go_simp; first | done | with_reducible rfl
    rotate_left
    ·simp only [Act.put, sq]; rfl
    refine px (v := ?_) (a' := ?_) 2 (some 38) Mq141 ?_ ?_ ?_
    rotate_left;(intro w';go_simp;first | done | with_reducible rfl);rotate_left;(simp only [Act.put, sq];rfl)
    refine px (v := ?_) (a' := ?_) 3 (some 39) Mq142 ?_ ?_ ?_
    rotate_left;(intro w';go_simp;first | done | with_reducible rfl);rotate_left;(simp only [Act.put, sq];rfl)
    refine take_ (i := 4) (N := (some 40)) (v := ?_) (a' := ?_) Mq143 rfl rfl (by kernel_rfl) (fun _ _ _ h => h) (Or.inl ⟨by rfl, ?_⟩) hHeld ?_ ?_
    rotate_left
    ·rintro w' ⟨s0, s1, s2, s3⟩; go_simp; first | done | with_reducible rfl
    rotate_left
    ·simp only [Act.put, sq]; rfl
    refine take_ (i := 5) (N := (some 41)) (v := ?_) (a' := ?_) Mq144 rfl rfl (by kernel_rfl) (fun _ _ _ h => h) (Or.inl ⟨by rfl, ?_⟩) hHeld ?_ ?_
    rotate_left
    ·rintro w' ⟨s0, s1, s2, s3⟩; go_simp; first | done | with_reducible rfl
    rotate_left
    ·simp only [Act.put, sq]; rfl
    refine px (v := ?_) (a' := ?_) 6 (some 42) Mq145 ?_ ?_ ?_
    rotate_left;(intro w';go_simp;first | done | with_reducible rfl);rotate_left;(simp only [Act.put, sq];rfl)
    refine px (v := ?_) (a' := ?_) 7 (some 43) Mq146 ?_ ?_ ?_
    rotate_left;(intro w';go_simp;first | done | with_reducible rfl);rotate_left;(simp only [Act.put, sq];rfl)
    refine px (v := ?_) (a' := ?_) 8 (some 44) Mq147 ?_ ?_ ?_
    rotate_left;(intro w';go_simp;first | done | with_reducible rfl);rotate_left;(simp only [Act.put, sq];rfl)
    refine px (v := ?_) (a' := ?_) 9 (some 45) Mq148 ?_ ?_ ?_
    rotate_left;(intro w';go_simp;first | done | with_reducible rfl);rotate_left;(simp only [Act.put, sq];rfl)
    refine take_ (i := 10) (N := (some 46)) (v := ?_) (a' := ?_) Mq149 rfl rfl (by kernel_rfl) (fun _ _ _ h => h) (Or.inl ⟨by rfl, ?_⟩) hHeld ?_ ?_
    rotate_left
    ·rintro w' ⟨s0, s1, s2, s3⟩; go_simp; first | done | with_reducible rfl
    rotate_left
    ·simp only [Act.put, sq]; rfl
    refine px (v := ?_) (a' := ?_) 11 (some 47) Mq150 ?_ ?_ ?_
    rotate_left;(intro w';go_simp;first | done | with_reducible rfl);rotate_left;(simp only [Act.put, sq];rfl)
    refine one_ (i := 12) (N := (some 48)) Mq151 rfl rfl (by kernel_rfl) (by decide) (fun K hK => ?_)
    refine goes_ Try.func55 (by kernel_rfl) rfl #[.agg #[.slice (some ⟨b0, o0, none⟩) nx.length c0, .slice A1 mk.length c1], .func (.func 91) #[] #[.pointer (some ⟨gw, 0, none⟩), .pointer (some ⟨gt, 0, none⟩), .pointer (some ⟨gb, 0, none⟩), .pointer (some ⟨gx, 0, none⟩)]] (by rfl) rfl rfl (by (try simp only [sm]); first | done | rfl) ?_
    refine (where_calls 91 _ EG.out (meets nx bel t x) (some ⟨b0, o0, none⟩) nx.length c0 A1 mk.length c1 wd (by omega) (pred_meets wd gw gt gb gx c0 c2 t x (some ⟨b0, o0, none⟩) A2 nx bel HS6.out.r0 HS6.out.r2 HBL.out HS6.out.reads.1 HS6.out.reads.2.2.1 HS6.out.reads.2.2.2 q4 ht hlt h61)).mono ?_
    rintro e w6 ⟨rfl, hb⟩
    have HS7 := Lib.hid (HS6.out.step hb)
    have k0 := pwc hb hHeld.1
    have k1 := pwc hb hHeld.2.1
    have k2 := pwc hb hHeld.2.2.1
    have k3 := pwc hb hHeld.2.2.2
    refine ⟨_, rfl, ?_⟩
    refine hK.out _ _ ⟨k0, k1, k2, k3⟩ (fun hHeld => ?_)
    clear hK K
    refine norm_ (a' := ?_) ?_ ?_
    rotate_left
    ·show Act.put _ (some 48) _ = _; simp only [Act.put, sq]; rfl
    clear k0 k1 k2 k3 hb HS6 q4
    have hwn := HWN.out
    refine px (v := ?_) (a' := ?_) 13 (some 49) Mq152 ?_ ?_ ?_
    rotate_left;(intro w';go_simp;first | done | with_reducible rfl);rotate_left;(simp only [Act.put, sq];rfl)
    refine px (v := ?_) (a' := ?_) 14 (some 50) Mq153 ?_ ?_ ?_
    rotate_left;(intro w';go_simp;first | done | with_reducible rfl);rotate_left;(simp only [Act.put, sq];rfl)
    refine done_ (by kernel_rfl) ?_
    clear hHeld
    go_wp2_with fail
    go_roundw
    case rel => exact ⟨x + 1, by omega, by go_num, HS7⟩
    case measure => simp [intOf]; omega
  ·obtain rfl : x = nx.length := by omega
   go_wp2_with fail
   go_ret2
   exact ⟨rfl, HS.out.below⟩
end Go.Proofs.Ytjffhhalmicodaa.X
end

section
set_option linter.unusedVariables false
set_option linter.unusedSimpArgs false
namespace Go.Proofs.Ytjffhhalmicodaa.X
open Go.RowKit Go.Proofs.G.PrintWords Go.Proofs.G.PrintLast Go.Proofs.G.PrintMore
theorem foldY_prefix {T : Nat → Nat → Nat → Option ByteArray} {nx : List Int} {d t x : Nat} {turned : Bool} {jb ob : ByteArray} : ∀ (n : Nat) (r : ByteArray), foldY T nx d t x turned jb ob n = some r → ∀ y, y ≤ n → ∃ o, foldY T nx d t x turned jb ob y = some o := by
 intro n
 induction n with
 | zero =>
  intro r h y hy
  obtain rfl : y = 0 := by omega
  exact ⟨r, h⟩
 | succ n ih =>
  intro r h y hy
  by_cases e : y = n + 1
  ·exact ⟨r, e ▸ h⟩
  ·rw [foldY] at h
   obtain ⟨o, ho, _⟩ := Option.bind_eq_some_iff.mp h
   exact ih o ho y (by omega)
set_option maxRecDepth 100000 in
set_option maxHeartbeats 4000000 in
theorem some_yes (nx mk : List Int) (L : List (List Int)) (d s t : Nat) (nb jb ob : ByteArray) (turned : Bool) (A0 : Option Addr) (c0 : Nat) (A1 : Option Addr) (c1 : Nat) (AL : Option Addr) (cL : Nat) (w : World) (hr0 : Kd.C (Kd.int .i64) w A0 nx.length nx) (hc0 : nx.length ≤ c0) (hr1 : Kd.C (Kd.int .i64) w A1 mk.length mk) (hc1 : mk.length ≤ c1) (hrL : Kd.C (Kd.slice 3 (Kd.int .i64)) w AL L.length L) (hcL : L.length ≤ cL)
  (hdL : d < L.length) (hbl : (L.getD d []).length = nx.length) (hs : s < nx.length) (ht : t < nx.length) (h61 : nx.length ≤ 61) (hL : L.length ≤ 1000) (T : Nat → Nat → Nat → Option ByteArray) (IH : TellC nx mk L T) (x0 : Nat) (hx0 : x0 < nx.length) (hyes : goodX nx (L.getD d []) s t x0 = true) (hno : ∀ x, x < x0 → goodX nx (L.getD d []) s t x = false) (res : ByteArray) (hfold : foldY T nx d t x0 turned jb ob nx.length = some res) (hnb : nb.size ≤ 1) (hjb : jb.size ≤ 1) (hres : res.size ≤ 1000000) :
  Calls Try.prog 84 #[.agg #[.slice A0 nx.length c0, .slice A1 mk.length c1], .slice AL L.length cL, .int .i64 ((d : Int) + 1), .int .i64 s, .int .i64 t, .string nb, .string jb, .string ob, .bool turned] w fun e w' => e = .returned (.tuple #[.string (nb ++ res), .bool true]) ∧ Below w.heap.size w w' := by
 have hu := Try.underlying28
 obtain ⟨bL, oL, rfl, hLc⟩ := rows_at hrL (by omega)
 obtain ⟨A2, c2, hcl, hl2, hC2⟩ := hLc d hdL
 generalize hbe : L.getD d [] = bel at *
 have HBE := Lib.hid hbe
 have HBL := Lib.hid hbl
 have HR0 := Lib.hid hr0
 have HR1 := Lib.hid hr1
 have HRL := Lib.hid hrL
 have HC2 := Lib.hid hC2
 have HNO := Lib.hid hno
 have HYES := Lib.hid hyes
 have HFOLD := Lib.hid hfold
 have HIH := Lib.hid IH
 clear hyes hfold IH
 clear hr0 hr1 hrL hC2 hno hLc hbe hbl
 have hd1 : ((d : Int) + 1 - 1) = (d : Int) := by omega
 have eg : ∀ args w, (callFunc 91 args).run Try.prog w = .ok (.enter 91 args) w := enters_of' Try.func91 (by kernel_rfl) rfl
 have EG := Lib.hid eg
 clear eg
 go_enter Try.func84, Try.ntmps84
 go_wp2_with (first | ((with_reducible refine gate_dst (N := 9) rfl ?_); refine box_event ?hg (N := 9) ?hd (cs := #[.slice A0 nx.length c0, .slice A1 mk.length c1]) (t := 28) ?hr ?_; (case hd => rfl); (case hg => rfl); (case hr => first | (go_simp; done) | (go_simp; rfl)); intro gw hgw wa hbw hbb; have HBX := Lib.hid hbw; have HB0 := Lib.hid (bst (Below.refl w.heap.size w) hbb); have k0_ := pwc hbb hcl; clear hgw hbw hbb hcl; have hcl := k0_; clear k0_) | ((with_reducible refine gate_dst (N := 13) rfl ?_); refine box_event ?hg (N := 13) ?hd (cs := #[.int .i64 (t : Int)]) (t := 3) ?hr ?_; (case hd => rfl); (case hg => rfl); (case hr => first | (go_simp; done) | (go_simp; rfl)); intro gt hgt wb hbw hbb; have HBT := Lib.hid hbw; have HB1 := Lib.hid (bst HB0.out hbb); have HBX1 := Lib.hid (blk_below HBX.out hbb); have k0_ := pwc hbb hcl; clear hgt hbw hbb hcl HB0 HBX; have hcl := k0_; clear k0_) | ((with_reducible refine gate_dst (N := 20) rfl ?_); refine box_event ?hg (N := 20) ?hd (cs := #[.slice none 0 0]) (t := 22) ?hr ?_; (case hd => rfl); (case hg => rfl); (case hr => kernel_rfl); intro gb hgb wc hbw hbb; have HGB := Lib.hid (Nat.le_of_eq hgb.symm); have HBB := Lib.hid hbb; have HBL2 := Lib.hid hbw; clear hgb hbw hbb) | ((with_reducible refine gate_op (op := .store 22 (.tmp 20) (.tmp 29)) rfl ?_); refine whole_store_event rfl rfl 22 (.tmp 20) (.tmp 29) rfl (g := gb) (cur := #[.slice none 0 0]) (.slice A2 bel.length c2) [.slice A2 bel.length c2] rfl rfl rfl info22s rfl (by simp [Value.oneCell']) HBL2.out ?_; intro w3 hw3 hk3 hb3; have HB3 := Lib.hid (hb3 _ _ HBB.out HGB.out); have HS0 := Lib.hid (show SS w gw gt gb A0 A1 A2 (some ⟨bL, oL, none⟩) c0 c1 c2 t nx mk bel L w3 from ⟨bst HB1.out HB3.out, blk_below HBX1.out HB3.out, blk_below HBT.out HB3.out, hw3, Kd.C_below HR0.out (bst HB1.out HB3.out), Kd.C_below HR1.out (bst HB1.out HB3.out), Kd.C_below HC2.out (bst HB1.out HB3.out), Kd.C_below HRL.out (bst HB1.out HB3.out)⟩); have hw0 : w3.cell? ⟨gw, 0, none⟩ = some (.slice A0 nx.length c0) := HS0.out.reads.1; clear hw3 hk3 hb3 hcl HBB HBL2 HGB HB3 HB1 HBX1 HBT HR0 HR1 HRL HC2) | fail)
 go_loopw [33] (fun v33 wr => ∃ x : Nat, x ≤ x0 ∧ v33 = .int .i64 x ∧ Hid (SS w gw gt gb A0 A1 A2 (some ⟨bL, oL, none⟩) c0 c1 c2 t nx mk bel L wr)) (fun v33 _ => nx.length - (intOf v33).toNat)
 case atStart => exact ⟨0, by omega, rfl, HS0⟩
 case round =>
  clear HS0 hw0
  obtain ⟨x, hx, rfl, HS⟩ := hrel
  by_cases hlt0 : x < x0
  ·have hlt : x < nx.length := by omega
   obtain ⟨b0, o0, rfl, _, hcn⟩ := ints_at HS.out.r0 (by omega)
   clear hcn
   go_wp2_with (first | ((with_reducible refine gate_dst (N := 21) rfl ?_); refine box_event ?hg (N := 21) ?hd (cs := #[.int .i64 0]) (t := 3) ?hr ?_; (case hd => rfl); (case hg => rfl); (case hr => kernel_rfl); intro gx hgx wd hbw hbb; have HGX := Lib.hid (Nat.le_of_eq hgx.symm); have HBB := Lib.hid hbb; have HBX := Lib.hid hbw; clear hgx hbw hbb) | ((with_reducible refine gate_op (op := .store 3 (.tmp 21) (.tmp 35)) rfl ?_); refine whole_store_event rfl rfl 3 (.tmp 21) (.tmp 35) rfl (g := gx) (cur := #[.int .i64 0]) (.int .i64 (x : Int)) [.int .i64 (x : Int)] rfl rfl rfl info3s rfl (by simp [Value.oneCell']) HBX.out ?_; intro w5 hw5 hk5 hb5; have HS5 := Lib.hid (HS.out.step (hb5 _ _ HBB.out HGX.out)); have HX5 := Lib.hid hw5; clear hw5 hk5 hb5 HBB HBX HGX HS) | fail)
   obtain ⟨b0', o0', e0', _, hcn⟩ := ints_at HS5.out.r0 (by omega)
   obtain ⟨rfl, rfl⟩ : b0 = b0' ∧ o0 = o0' := by injection e0' with e0'; injection e0' with e1 e2; exact ⟨e1, e2⟩
   clear e0'
   have q0 := HS5.out.reads.1
   have q1 := HS5.out.reads.2.1
   have q2 := hcn s hs
   have q3 : w5.cell? ⟨gx, 0, none⟩ = some (.int .i64 (x : Int)) := (blk_cell HX5.out 0).trans rfl
   have hx62 : x ≤ 62 := by omega
   have hgd := HNO.out x hlt0
   unfold goodX at hgd
   rw [shr_at _ (show x ≤ 64 by omega)] at hgd
   clear hcn
   cases hq : (bits .and .i64 (rd nx (s : Int) / 2 ^ x) 1 == 0) with
   | true =>
    clear hgd
    go_quiet (fail)
    go_wp2_with fail
    go_roundw
    case rel => exact ⟨x + 1, by omega, by go_num, Lib.hid (HS5.out.step (pwd (Below.refl _ _) _))⟩
    case measure => simp [intOf]; omega
   | false =>
    rw [hq] at hgd
    have hwn : (whereTo (meets nx bel t x) nx.length != 0) = true := by
     simp only [Bool.not_false, Bool.true_and] at hgd
     rw [bne, hgd]
     rfl
    have HWN := Lib.hid hwn
    clear hgd hwn
    have HS6 := Lib.hid (HS5.out.step (bd1 (Below.refl w5.heap.size w5)))
    have q4 : w5.drew.cell? ⟨gx, 0, none⟩ = some (.int .i64 (x : Int)) := by simpa using q3
    refine start_ (n := 15) (S := fun w' => w'.cell? ⟨gw, 0, none⟩ = some (.slice (some ⟨b0, o0, none⟩) nx.length c0) ∧ w'.cell? ⟨gw, 1, none⟩ = some (.slice A1 mk.length c1) ∧ w'.cell? ⟨b0, o0 + s, none⟩ = some (.int .i64 (rd nx (s : Int))) ∧ w'.cell? ⟨gx, 0, none⟩ = some (.int .i64 (x : Int))) (ds := []) Mq138 (by kernel_rfl) rfl rfl ⟨by simpa using q0, by simpa using q1, by simpa using q2, by simpa using q3⟩ (fun hHeld => ?_)
    clear q0 q1 q2 q3 HS5 HX5
    generalize w5.drew = wd at HS6 q4 hHeld ⊢
    refine px (v := ?_) (a' := ?_) 0 (some 36) Mq139 ?_ ?_ ?_
    rotate_left;(intro w';go_simp;first | done | with_reducible rfl);rotate_left;(simp only [Act.put, sq];rfl)
    refine take_ (i := 1) (N := (some 37)) (v := ?_) (a' := ?_) Mq140 rfl rfl (by kernel_rfl) (fun _ _ _ h => h) (Or.inl ⟨by rfl, ?_⟩) hHeld ?_ ?_
    rotate_left
    ·rintro w' ⟨s0, s1, s2, s3⟩; go_simp; first | done | with_reducible rfl
    rotate_left
    ·simp only [Act.put, sq]; rfl
    refine px (v := ?_) (a' := ?_) 2 (some 38) Mq141 ?_ ?_ ?_
    rotate_left;(intro w';go_simp;first | done | with_reducible rfl);rotate_left;(simp only [Act.put, sq];rfl)
    refine px (v := ?_) (a' := ?_) 3 (some 39) Mq142 ?_ ?_ ?_
    rotate_left;(intro w';go_simp;first | done | with_reducible rfl);rotate_left;(simp only [Act.put, sq];rfl)
    refine take_ (i := 4) (N := (some 40)) (v := ?_) (a' := ?_) Mq143 rfl rfl (by kernel_rfl) (fun _ _ _ h => h) (Or.inl ⟨by rfl, ?_⟩) hHeld ?_ ?_
    rotate_left
    ·rintro w' ⟨s0, s1, s2, s3⟩; go_simp; first | done | with_reducible rfl
    rotate_left
    ·simp only [Act.put, sq]; rfl
    refine take_ (i := 5) (N := (some 41)) (v := ?_) (a' := ?_) Mq144 rfl rfl (by kernel_rfl) (fun _ _ _ h => h) (Or.inl ⟨by rfl, ?_⟩) hHeld ?_ ?_
    rotate_left
    ·rintro w' ⟨s0, s1, s2, s3⟩; go_simp; first | done | with_reducible rfl
    rotate_left
    ·simp only [Act.put, sq]; rfl
    refine px (v := ?_) (a' := ?_) 6 (some 42) Mq145 ?_ ?_ ?_
    rotate_left;(intro w';go_simp;first | done | with_reducible rfl);rotate_left;(simp only [Act.put, sq];rfl)
    refine px (v := ?_) (a' := ?_) 7 (some 43) Mq146 ?_ ?_ ?_
    rotate_left;(intro w';go_simp;first | done | with_reducible rfl);rotate_left;(simp only [Act.put, sq];rfl)
    refine px (v := ?_) (a' := ?_) 8 (some 44) Mq147 ?_ ?_ ?_
    rotate_left;(intro w';go_simp;first | done | with_reducible rfl);rotate_left;(simp only [Act.put, sq];rfl)
    refine px (v := ?_) (a' := ?_) 9 (some 45) Mq148 ?_ ?_ ?_
    rotate_left;(intro w';go_simp;first | done | with_reducible rfl);rotate_left;(simp only [Act.put, sq];rfl)
    refine take_ (i := 10) (N := (some 46)) (v := ?_) (a' := ?_) Mq149 rfl rfl (by kernel_rfl) (fun _ _ _ h => h) (Or.inl ⟨by rfl, ?_⟩) hHeld ?_ ?_
    rotate_left
    ·rintro w' ⟨s0, s1, s2, s3⟩; go_simp; first | done | with_reducible rfl
    rotate_left
    ·simp only [Act.put, sq]; rfl
    refine px (v := ?_) (a' := ?_) 11 (some 47) Mq150 ?_ ?_ ?_
    rotate_left;(intro w';go_simp;first | done | with_reducible rfl);rotate_left;(simp only [Act.put, sq];rfl)
    refine one_ (i := 12) (N := (some 48)) Mq151 rfl rfl (by kernel_rfl) (by decide) (fun K hK => ?_)
    refine goes_ Try.func55 (by kernel_rfl) rfl #[.agg #[.slice (some ⟨b0, o0, none⟩) nx.length c0, .slice A1 mk.length c1], .func (.func 91) #[] #[.pointer (some ⟨gw, 0, none⟩), .pointer (some ⟨gt, 0, none⟩), .pointer (some ⟨gb, 0, none⟩), .pointer (some ⟨gx, 0, none⟩)]] (by rfl) rfl rfl (by (try simp only [sm]); first | done | rfl) ?_
    refine (where_calls 91 _ EG.out (meets nx bel t x) (some ⟨b0, o0, none⟩) nx.length c0 A1 mk.length c1 wd (by omega) (pred_meets wd gw gt gb gx c0 c2 t x (some ⟨b0, o0, none⟩) A2 nx bel HS6.out.r0 HS6.out.r2 HBL.out HS6.out.reads.1 HS6.out.reads.2.2.1 HS6.out.reads.2.2.2 q4 ht hlt h61)).mono ?_
    rintro e w6 ⟨rfl, hb⟩
    have HS7 := Lib.hid (HS6.out.step hb)
    have k0 := pwc hb hHeld.1
    have k1 := pwc hb hHeld.2.1
    have k2 := pwc hb hHeld.2.2.1
    have k3 := pwc hb hHeld.2.2.2
    refine ⟨_, rfl, ?_⟩
    refine hK.out _ _ ⟨k0, k1, k2, k3⟩ (fun hHeld => ?_)
    clear hK K
    refine norm_ (a' := ?_) ?_ ?_
    rotate_left
    ·show Act.put _ (some 48) _ = _; simp only [Act.put, sq]; rfl
    clear k0 k1 k2 k3 hb HS6 q4
    have hwn := HWN.out
    refine px (v := ?_) (a' := ?_) 13 (some 49) Mq152 ?_ ?_ ?_
    rotate_left;(intro w';go_simp;first | done | with_reducible rfl);rotate_left;(simp only [Act.put, sq];rfl)
    refine px (v := ?_) (a' := ?_) 14 (some 50) Mq153 ?_ ?_ ?_
    rotate_left;(intro w';go_simp;first | done | with_reducible rfl);rotate_left;(simp only [Act.put, sq];rfl)
    refine done_ (by kernel_rfl) ?_
    clear hHeld
    go_wp2_with fail
    go_roundw
    case rel => exact ⟨x + 1, by omega, by go_num, HS7⟩
    case measure => simp [intOf]; omega
  ·obtain rfl : x = x0 := by omega
   have hlt := hx0
   obtain ⟨b0, o0, rfl, _, hcn⟩ := ints_at HS.out.r0 (by omega)
   clear hcn
   go_wp2_with (first | ((with_reducible refine gate_dst (N := 21) rfl ?_); refine box_event ?hg (N := 21) ?hd (cs := #[.int .i64 0]) (t := 3) ?hr ?_; (case hd => rfl); (case hg => rfl); (case hr => kernel_rfl); intro gx hgx wd hbw hbb; have HGX := Lib.hid (Nat.le_of_eq hgx.symm); have HBB := Lib.hid hbb; have HBX := Lib.hid hbw; clear hgx hbw hbb) | ((with_reducible refine gate_op (op := .store 3 (.tmp 21) (.tmp 35)) rfl ?_); refine whole_store_event rfl rfl 3 (.tmp 21) (.tmp 35) rfl (g := gx) (cur := #[.int .i64 0]) (.int .i64 (x : Int)) [.int .i64 (x : Int)] rfl rfl rfl info3s rfl (by simp [Value.oneCell']) HBX.out ?_; intro w5 hw5 hk5 hb5; have HS5 := Lib.hid (HS.out.step (hb5 _ _ HBB.out HGX.out)); have HX5 := Lib.hid hw5; clear hw5 hk5 hb5 HBB HBX HGX HS) | fail)
   obtain ⟨b0', o0', e0', _, hcn⟩ := ints_at HS5.out.r0 (by omega)
   obtain ⟨rfl, rfl⟩ : b0 = b0' ∧ o0 = o0' := by injection e0' with e0'; injection e0' with e1 e2; exact ⟨e1, e2⟩
   clear e0'
   have q0 := HS5.out.reads.1
   have q1 := HS5.out.reads.2.1
   have q2 := hcn s hs
   have q3 : w5.cell? ⟨gx, 0, none⟩ = some (.int .i64 (x : Int)) := (blk_cell HX5.out 0).trans rfl
   have hx62 : x ≤ 62 := by omega
   have hgd := HYES.out
   unfold goodX at hgd
   rw [shr_at _ (show x ≤ 64 by omega), Bool.and_eq_true, Bool.not_eq_true'] at hgd
   obtain ⟨hq, hwz⟩ := hgd
   have hwn : (whereTo (meets nx bel t x) nx.length != 0) = false := by rw [bne, hwz]; rfl
   have HWN := Lib.hid hwn
   clear hcn hwz hwn
   have HS6 := Lib.hid (HS5.out.step (bd1 (Below.refl w5.heap.size w5)))
   have q4 : w5.drew.cell? ⟨gx, 0, none⟩ = some (.int .i64 (x : Int)) := by simpa using q3
   refine start_ (n := 15) (S := fun w' => w'.cell? ⟨gw, 0, none⟩ = some (.slice (some ⟨b0, o0, none⟩) nx.length c0) ∧ w'.cell? ⟨gw, 1, none⟩ = some (.slice A1 mk.length c1) ∧ w'.cell? ⟨b0, o0 + s, none⟩ = some (.int .i64 (rd nx (s : Int))) ∧ w'.cell? ⟨gx, 0, none⟩ = some (.int .i64 (x : Int))) (ds := []) Mq138 (by kernel_rfl) rfl rfl ⟨by simpa using q0, by simpa using q1, by simpa using q2, by simpa using q3⟩ (fun hHeld => ?_)
   have HX6 := Lib.hid (show w5.drew.heap[gx]? = some (.cells #[.int .i64 (x : Int)] 3 (0, 0)) from HX5.out)
   clear q0 q1 q2 q3 HS5 HX5
   generalize w5.drew = wd at HS6 HX6 q4 hHeld ⊢
   refine px (v := ?_) (a' := ?_) 0 (some 36) Mq139 ?_ ?_ ?_
   rotate_left;(intro w';go_simp;first | done | with_reducible rfl);rotate_left;(simp only [Act.put, sq];rfl)
   refine take_ (i := 1) (N := (some 37)) (v := ?_) (a' := ?_) Mq140 rfl rfl (by kernel_rfl) (fun _ _ _ h => h) (Or.inl ⟨by rfl, ?_⟩) hHeld ?_ ?_
   rotate_left
   ·rintro w' ⟨s0, s1, s2, s3⟩; go_simp; first | done | with_reducible rfl
   rotate_left
   ·simp only [Act.put, sq]; rfl
   refine px (v := ?_) (a' := ?_) 2 (some 38) Mq141 ?_ ?_ ?_
   rotate_left;(intro w';go_simp;first | done | with_reducible rfl);rotate_left;(simp only [Act.put, sq];rfl)
   refine px (v := ?_) (a' := ?_) 3 (some 39) Mq142 ?_ ?_ ?_
   rotate_left;(intro w';go_simp;first | done | with_reducible rfl);rotate_left;(simp only [Act.put, sq];rfl)
   refine take_ (i := 4) (N := (some 40)) (v := ?_) (a' := ?_) Mq143 rfl rfl (by kernel_rfl) (fun _ _ _ h => h) (Or.inl ⟨by rfl, ?_⟩) hHeld ?_ ?_
   rotate_left
   ·rintro w' ⟨s0, s1, s2, s3⟩; go_simp; first | done | with_reducible rfl
   rotate_left
   ·simp only [Act.put, sq]; rfl
   refine take_ (i := 5) (N := (some 41)) (v := ?_) (a' := ?_) Mq144 rfl rfl (by kernel_rfl) (fun _ _ _ h => h) (Or.inl ⟨by rfl, ?_⟩) hHeld ?_ ?_
   rotate_left
   ·rintro w' ⟨s0, s1, s2, s3⟩; go_simp; first | done | with_reducible rfl
   rotate_left
   ·simp only [Act.put, sq]; rfl
   refine px (v := ?_) (a' := ?_) 6 (some 42) Mq145 ?_ ?_ ?_
   rotate_left;(intro w';go_simp;first | done | with_reducible rfl);rotate_left;(simp only [Act.put, sq];rfl)
   refine px (v := ?_) (a' := ?_) 7 (some 43) Mq146 ?_ ?_ ?_
   rotate_left;(intro w';go_simp;first | done | with_reducible rfl);rotate_left;(simp only [Act.put, sq];rfl)
   refine px (v := ?_) (a' := ?_) 8 (some 44) Mq147 ?_ ?_ ?_
   rotate_left;(intro w';go_simp;first | done | with_reducible rfl);rotate_left;(simp only [Act.put, sq];rfl)
   refine px (v := ?_) (a' := ?_) 9 (some 45) Mq148 ?_ ?_ ?_
   rotate_left;(intro w';go_simp;first | done | with_reducible rfl);rotate_left;(simp only [Act.put, sq];rfl)
   refine take_ (i := 10) (N := (some 46)) (v := ?_) (a' := ?_) Mq149 rfl rfl (by kernel_rfl) (fun _ _ _ h => h) (Or.inl ⟨by rfl, ?_⟩) hHeld ?_ ?_
   rotate_left
   ·rintro w' ⟨s0, s1, s2, s3⟩; go_simp; first | done | with_reducible rfl
   rotate_left
   ·simp only [Act.put, sq]; rfl
   refine px (v := ?_) (a' := ?_) 11 (some 47) Mq150 ?_ ?_ ?_
   rotate_left;(intro w';go_simp;first | done | with_reducible rfl);rotate_left;(simp only [Act.put, sq];rfl)
   refine one_ (i := 12) (N := (some 48)) Mq151 rfl rfl (by kernel_rfl) (by decide) (fun K hK => ?_)
   refine goes_ Try.func55 (by kernel_rfl) rfl #[.agg #[.slice (some ⟨b0, o0, none⟩) nx.length c0, .slice A1 mk.length c1], .func (.func 91) #[] #[.pointer (some ⟨gw, 0, none⟩), .pointer (some ⟨gt, 0, none⟩), .pointer (some ⟨gb, 0, none⟩), .pointer (some ⟨gx, 0, none⟩)]] (by rfl) rfl rfl (by (try simp only [sm]); first | done | rfl) ?_
   refine (where_calls 91 _ EG.out (meets nx bel t x) (some ⟨b0, o0, none⟩) nx.length c0 A1 mk.length c1 wd (by omega) (pred_meets wd gw gt gb gx c0 c2 t x (some ⟨b0, o0, none⟩) A2 nx bel HS6.out.r0 HS6.out.r2 HBL.out HS6.out.reads.1 HS6.out.reads.2.2.1 HS6.out.reads.2.2.2 q4 ht hlt h61)).mono ?_
   rintro e w6 ⟨rfl, hb⟩
   have HS7 := Lib.hid (HS6.out.step hb)
   have HX7 := Lib.hid (blk_below HX6.out hb)
   have k0 := pwc hb hHeld.1
   have k1 := pwc hb hHeld.2.1
   have k2 := pwc hb hHeld.2.2.1
   have k3 := pwc hb hHeld.2.2.2
   refine ⟨_, rfl, ?_⟩
   refine hK.out _ _ ⟨k0, k1, k2, k3⟩ (fun hHeld => ?_)
   clear hK K
   refine norm_ (a' := ?_) ?_ ?_
   rotate_left
   ·show Act.put _ (some 48) _ = _; simp only [Act.put, sq]; rfl
   clear k0 k1 k2 k3 hb HS6 HX6 q4
   have hwn := HWN.out
   refine px (v := ?_) (a' := ?_) 13 (some 49) Mq152 ?_ ?_ ?_
   rotate_left;(intro w';go_simp;first | done | with_reducible rfl);rotate_left;(simp only [Act.put, sq];rfl)
   refine px (v := ?_) (a' := ?_) 14 (some 50) Mq153 ?_ ?_ ?_
   rotate_left;(intro w';go_simp;first | done | with_reducible rfl);rotate_left;(simp only [Act.put, sq];rfl)
   refine done_ (by kernel_rfl) ?_
   clear hHeld
   have q0 := HS7.out.reads.1
   go_wp2_with fail
   clear q0 hq hwn
   obtain ⟨wo, rfl⟩ : ∃ wo : World, wo = w6 := ⟨_, rfl⟩
   go_loopw [22, 55] (fun v22 v55 wr => ∃ (y : Nat) (out : ByteArray), y ≤ nx.length ∧ v55 = .int .i64 y ∧ v22 = .string out ∧ Hid (foldY T nx d t x turned jb ob y = some out) ∧ Hid (SS w gw gt gb (some ⟨b0, o0, none⟩) A1 A2 (some ⟨bL, oL, none⟩) c0 c1 c2 t nx mk bel L wr) ∧ Hid (wr.heap[gx]? = some (.cells #[.int .i64 (x : Int)] 3 (0, 0)))) (fun _ v55 _ => nx.length - (intOf v55).toNat)
   case atStart => exact ⟨0, ob, by omega, rfl, rfl, Lib.hid rfl, HS7, HX7⟩
   case round =>
    clear HS7 HX7
    obtain ⟨y, out, hy, rfl, rfl, HF, HSI, HXI⟩ := hrel
    by_cases hyl : y < nx.length
    ·obtain ⟨o2, ho2⟩ := foldY_prefix _ _ HFOLD.out (y + 1) (by omega)
     have HN := Lib.hid ho2
     rw [foldY, HF.out, Option.bind_some, shr_at _ (show y ≤ 64 by omega)] at ho2
     have r0 := HSI.out.reads.1
     have r1 := HSI.out.reads.2.1
     have r2 := HSI.out.reads.2.2.1
     obtain ⟨b0', o0', e0', _, hcn⟩ := ints_at HSI.out.r0 (by omega)
     obtain ⟨rfl, rfl⟩ : b0 = b0' ∧ o0 = o0' := by injection e0' with e0'; injection e0' with e1 e2; exact ⟨e1, e2⟩
     clear e0'
     have r3 := hcn t ht
     have r4 : wr.cell? ⟨gx, 0, none⟩ = some (.int .i64 (x : Int)) := (blk_cell HXI.out 0).trans rfl
     have hy62 : y ≤ 62 := by omega
     clear hcn
     by_cases hbz : bits .and .i64 (rd nx (t : Int) / 2 ^ y) 1 = 0
     ·rw [if_pos hbz] at ho2
      injection ho2 with ho2
      subst ho2
      have e1 : (bits .and .i64 (rd nx (t : Int) / 2 ^ y) 1 == 0) = true := beq_iff_eq.2 hbz
      clear hbz
      go_wp2_with fail
      go_roundw
      case rel => exact ⟨y + 1, out, by omega, by go_num, rfl, HN, HSI, HXI⟩
      case measure => simp [intOf]; omega
     ·rw [if_neg hbz] at ho2
      have e0 : (bits .and .i64 (rd nx (t : Int) / 2 ^ y) 1 == 0) = false := beq_eq_false_iff_ne.2 hbz
      clear hbz
      obtain ⟨kid, hk1, hk2⟩ := Option.bind_eq_some_iff.mp ho2
      clear ho2
      cases turned with
      | false =>
       have hkid : T d x y = some kid := by simpa using hk1
       have HKID := Lib.hid hkid
       clear hkid
       go_wp2_with fail
       refine (HIH.out d x y kid HKID.out (some ⟨b0, o0, none⟩) c0 A1 c1 (some ⟨bL, oL, none⟩) cL wr HSI.out.r0 hc0 HSI.out.r1 hc1 HSI.out.rL hcL).mono ?_
       rintro e w8 ⟨rfl, hb⟩
       have HS8 := Lib.hid (HSI.out.step hb)
       have HX8 := Lib.hid (blk_below HXI.out hb)
       clear hb r0 r1 r2 r3 r4 HSI HXI HKID
       by_cases ho : out.toList = ob.toList
       ·rw [if_pos ho] at hk2
        injection hk2 with hk2
        subst hk2
        have e1 : (out.toList == ob.toList) = true := beq_iff_eq.mpr ho
        have HO := Lib.hid ho
        clear ho
        go_wp2_with fail
        go_roundw
        case rel => exact ⟨y + 1, kid, by omega, by go_num, rfl, HN, HS8, HX8⟩
        case measure => simp [intOf]; omega
       ·rw [if_neg ho] at hk2
        have e1 : (out.toList == ob.toList) = false := beq_eq_false_iff_ne.mpr ho
        have hsz : out.size ≤ 1000000 ∧ kid.size ≤ 1000000 := by
         by_cases q : out.size ≤ 1000000 ∧ kid.size ≤ 1000000
         ·exact q
         ·rw [if_neg q] at hk2; cases hk2
        rw [if_pos hsz] at hk2
        injection hk2 with hk2
        have z1 : (9223372036854775807 < jb.size + out.size) = False := eq_false (by omega)
        have z2 : (9223372036854775807 < jb.size + out.size + kid.size) = False := eq_false (by omega)
        have z3 : (9223372036854775807 < (jb ++ out).size + kid.size) = False := eq_false (by rw [ByteArray.size_append]; omega)
        have HO2 := Lib.hid hk2
        clear ho hk2 hsz
        go_wp2_with fail
        go_roundw
        case rel => exact ⟨y + 1, jb ++ out ++ kid, by omega, by go_num, rfl, Lib.hid (by rw [HN.out, HO2.out]), HS8, HX8⟩
        case measure => simp [intOf]; omega
      | true =>
       have hkid : T d y x = some kid := by simpa using hk1
       have HKID := Lib.hid hkid
       clear hkid
       go_wp2_with fail
       refine (HIH.out d y x kid HKID.out (some ⟨b0, o0, none⟩) c0 A1 c1 (some ⟨bL, oL, none⟩) cL wr HSI.out.r0 hc0 HSI.out.r1 hc1 HSI.out.rL hcL).mono ?_
       rintro e w8 ⟨rfl, hb⟩
       have HS8 := Lib.hid (HSI.out.step hb)
       have HX8 := Lib.hid (blk_below HXI.out hb)
       clear hb r0 r1 r2 r3 r4 HSI HXI HKID
       by_cases ho : out.toList = ob.toList
       ·rw [if_pos ho] at hk2
        injection hk2 with hk2
        subst hk2
        have e1 : (out.toList == ob.toList) = true := beq_iff_eq.mpr ho
        have HO := Lib.hid ho
        clear ho
        go_wp2_with fail
        go_roundw
        case rel => exact ⟨y + 1, kid, by omega, by go_num, rfl, HN, HS8, HX8⟩
        case measure => simp [intOf]; omega
       ·rw [if_neg ho] at hk2
        have e1 : (out.toList == ob.toList) = false := beq_eq_false_iff_ne.mpr ho
        have hsz : out.size ≤ 1000000 ∧ kid.size ≤ 1000000 := by
         by_cases q : out.size ≤ 1000000 ∧ kid.size ≤ 1000000
         ·exact q
         ·rw [if_neg q] at hk2; cases hk2
        rw [if_pos hsz] at hk2
        injection hk2 with hk2
        have z1 : (9223372036854775807 < jb.size + out.size) = False := eq_false (by omega)
        have z2 : (9223372036854775807 < jb.size + out.size + kid.size) = False := eq_false (by omega)
        have z3 : (9223372036854775807 < (jb ++ out).size + kid.size) = False := eq_false (by rw [ByteArray.size_append]; omega)
        have HO2 := Lib.hid hk2
        clear ho hk2 hsz
        go_wp2_with fail
        go_roundw
        case rel => exact ⟨y + 1, jb ++ out ++ kid, by omega, by go_num, rfl, Lib.hid (by rw [HN.out, HO2.out]), HS8, HX8⟩
        case measure => simp [intOf]; omega
    ·obtain rfl : y = nx.length := by omega
     have hor : out = res := by
      have := HF.out
      rw [HFOLD.out] at this
      injection this with this
      exact this.symm
     subst hor
     have z1 : (9223372036854775807 < nb.size + out.size) = False := eq_false (by omega)
     go_wp2_with fail
     go_ret2
     exact ⟨rfl, HSI.out.below⟩
end Go.Proofs.Ytjffhhalmicodaa.X
end

section
set_option linter.unusedVariables false
set_option linter.unusedSimpArgs false
namespace Go.Proofs.Ytjffhhalmicodaa.X
open Go.RowKit Go.Proofs.G.PrintWords Go.Proofs.G.PrintLast Go.Proofs.G.PrintMore
theorem some_calls {nx mk : List Int} {L : List (List Int)} {T : Nat → Nat → Nat → Option ByteArray} (IH : TellC nx mk L T) (e s t : Nat) (nb jb ob : ByteArray) (turned : Bool) (r : ByteArray) (ok : Bool) (h : someF T nx L (e + 1) s t nb jb ob turned = some (r, ok)) (A0 : Option Addr) (c0 : Nat) (A1 : Option Addr) (c1 : Nat) (AL : Option Addr) (cL : Nat) (w : World) (hr0 : Kd.C (Kd.int .i64) w A0 nx.length nx) (hc0 : nx.length ≤ c0) (hr1 : Kd.C (Kd.int .i64) w A1 mk.length mk) (hc1 : mk.length ≤ c1) (hrL : Kd.C (Kd.slice 3 (Kd.int .i64)) w AL L.length L) (hcL : L.length ≤ cL) :
    Calls Try.prog 84 #[.agg #[.slice A0 nx.length c0, .slice A1 mk.length c1], .slice AL L.length cL, .int .i64 ((e : Int) + 1), .int .i64 s, .int .i64 t, .string nb, .string jb, .string ob, .bool turned] w fun e w' => e = .returned (.tuple #[.string r, .bool ok]) ∧ Below w.heap.size w w' := by
  unfold someF at h
  split at h
  · rename_i hc
    obtain ⟨⟨_, h1⟩, h2, h3, h4, h5, h6, h7, h8⟩ := hc
    rw [Nat.add_sub_cancel] at h2 h
    rcases firstG_spec (goodX nx (L.getD e []) s t) nx.length with ⟨g1, g2⟩ | ⟨x, g1, g2, g3, g4⟩
    · rw [g1] at h
      simp only [Option.some.injEq, Prod.mk.injEq] at h
      obtain ⟨rfl, rfl⟩ := h
      exact some_no nx mk L e s t nb jb ob turned A0 c0 A1 c1 AL cL w hr0 hc0 hr1 hc1 hrL hcL (by omega) h2 h3 h4 h5 h8 g2
    · rw [g1] at h
      obtain ⟨out, ho, h⟩ := Option.bind_eq_some_iff.mp h
      split at h
      · rename_i hs
        simp only [Option.some.injEq, Prod.mk.injEq] at h
        obtain ⟨rfl, rfl⟩ := h
        exact some_yes nx mk L e s t nb jb ob turned A0 c0 A1 c1 AL cL w hr0 hc0 hr1 hc1 hrL hcL (by omega) h2 h3 h4 h5 h8 T IH x g2 g3 g4 out ho h6 h7 hs
      · cases h
  · cases h
def decTo (L : List (List Int)) (s t : Nat) : Nat → Nat
  | 0 => 0
  | d + 1 => if rd (L.getD d []) (s : Int) = rd (L.getD d []) (t : Int) then d + 1 else decTo L s t d
theorem decTo_le (L : List (List Int)) (s t : Nat) : ∀ d, decTo L s t d ≤ d
 | 0 => Nat.le_refl _
 | d + 1 => by
  rw [decTo]
  split
  ·exact Nat.le_refl _
  ·have := decTo_le L s t d
   omega
def bitAt (mk : List Int) (s k : Nat) : Int := bits .and .i64 (rd mk (s : Int) / 2 ^ k) 1
def markF (mk : List Int) (s t : Nat) : Option ByteArray := match firstG (fun k => bitAt mk s k != bitAt mk t k) 4 with
  | none => none
  | some k => if bitAt mk t k < bitAt mk s k then some ⟨#[UInt8.ofNat (48 + k)]⟩ else some (⟨#[45]⟩ ++ ⟨#[UInt8.ofNat (48 + k)]⟩)
def tellF (nx mk : List Int) (L : List (List Int)) (T : Nat → Nat → Nat → Option ByteArray) (d s t : Nat) : Option ByteArray :=
  if (d < L.length) ∧ (∀ j, j < L.length → (L.getD j []).length = nx.length) ∧ s < nx.length ∧ t < nx.length ∧ nx.length ≤ 61 ∧ L.length ≤ 1000 ∧ nx.length ≤ mk.length then
    match decTo L s t d with
    | 0 => markF mk s t
    | e + 1 => (someF T nx L (e + 1) s t ⟨#[60]⟩ ⟨#[38]⟩ ⟨#[116]⟩ false).bind fun p => if p.2 = true then some p.1 else (someF T nx L (e + 1) t s ⟨#[91]⟩ ⟨#[124]⟩ ⟨#[102]⟩ true).bind fun q => some q.1
  else none
def tellK (nx mk : List Int) (L : List (List Int)) : Nat → Nat → Nat → Nat → Option ByteArray
  | 0 => fun _ _ _ => none
  | k + 1 => tellF nx mk L (tellK nx mk L k)
theorem dig_eq {k : Nat} (h : k < 4) : Go.Utf8.encode (48 + (k : Int)) = ⟨#[UInt8.ofNat (48 + k)]⟩ := by
  have : k = 0 ∨ k = 1 ∨ k = 2 ∨ k = 3 := by omega
  rcases this with rfl | rfl | rfl | rfl <;> first | rfl | decide
structure TS (w : World) (gw : Nat) (A0 A1 AL : Option Addr) (c0 c1 : Nat) (nx mk : List Int) (L : List (List Int)) (wr : World) : Prop where
  below : Below w.heap.size w wr
  box : wr.heap[gw]? = some (.cells #[.slice A0 nx.length c0, .slice A1 mk.length c1] 28 (0, 0))
  r0 : Kd.C (Kd.int .i64) wr A0 nx.length nx
  r1 : Kd.C (Kd.int .i64) wr A1 mk.length mk
  rL : Kd.C (Kd.slice 3 (Kd.int .i64)) wr AL L.length L
theorem TS.step {w : World} {gw : Nat} {A0 A1 AL : Option Addr} {c0 c1 : Nat} {nx mk : List Int} {L : List (List Int)} {wr w2 : World} (h : TS w gw A0 A1 AL c0 c1 nx mk L wr) (hb : Below wr.heap.size wr w2) : TS w gw A0 A1 AL c0 c1 nx mk L w2 :=
  ⟨bst h.below hb, blk_below h.box hb, Kd.C_below h.r0 hb, Kd.C_below h.r1 hb, Kd.C_below h.rL hb⟩
theorem TS.reads {w : World} {gw : Nat} {A0 A1 AL : Option Addr} {c0 c1 : Nat} {nx mk : List Int} {L : List (List Int)} {wr : World} (h : TS w gw A0 A1 AL c0 c1 nx mk L wr) : wr.cell? ⟨gw, 0, none⟩ = some (.slice A0 nx.length c0) ∧ wr.cell? ⟨gw, 1, none⟩ = some (.slice A1 mk.length c1) :=
  ⟨(blk_cell h.box 0).trans rfl, (blk_cell h.box 1).trans rfl⟩
set_option maxRecDepth 100000 in
set_option maxHeartbeats 4000000 in
theorem tell_mark (nx mk : List Int) (L : List (List Int)) (d s t : Nat) (r : ByteArray) (A0 : Option Addr) (c0 : Nat) (A1 : Option Addr) (c1 : Nat) (AL : Option Addr) (cL : Nat) (w : World) (hr0 : Kd.C (Kd.int .i64) w A0 nx.length nx) (hc0 : nx.length ≤ c0) (hr1 : Kd.C (Kd.int .i64) w A1 mk.length mk) (hc1 : mk.length ≤ c1) (hrL : Kd.C (Kd.slice 3 (Kd.int .i64)) w AL L.length L) (hcL : L.length ≤ cL)
    (hdL : d < L.length) (hbl : ∀ j, j < L.length → (L.getD j []).length = nx.length) (hs : s < nx.length) (ht : t < nx.length) (h61 : nx.length ≤ 61) (hL : L.length ≤ 1000) (hnm : nx.length ≤ mk.length) (hdec : decTo L s t d = 0) (hmf : markF mk s t = some r) :
    Calls Try.prog 67 #[.agg #[.slice A0 nx.length c0, .slice A1 mk.length c1], .slice AL L.length cL, .int .i64 d, .int .i64 s, .int .i64 t] w fun e w' => e = .returned (.string r) ∧ Below w.heap.size w w' := by
  have hu := Try.underlying28
  obtain ⟨bL, oL, rfl, _⟩ := rows_at hrL (by omega)
  have HBL := Lib.hid hbl
  have HDEC := Lib.hid hdec
  have HMF := Lib.hid hmf
  have HR0 := Lib.hid hr0
  have HR1 := Lib.hid hr1
  have HRL := Lib.hid hrL
  clear hr0 hr1 hrL hbl hdec hmf
  go_enter Try.func67, Try.ntmps67
  go_wp2_with (first | ((with_reducible refine gate_dst (N := 5) rfl ?_); refine box_event ?hg (N := 5) ?hd (cs := #[.slice A0 nx.length c0, .slice A1 mk.length c1]) (t := 28) ?hr ?_; (case hd => rfl); (case hg => rfl); (case hr => first | (go_simp; done) | (go_simp; rfl)); intro gw hgw wa hbw hbb; have HT0 := Lib.hid (show TS w gw A0 A1 (some ⟨bL, oL, none⟩) c0 c1 nx mk L wa from ⟨bst (Below.refl w.heap.size w) hbb, hbw, Kd.C_below HR0.out hbb, Kd.C_below HR1.out hbb, Kd.C_below HRL.out hbb⟩); clear hgw hbw hbb HR0 HR1 HRL) | fail)
  go_loopw [2] (fun v2 wr => ∃ d' : Nat, d' ≤ d ∧ v2 = .int .i64 d' ∧ Hid (decTo L s t d' = decTo L s t d) ∧ Hid (TS w gw A0 A1 (some ⟨bL, oL, none⟩) c0 c1 nx mk L wr)) (fun v2 _ => (intOf v2).toNat)
  case atStart => exact ⟨d, Nat.le_refl _, rfl, Lib.hid rfl, HT0⟩
  case round =>
    clear HT0
    obtain ⟨d', hd', rfl, HD, HT⟩ := hrel
    cases d' with
    | zero =>
      go_wp2_with fail
      go_quiet (fail)
      go_wp2_with fail
      have hm := HMF.out
      unfold markF at hm
      rcases firstG_spec (fun k => bitAt mk s k != bitAt mk t k) 4 with ⟨g1, g2⟩ | ⟨k0, g1, g2, g3, g4⟩
      · rw [g1] at hm
        cases hm
      · rw [g1] at hm
        have HM := Lib.hid (show (if bitAt mk t k0 < bitAt mk s k0 then some (⟨#[UInt8.ofNat (48 + k0)]⟩ : ByteArray) else some (⟨#[45]⟩ ++ ⟨#[UInt8.ofNat (48 + k0)]⟩)) = some r from hm)
        have G3 := Lib.hid (show bitAt mk s k0 ≠ bitAt mk t k0 by simpa using g3)
        have G4 := Lib.hid (show ∀ y, y < k0 → bitAt mk s y = bitAt mk t y from fun y hy => by simpa using g4 y hy)
        clear hm g1 g3 g4 HD
        obtain ⟨wo, rfl⟩ : ∃ wo : World, wo = wr := ⟨_, rfl⟩
        go_loopw [44] (fun v44 wr => ∃ k : Nat, k ≤ k0 ∧ v44 = .int .i64 k ∧ Hid (TS w gw A0 A1 (some ⟨bL, oL, none⟩) c0 c1 nx mk L wr)) (fun v44 _ => 4 - (intOf v44).toNat)
        case atStart => exact ⟨0, by omega, rfl, Lib.hid (HT.out.step (pwd (Below.refl _ _) _))⟩
        case round =>
          clear HT
          obtain ⟨k, hk, rfl, HT⟩ := hrel
          have hk4 : k < 4 := by omega
          obtain ⟨b1, o1, rfl, _, hmc⟩ := ints_at HT.out.r1 (by omega)
          have r0 := HT.out.reads.2
          have r1 := hmc s (by omega)
          have r2 := hmc t (by omega)
          have hsm : (s : Int) < (mk.length : Int) := by omega
          have htm : (t : Int) < (mk.length : Int) := by omega
          clear hmc
          by_cases hk0 : k < k0
          · have he : bits .and .i64 (rd mk (s : Int) / 2 ^ k) 1 = bits .and .i64 (rd mk (t : Int) / 2 ^ k) 1 := G4.out k hk0
            have e1 : decide (bits .and .i64 (rd mk (t : Int) / 2 ^ k) 1 < bits .and .i64 (rd mk (s : Int) / 2 ^ k) 1) = false := decide_eq_false (by omega)
            have e2 : decide (bits .and .i64 (rd mk (s : Int) / 2 ^ k) 1 < bits .and .i64 (rd mk (t : Int) / 2 ^ k) 1) = false := decide_eq_false (by omega)
            clear he
            go_wp2_with fail
            go_quiet (fail)
            go_wp2_with fail
            go_roundw
            case rel => exact ⟨k + 1, by omega, by go_num, Lib.hid (HT.out.step (pwd (Below.refl _ _) _))⟩
            case measure => simp [intOf]; omega
          · obtain rfl : k = k0 := by omega
            by_cases hgt : bitAt mk t k < bitAt mk s k
            · have hm := HM.out
              rw [if_pos hgt] at hm
              injection hm with hm
              subst hm
              have e1 : decide (bits .and .i64 (rd mk (t : Int) / 2 ^ k) 1 < bits .and .i64 (rd mk (s : Int) / 2 ^ k) 1) = true := decide_eq_true hgt
              clear hgt HM
              go_wp2_with fail
              go_quiet (fail)
              go_wp2_with fail
              go_ret
              exact ⟨ret_str (dig_eq hk4), (HT.out.step (pwd (Below.refl _ _) _)).below⟩
            · have hm := HM.out
              rw [if_neg hgt] at hm
              injection hm with hm
              subst hm
              have hlt : bitAt mk s k < bitAt mk t k := by have := G3.out; omega
              have e1 : decide (bits .and .i64 (rd mk (t : Int) / 2 ^ k) 1 < bits .and .i64 (rd mk (s : Int) / 2 ^ k) 1) = false := decide_eq_false hgt
              have e2 : decide (bits .and .i64 (rd mk (s : Int) / 2 ^ k) 1 < bits .and .i64 (rd mk (t : Int) / 2 ^ k) 1) = true := decide_eq_true hlt
              clear hgt hlt HM
              go_wp2_with fail
              go_quiet (fail)
              generalize hD : Go.Utf8.encode (48 + (k : Int)) = D
              have hD2 : D = ⟨#[UInt8.ofNat (48 + k)]⟩ := hD.symm.trans (dig_eq hk4)
              have z1 : (9223372036854775807 < 1 + D.size) = False := eq_false (by rw [hD2, show (⟨#[UInt8.ofNat (48 + k)]⟩ : ByteArray).size = 1 from rfl]; decide)
              have HD2 := Lib.hid hD2
              clear hD hD2
              go_wp2_with fail
              go_ret
              exact ⟨ret_str (by rw [HD2.out]), (HT.out.step (pwd (Below.refl _ _) _)).below⟩
    | succ e =>
      obtain ⟨b', o', e', hLc⟩ := rows_at HT.out.rL (by omega)
      obtain ⟨rfl, rfl⟩ : bL = b' ∧ oL = o' := by injection e' with e'; injection e' with e1 e2; exact ⟨e1, e2⟩
      obtain ⟨A2, c2, q1, q2, q3⟩ := hLc e (by omega)
      have hbe := HBL.out e (by omega)
      have HE := Lib.hid (show rd (L.getD e []) (s : Int) = rd (L.getD e []) (t : Int) → False from fun q => by
        have := HD.out
        rw [decTo, if_pos q] at this
        have h2 := HDEC.out
        omega)
      have HD2 := Lib.hid (show decTo L s t e = decTo L s t d from by
        have := HD.out
        rw [decTo, if_neg HE.out] at this
        exact this)
      generalize L.getD e [] = row at q1 q2 q3 hbe HE
      obtain ⟨b2, o2, rfl, _, hrc⟩ := ints_at q3 (by omega)
      have p1 := hrc s (by omega)
      have p2 := hrc t (by omega)
      have hsr : (s : Int) < (row.length : Int) := by omega
      have htr : (t : Int) < (row.length : Int) := by omega
      have hne : (rd row (s : Int) != rd row (t : Int)) = true := by rw [bne_iff_ne]; exact HE.out
      have hd1 : ((e : Int) + 1 - 1) = (e : Int) := by omega
      clear hrc q3 e' hLc hbe
      go_wp2_with fail
      go_quiet (fail)
      go_wp2_with fail
      go_roundw
      case rel => exact ⟨e, by omega, rfl, HD2, Lib.hid (HT.out.step (pwd (Below.refl _ _) _))⟩
      case measure => simp [intOf]
end Go.Proofs.Ytjffhhalmicodaa.X
end

section
set_option linter.unusedVariables false
set_option linter.unusedSimpArgs false
namespace Go.Proofs.Ytjffhhalmicodaa.X
open Go.RowKit Go.Proofs.G.PrintWords Go.Proofs.G.PrintLast Go.Proofs.G.PrintMore
set_option maxRecDepth 100000 in
set_option maxHeartbeats 4000000 in
theorem tell_one (nx mk : List Int) (L : List (List Int)) (d s t : Nat) (r : ByteArray) (A0 : Option Addr) (c0 : Nat) (A1 : Option Addr) (c1 : Nat) (AL : Option Addr) (cL : Nat) (w : World) (hr0 : Kd.C (Kd.int .i64) w A0 nx.length nx) (hc0 : nx.length ≤ c0) (hr1 : Kd.C (Kd.int .i64) w A1 mk.length mk) (hc1 : mk.length ≤ c1) (hrL : Kd.C (Kd.slice 3 (Kd.int .i64)) w AL L.length L) (hcL : L.length ≤ cL)
    (hdL : d < L.length) (hbl : ∀ j, j < L.length → (L.getD j []).length = nx.length) (hs : s < nx.length) (ht : t < nx.length) (h61 : nx.length ≤ 61) (hL : L.length ≤ 1000) (hnm : nx.length ≤ mk.length) (T : Nat → Nat → Nat → Option ByteArray) (IH : TellC nx mk L T) (e : Nat) (hdec : decTo L s t d = e + 1) (hs1 : someF T nx L (e + 1) s t ⟨#[60]⟩ ⟨#[38]⟩ ⟨#[116]⟩ false = some (r, true)) :
    Calls Try.prog 67 #[.agg #[.slice A0 nx.length c0, .slice A1 mk.length c1], .slice AL L.length cL, .int .i64 d, .int .i64 s, .int .i64 t] w fun e w' => e = .returned (.string r) ∧ Below w.heap.size w w' := by
  have hu := Try.underlying28
  obtain ⟨bL, oL, rfl, _⟩ := rows_at hrL (by omega)
  have HBL := Lib.hid hbl
  have HDEC := Lib.hid hdec
  have HS1 := Lib.hid hs1
  have HIH := Lib.hid IH
  clear hs1 IH
  have HR0 := Lib.hid hr0
  have HR1 := Lib.hid hr1
  have HRL := Lib.hid hrL
  clear hr0 hr1 hrL hbl hdec
  go_enter Try.func67, Try.ntmps67
  go_wp2_with (first | ((with_reducible refine gate_dst (N := 5) rfl ?_); refine box_event ?hg (N := 5) ?hd (cs := #[.slice A0 nx.length c0, .slice A1 mk.length c1]) (t := 28) ?hr ?_; (case hd => rfl); (case hg => rfl); (case hr => first | (go_simp; done) | (go_simp; rfl)); intro gw hgw wa hbw hbb; have HT0 := Lib.hid (show TS w gw A0 A1 (some ⟨bL, oL, none⟩) c0 c1 nx mk L wa from ⟨bst (Below.refl w.heap.size w) hbb, hbw, Kd.C_below HR0.out hbb, Kd.C_below HR1.out hbb, Kd.C_below HRL.out hbb⟩); clear hgw hbw hbb HR0 HR1 HRL) | fail)
  go_loopw [2] (fun v2 wr => ∃ d' : Nat, d' ≤ d ∧ v2 = .int .i64 d' ∧ Hid (decTo L s t d' = decTo L s t d) ∧ Hid (TS w gw A0 A1 (some ⟨bL, oL, none⟩) c0 c1 nx mk L wr)) (fun v2 _ => (intOf v2).toNat)
  case atStart => exact ⟨d, Nat.le_refl _, rfl, Lib.hid rfl, HT0⟩
  case round =>
    clear HT0
    obtain ⟨d', hd', rfl, HD, HT⟩ := hrel
    cases d' with
    | zero => exact absurd (HD.out.trans HDEC.out) (by simp [decTo])
    | succ e' =>
      obtain ⟨b', o', e1_, hLc⟩ := rows_at HT.out.rL (by omega)
      obtain ⟨rfl, rfl⟩ : bL = b' ∧ oL = o' := by injection e1_ with e1_; injection e1_ with e1 e2; exact ⟨e1, e2⟩
      obtain ⟨A2, c2, q1, q2, q3⟩ := hLc e' (by omega)
      have hbe := HBL.out e' (by omega)
      have hdq := HD.out
      rw [decTo] at hdq
      generalize L.getD e' [] = row at q1 q2 q3 hbe hdq
      obtain ⟨b2, o2, rfl, _, hrc⟩ := ints_at q3 (by omega)
      have p1 := hrc s (by omega)
      have p2 := hrc t (by omega)
      have hsr : (s : Int) < (row.length : Int) := by omega
      have htr : (t : Int) < (row.length : Int) := by omega
      have hd1 : ((e' : Int) + 1 - 1) = (e' : Int) := by omega
      clear hrc q3 e1_ hLc hbe
      by_cases heq : rd row (s : Int) = rd row (t : Int)
      · rw [if_pos heq] at hdq
        have hee : e' = e := by have := HDEC.out; omega
        subst hee
        have hne : (rd row (s : Int) != rd row (t : Int)) = false := by rw [heq]; simp
        clear heq hdq
        go_wp2_with fail
        go_quiet (fail)
        have HT2 := Lib.hid (HT.out.step (pwd (Below.refl wr.heap.size wr) nq))
        have r0 := HT2.out.reads.1
        have r1 := HT2.out.reads.2
        clear HT q1 p1 p2
        generalize wr.drewN nq = wk at HT2 r0 r1 ⊢
        go_wp2_with fail
        refine (some_calls HIH.out e' s t ⟨#[60]⟩ ⟨#[38]⟩ ⟨#[116]⟩ false r true HS1.out A0 c0 A1 c1 (some ⟨bL, oL, none⟩) cL wk HT2.out.r0 hc0 HT2.out.r1 hc1 HT2.out.rL hcL).mono ?_
        rintro e w6 ⟨rfl, hb⟩
        have HT3 := Lib.hid (HT2.out.step hb)
        clear hb HT2 r0 r1
        go_wp2_with fail
        go_ret
        exact ⟨rfl, HT3.out.below⟩
      · rw [if_neg heq] at hdq
        have HD2 := Lib.hid hdq
        have hne : (rd row (s : Int) != rd row (t : Int)) = true := by rw [bne_iff_ne]; exact heq
        clear heq hdq
        go_wp2_with fail
        go_quiet (fail)
        go_wp2_with fail
        go_roundw
        case rel => exact ⟨e', by omega, rfl, HD2, Lib.hid (HT.out.step (pwd (Below.refl _ _) _))⟩
        case measure => simp [intOf]
set_option maxRecDepth 100000 in
set_option maxHeartbeats 4000000 in
theorem tell_two (nx mk : List Int) (L : List (List Int)) (d s t : Nat) (r : ByteArray) (A0 : Option Addr) (c0 : Nat) (A1 : Option Addr) (c1 : Nat) (AL : Option Addr) (cL : Nat) (w : World) (hr0 : Kd.C (Kd.int .i64) w A0 nx.length nx) (hc0 : nx.length ≤ c0) (hr1 : Kd.C (Kd.int .i64) w A1 mk.length mk) (hc1 : mk.length ≤ c1) (hrL : Kd.C (Kd.slice 3 (Kd.int .i64)) w AL L.length L) (hcL : L.length ≤ cL)
    (hdL : d < L.length) (hbl : ∀ j, j < L.length → (L.getD j []).length = nx.length) (hs : s < nx.length) (ht : t < nx.length) (h61 : nx.length ≤ 61) (hL : L.length ≤ 1000) (hnm : nx.length ≤ mk.length) (T : Nat → Nat → Nat → Option ByteArray) (IH : TellC nx mk L T) (e : Nat) (hdec : decTo L s t d = e + 1) (r1 : ByteArray) (hs1 : someF T nx L (e + 1) s t ⟨#[60]⟩ ⟨#[38]⟩ ⟨#[116]⟩ false = some (r1, false)) (ok : Bool) (hs2 : someF T nx L (e + 1) t s ⟨#[91]⟩ ⟨#[124]⟩ ⟨#[102]⟩ true = some (r, ok)) :
    Calls Try.prog 67 #[.agg #[.slice A0 nx.length c0, .slice A1 mk.length c1], .slice AL L.length cL, .int .i64 d, .int .i64 s, .int .i64 t] w fun e w' => e = .returned (.string r) ∧ Below w.heap.size w w' := by
  have hu := Try.underlying28
  obtain ⟨bL, oL, rfl, _⟩ := rows_at hrL (by omega)
  have HBL := Lib.hid hbl
  have HDEC := Lib.hid hdec
  have HS1 := Lib.hid hs1
  have HS2 := Lib.hid hs2
  have HIH := Lib.hid IH
  clear hs1 hs2 IH
  have HR0 := Lib.hid hr0
  have HR1 := Lib.hid hr1
  have HRL := Lib.hid hrL
  clear hr0 hr1 hrL hbl hdec
  go_enter Try.func67, Try.ntmps67
  go_wp2_with (first | ((with_reducible refine gate_dst (N := 5) rfl ?_); refine box_event ?hg (N := 5) ?hd (cs := #[.slice A0 nx.length c0, .slice A1 mk.length c1]) (t := 28) ?hr ?_; (case hd => rfl); (case hg => rfl); (case hr => first | (go_simp; done) | (go_simp; rfl)); intro gw hgw wa hbw hbb; have HT0 := Lib.hid (show TS w gw A0 A1 (some ⟨bL, oL, none⟩) c0 c1 nx mk L wa from ⟨bst (Below.refl w.heap.size w) hbb, hbw, Kd.C_below HR0.out hbb, Kd.C_below HR1.out hbb, Kd.C_below HRL.out hbb⟩); clear hgw hbw hbb HR0 HR1 HRL) | fail)
  go_loopw [2] (fun v2 wr => ∃ d' : Nat, d' ≤ d ∧ v2 = .int .i64 d' ∧ Hid (decTo L s t d' = decTo L s t d) ∧ Hid (TS w gw A0 A1 (some ⟨bL, oL, none⟩) c0 c1 nx mk L wr)) (fun v2 _ => (intOf v2).toNat)
  case atStart => exact ⟨d, Nat.le_refl _, rfl, Lib.hid rfl, HT0⟩
  case round =>
    clear HT0
    obtain ⟨d', hd', rfl, HD, HT⟩ := hrel
    cases d' with
    | zero => exact absurd (HD.out.trans HDEC.out) (by simp [decTo])
    | succ e' =>
      obtain ⟨b', o', e1_, hLc⟩ := rows_at HT.out.rL (by omega)
      obtain ⟨rfl, rfl⟩ : bL = b' ∧ oL = o' := by injection e1_ with e1_; injection e1_ with e1 e2; exact ⟨e1, e2⟩
      obtain ⟨A2, c2, q1, q2, q3⟩ := hLc e' (by omega)
      have hbe := HBL.out e' (by omega)
      have hdq := HD.out
      rw [decTo] at hdq
      generalize L.getD e' [] = row at q1 q2 q3 hbe hdq
      obtain ⟨b2, o2, rfl, _, hrc⟩ := ints_at q3 (by omega)
      have p1 := hrc s (by omega)
      have p2 := hrc t (by omega)
      have hsr : (s : Int) < (row.length : Int) := by omega
      have htr : (t : Int) < (row.length : Int) := by omega
      have hd1 : ((e' : Int) + 1 - 1) = (e' : Int) := by omega
      clear hrc q3 e1_ hLc hbe
      by_cases heq : rd row (s : Int) = rd row (t : Int)
      · rw [if_pos heq] at hdq
        have hee : e' = e := by have := HDEC.out; omega
        subst hee
        have hne : (rd row (s : Int) != rd row (t : Int)) = false := by rw [heq]; simp
        clear heq hdq
        go_wp2_with fail
        go_quiet (fail)
        have HT2 := Lib.hid (HT.out.step (pwd (Below.refl wr.heap.size wr) nq))
        have r0 := HT2.out.reads.1
        have r1_ := HT2.out.reads.2
        clear HT q1 p1 p2
        generalize wr.drewN nq = wk at HT2 r0 r1_ ⊢
        go_wp2_with fail
        refine (some_calls HIH.out e' s t ⟨#[60]⟩ ⟨#[38]⟩ ⟨#[116]⟩ false r1 false HS1.out A0 c0 A1 c1 (some ⟨bL, oL, none⟩) cL wk HT2.out.r0 hc0 HT2.out.r1 hc1 HT2.out.rL hcL).mono ?_
        rintro e w6 ⟨rfl, hb⟩
        have HT3 := Lib.hid (HT2.out.step hb)
        clear hb HT2 r0 r1_
        have r0 := HT3.out.reads.1
        have r1_ := HT3.out.reads.2
        go_wp2_with fail
        refine (some_calls HIH.out e' t s ⟨#[91]⟩ ⟨#[124]⟩ ⟨#[102]⟩ true r ok HS2.out A0 c0 A1 c1 (some ⟨bL, oL, none⟩) cL w6 HT3.out.r0 hc0 HT3.out.r1 hc1 HT3.out.rL hcL).mono ?_
        rintro e w7 ⟨rfl, hb⟩
        have HT4 := Lib.hid (HT3.out.step hb)
        clear hb HT3 r0 r1_
        go_wp2_with fail
        go_ret
        exact ⟨rfl, HT4.out.below⟩
      · rw [if_neg heq] at hdq
        have HD2 := Lib.hid hdq
        have hne : (rd row (s : Int) != rd row (t : Int)) = true := by rw [bne_iff_ne]; exact heq
        clear heq hdq
        go_wp2_with fail
        go_quiet (fail)
        go_wp2_with fail
        go_roundw
        case rel => exact ⟨e', by omega, rfl, HD2, Lib.hid (HT.out.step (pwd (Below.refl _ _) _))⟩
        case measure => simp [intOf]
theorem tell_step {nx mk : List Int} {L : List (List Int)} {T : Nat → Nat → Nat → Option ByteArray} (IH : TellC nx mk L T) : TellC nx mk L (tellF nx mk L T) := by
 intro d s t r h A0 c0 A1 c1 AL cL w hr0 hc0 hr1 hc1 hrL hcL
 unfold tellF at h
 split at h
 ·rename_i hc
  obtain ⟨h1, h2, h3, h4, h5, h6, h7⟩ := hc
  split at h
  ·rename_i hd
   exact tell_mark nx mk L d s t r A0 c0 A1 c1 AL cL w hr0 hc0 hr1 hc1 hrL hcL h1 h2 h3 h4 h5 h6 h7 hd h
  ·rename_i e hd
   obtain ⟨p, hp, h⟩ := Option.bind_eq_some_iff.mp h
   obtain ⟨r1, ok1⟩ := p
   cases ok1 with
   | true =>
    simp only [if_true, Option.some.injEq] at h
    subst h
    exact tell_one nx mk L d s t r1 A0 c0 A1 c1 AL cL w hr0 hc0 hr1 hc1 hrL hcL h1 h2 h3 h4 h5 h6 h7 T IH e hd hp
   | false =>
    simp only [Bool.false_eq_true, if_false] at h
    obtain ⟨q, hq, h⟩ := Option.bind_eq_some_iff.mp h
    obtain ⟨r2, ok2⟩ := q
    simp only [Option.some.injEq] at h
    subst h
    exact tell_two nx mk L d s t r2 A0 c0 A1 c1 AL cL w hr0 hc0 hr1 hc1 hrL hcL h1 h2 h3 h4 h5 h6 h7 T IH e hd r1 hp ok2 hq
 ·cases h
theorem tell_all (nx mk : List Int) (L : List (List Int)) : ∀ k, TellC nx mk L (tellK nx mk L k)
  | 0 => fun d s t r h => by simp [tellK] at h
  | k + 1 => tell_step (tell_all nx mk L k)
end Go.Proofs.Ytjffhhalmicodaa.X
end

section
set_option linter.unusedVariables false
set_option linter.unusedSimpArgs false
namespace Go.Proofs.Ytjffhhalmicodaa.X
open Go.RowKit Go.Proofs.G.PrintWords Go.Proofs.G.PrintLast Go.Proofs.G.PrintMore
attribute [local go_sem] max2_int min2_int max_two min_two max_three min_three max_four min_four
def accD (rs : Nat → Option Nat) : Nat → Option Nat
  | 0 => some 0
  | k + 1 => (accD rs k).bind fun m => (rs k).bind fun r => some (max m r)
def depEnd (o : Option Nat) : Ending := match o with
  | none => .returned (.tuple #[.int .i64 0, .bool false])
  | some m => .returned (.tuple #[.int .i64 (m : Int), .bool true])
def depRes (up : Bool) (o : Option Nat) : Ending := depEnd (o.map fun m => if up = true then m + 1 else m)
theorem accD_prefix {rs : Nat → Option Nat} : ∀ n k, k ≤ n → accD rs k = none → accD rs n = none
  | 0, k, h, e => by obtain rfl : k = 0 := by omega
                     exact e
  | n + 1, k, h, e => by
    by_cases q : k = n + 1
    · exact q ▸ e
    · rw [accD, accD_prefix n k (by omega) e]
      rfl
set_option maxRecDepth 100000 in
set_option maxHeartbeats 2000000 in
theorem depth_rest (d : Nat) (up : Bool) (hup : (((d : Int) == 60) || ((d : Int) == 91)) = up) (gn : Nat) (A : Option Addr) (cp : Nat) (ks : Nat → Value) (n : Nat) (rs : Nat → Option Nat) (w : World) (hn0 : w.cell? ⟨gn, 0, none⟩ = some (.int .u8 (d : Int))) (hn2 : w.cell? ⟨gn, 2, none⟩ = some (.int .u8 0)) (hn3 : w.cell? ⟨gn, 3, none⟩ = some (.slice A n cp))
    (hA : ∀ i, i < n → ∃ b off, A = some ⟨b, off, none⟩ ∧ w.cell? ⟨b, off + i, none⟩ = some (ks i))
    (hc : ∀ i, i < n → ∀ W, Below w.heap.size w W → Calls Try.prog 68 #[ks i] W fun e w' => e = depEnd (rs i) ∧ Below W.heap.size W w')
    (hl : n ≤ 2) (hz : ∀ i m, i ≤ n → accD rs i = some m → m ≤ 100000) (hz2 : ∀ i m, i < n → rs i = some m → m ≤ 100000) :
    Calls Try.prog 68 #[.pointer (some ⟨gn, 0, none⟩)] w fun e w' => e = depRes up (accD rs n) ∧ Below w.heap.size w w' := by
  have HA := Lib.hid hA
  have HC := Lib.hid hc
  have HZ := Lib.hid hz
  have HZ2 := Lib.hid hz2
  have HL := Lib.hid hl
  have HUP := Lib.hid hup
  clear hA hc hz hl hz2 hup
  have hu2 := Try.underlying74
  go_enter Try.func68, Try.ntmps68
  go_wp2_with fail
  go_loopw [2, 18] (fun v i wr => ∃ (k m : Nat), k ≤ n ∧ i = .int .i64 k ∧ v = .int .i64 (m : Int) ∧ Hid (accD rs k = some m) ∧ Hid (Below w.heap.size w wr)) (fun _ i _ => n - (intOf i).toNat)
  case atStart => exact ⟨0, 0, by omega, rfl, rfl, Lib.hid rfl, Lib.hid (Below.refl _ _)⟩
  case round =>
    obtain ⟨k, m, hk, rfl, rfl, HM, HB⟩ := hrel
    by_cases hlt : k < n
    · obtain ⟨b, off, rfl, hcell⟩ := HA.out k hlt
      have hcell2 := pwc HB.out hcell
      have HP := Lib.hid (HC.out k hlt wr HB.out)
      clear hcell
      go_wp2_with fail
      refine HP.out.mono ?_
      rintro e w2 ⟨he, hb'⟩
      have HB' := Lib.hid (bst HB.out hb')
      clear hb'
      cases hr : rs k with
      | none =>
        rw [hr] at he
        have he' : e = .returned (.tuple #[.int .i64 0, .bool false]) := he
        subst he'
        have HN := Lib.hid (show accD rs n = none from accD_prefix n (k + 1) (by omega) (by rw [accD, HM.out, Option.bind_some, hr]; rfl))
        clear he hr
        have hl := HL.out
        go_wp2_with fail
        go_ret2
        exact ⟨by rw [HN.out]; rfl, HB'.out⟩
      | some r =>
        rw [hr] at he
        have he' : e = .returned (.tuple #[.int .i64 (r : Int), .bool true]) := he
        subst he'
        have HN := Lib.hid (show accD rs (k + 1) = some (max m r) by rw [accD, HM.out, Option.bind_some, hr]; rfl)
        clear he hr
        have hl := HL.out
        go_wp2_with fail
        go_roundw
        case rel => exact ⟨k + 1, max m r, by omega, by go_num, by congr 1; split <;> omega, HN, HB'⟩
        case measure => simp [intOf]; omega
    · obtain rfl : k = n := by omega
      have hm := HZ.out k m (Nat.le_refl _) HM.out
      have hnb := pwc HB.out hn0
      cases hd60 : ((d : Int) == 60) with
      | true =>
        have HUP2 := Lib.hid (show up = true by rw [← HUP.out, hd60]; rfl)
        go_wp2_with fail
        go_ret2
        exact ⟨by rw [HM.out, HUP2.out]; simp [depRes, depEnd], HB.out⟩
      | false =>
        cases hd91 : ((d : Int) == 91) with
        | true =>
          have HUP2 := Lib.hid (show up = true by rw [← HUP.out, hd60, hd91]; rfl)
          go_wp2_with fail
          go_ret2
          exact ⟨by rw [HM.out, HUP2.out]; simp [depRes, depEnd], HB.out⟩
        | false =>
          have HUP2 := Lib.hid (show up = false by rw [← HUP.out, hd60, hd91]; rfl)
          go_wp2_with fail
          go_ret2
          exact ⟨by rw [HM.out, HUP2.out]; simp [depRes, depEnd], HB.out⟩
set_option maxRecDepth 100000 in
set_option maxHeartbeats 2000000 in
theorem depth_named (x : Nat) (hx : 1 ≤ x) (gn : Nat) (w : World) (hn2 : w.cell? ⟨gn, 2, none⟩ = some (.int .u8 (x : Int))) :
    Calls Try.prog 68 #[.pointer (some ⟨gn, 0, none⟩)] w fun e w' => e = .returned (.tuple #[.int .i64 0, .bool false]) ∧ Below w.heap.size w w' := by
  have hx0 : ((x : Int) != 0) = true := by simp; omega
  have hx1 : ((x : Int) == 0) = false := by simp; omega
  have hx2 : (x != 0) = true := by simp; omega
  have hu2 := Try.underlying74
  go_enter Try.func68, Try.ntmps68
  go_wp2_with fail
  go_ret2
  exact ⟨rfl, Below.refl _ _⟩
def depF : Fm → Option Nat
 | .mark _ _ => some 0
 | .con _ => some 0
 | .var _ => none
 | .two _ a b => (depF a).bind fun x => (depF b).bind fun y => some (max x y)
 | .one c a => (depF a).map fun x => if c = 60 ∨ c = 91 then x + 1 else x
 | .fix _ _ _ => none
def hgt : Fm → Nat
 | .mark _ _ => 0
 | .con _ => 0
 | .var _ => 0
 | .two _ a b => max (hgt a) (hgt b) + 1
 | .one _ a => hgt a + 1
 | .fix _ _ a => hgt a + 1
theorem depF_le : ∀ f m, depF f = some m → m ≤ hgt f := by
 intro f
 induction f with
 | mark neg j => intro m h; simp [depF] at h; simp [hgt]; omega
 | con c => intro m h; simp [depF] at h; simp [hgt]; omega
 | var c => intro m h; simp [depF] at h
 | two c a b iha ihb =>
  intro m h
  rw [depF] at h
  obtain ⟨x, hx, h⟩ := Option.bind_eq_some_iff.mp h
  obtain ⟨y, hy, h⟩ := Option.bind_eq_some_iff.mp h
  injection h with h
  have := iha x hx
  have := ihb y hy
  rw [hgt]
  omega
 | one c a iha =>
  intro m h
  rw [depF, Option.map_eq_some_iff] at h
  obtain ⟨x, hx, h⟩ := h
  have := iha x hx
  rw [hgt]
  split at h <;> omega
 | fix c x a _ => intro m h; simp [depF] at h
theorem accD_nil (rs : Nat → Option Nat) (i m : Nat) (hi : i ≤ 0) (h : accD rs i = some m) : m ≤ 100000 := by
  obtain rfl : i = 0 := by omega
  simp [accD] at h
  omega
theorem depth_all : ∀ f, WF f → hgt f ≤ 100000 → ∀ (ok : Nat → Prop) (v : Value) (w : World), Tree w ok f v → Calls Try.prog 68 #[v] w fun e w' => e = depEnd (depF f) ∧ Below w.heap.size w w' := by
  intro f
  induction f with
  | mark neg j =>
    intro hw hh ok v w ht
    obtain ⟨g, b, off, cap, rfl, o1, o2, h0, h1, h2, h3, h4⟩ := ht
    rw [if_pos rfl] at h3
    cases neg with
    | true => exact depth_rest 45 false rfl g none 0 (fun _ => undef) 0 (fun _ => none) w h0 h2 h3 (fun i h => by omega) (fun i h => by omega) (by omega) (accD_nil _) (fun i m h => by omega)
    | false => exact depth_rest 48 false rfl g none 0 (fun _ => undef) 0 (fun _ => none) w h0 h2 h3 (fun i h => by omega) (fun i h => by omega) (by omega) (accD_nil _) (fun i m h => by omega)
  | con c =>
    intro hw hh ok v w ht
    obtain ⟨g, b, off, cap, rfl, o1, o2, h0, h1, h2, h3, h4⟩ := ht
    rw [if_pos rfl] at h3
    refine depth_rest c false ?_ g none 0 (fun _ => undef) 0 (fun _ => none) w h0 h2 h3 (fun i h => by omega) (fun i h => by omega) (by omega) (accD_nil _) (fun i m h => by omega)
    rcases hw with rfl | rfl <;> rfl
  | var c =>
    intro hw hh ok v w ht
    obtain ⟨g, b, off, cap, rfl, o1, o2, h0, h1, h2, h3, h4⟩ := ht
    exact depth_named c (by have := hw.1; omega) g w h2
  | two c a b iha ihb =>
    intro hw hh ok v w ht
    obtain ⟨va, vb, ⟨g, bb, off, cap, rfl, o1, o2, h0, h1, h2, h3, h4⟩, ha, hb⟩ := ht
    rw [hgt] at hh
    rw [if_neg (by simp)] at h3
    have hA := fun W (hB : Below w.heap.size w W) => iha hw.2.1 (by omega) (fun _ => True) va W (Tree.same (SameBut.of_below hB) (fun _ _ _ => trivial) a va ha)
    have hB := fun W (hB : Below w.heap.size w W) => ihb hw.2.2 (by omega) (fun _ => True) vb W (Tree.same (SameBut.of_below hB) (fun _ _ _ => trivial) b vb hb)
    have := depth_rest c false (by rcases hw.1 with rfl | rfl <;> rfl) g (some ⟨bb, off, none⟩) cap (fun i => if i = 0 then va else vb) 2 (fun i => if i = 0 then depF a else depF b) w h0 h2 h3 (fun i hi => ⟨bb, off, rfl, by
        have h2 : i = 0 ∨ i = 1 := by omega
        rcases h2 with rfl | rfl
        · exact h4 0 va rfl
        · exact h4 1 vb rfl⟩) (fun i hi W hBW => by
        have h2 : i = 0 ∨ i = 1 := by omega
        rcases h2 with rfl | rfl
        · exact hA W hBW
        · exact hB W hBW) (by omega) (fun i m hi h => by
        have h2 : i = 0 ∨ i = 1 ∨ i = 2 := by omega
        have la := depF_le a
        have lb := depF_le b
        rcases h2 with rfl | rfl | rfl
        · simp [accD] at h; omega
        · cases hx : depF a <;> simp [accD, hx] at h
          have := la _ hx
          omega
        · cases hx : depF a <;> cases hy : depF b <;> simp [accD, hx, hy] at h
          have := la _ hx
          have := lb _ hy
          omega) (fun i m hi h => by
        have h2 : i = 0 ∨ i = 1 := by omega
        have la := depF_le a
        have lb := depF_le b
        rcases h2 with rfl | rfl
        · have := la m h; omega
        · have := lb m h; omega)
    refine this.mono ?_
    rintro e w' ⟨rfl, hB⟩
    refine ⟨?_, hB⟩
    cases hx : depF a <;> cases hy : depF b <;> simp [depRes, accD, depF, hx, hy]
  | one c a iha =>
    intro hw hh ok v w ht
    obtain ⟨va, ⟨g, bb, off, cap, rfl, o1, o2, h0, h1, h2, h3, h4⟩, ha⟩ := ht
    rw [hgt] at hh
    rw [if_neg (by simp)] at h3
    have hA := fun W (hB : Below w.heap.size w W) => iha hw.2 (by omega) (fun _ => True) va W (Tree.same (SameBut.of_below hB) (fun _ _ _ => trivial) a va ha)
    have := depth_rest c true (by rcases hw.1 with rfl | rfl <;> rfl) g (some ⟨bb, off, none⟩) cap (fun i => va) 1 (fun i => depF a) w h0 h2 h3 (fun i hi => ⟨bb, off, rfl, by
        obtain rfl : i = 0 := by omega
        exact h4 0 va rfl⟩) (fun i hi W hBW => hA W hBW) (by omega) (fun i m hi h => by
        have h2 : i = 0 ∨ i = 1 := by omega
        have la := depF_le a
        rcases h2 with rfl | rfl
        · simp [accD] at h; omega
        · cases hx : depF a <;> simp [accD, hx] at h
          have := la _ hx
          omega) (fun i m hi h => by have := depF_le a m h; omega)
    refine this.mono ?_
    rintro e w' ⟨rfl, hB⟩
    refine ⟨?_, hB⟩
    cases hx : depF a <;> simp [depRes, accD, depF, hx, hw.1]
  | fix c x a _ =>
    intro hw hh ok v w ht
    obtain ⟨va, ⟨g, bb, off, cap, rfl, o1, o2, h0, h1, h2, h3, h4⟩, ha⟩ := ht
    exact depth_named x (by have := hw.2.1.1; omega) g w h2
end Go.Proofs.Ytjffhhalmicodaa.X
end

section
set_option linter.unusedVariables false
set_option linter.unusedSimpArgs false
namespace Go.Proofs.Ytjffhhalmicodaa.X
open Go.RowKit Go.Proofs.G.PrintWords Go.Proofs.G.PrintLast Go.Proofs.G.PrintMore
theorem pair_C (wb : World) (x y : Int) : Kd.C (Kd.int .i64) (wb.alloc (.cells #[.int .i64 x, .int .i64 y] 3)) (some ⟨wb.heap.size, 0, none⟩) 2 [x, y] := by
 refine Kd.C_of_reads (d := (0 : Int)) (h1 := fun _ => rfl) ⟨rfl, by decide, fun _ => ⟨_, rfl, fun i hi => ?_⟩⟩
 have h := blk_cell (blk_new wb (.cells #[.int .i64 x, .int .i64 y] 3 (0, 0)))
 have h2 : i = 0 ∨ i = 1 := by omega
 rcases h2 with rfl | rfl
 ·exact (h 0).trans rfl
 ·exact (h 1).trans rfl
theorem hgt_str : ∀ f, hgt f ≤ (str f).length
 | .mark neg k => by simp [hgt]
 | .con c => by simp [hgt]
 | .var c => by simp [hgt]
 | .two c a b => by
  have := hgt_str a
  have := hgt_str b
  simp only [hgt, str, List.length_cons, List.length_append]
  omega
 | .one c a => by
  have := hgt_str a
  simp only [hgt, str, List.length_cons]
  omega
 | .fix c x a => by
  have := hgt_str a
  simp only [hgt, str, List.length_cons]
  omega
set_option maxRecDepth 100000 in
set_option maxHeartbeats 4000000 in
theorem check_off (A0 : Option Addr) (c0 : Nat) (nx : List Int) (A1 : Option Addr) (c1 : Nat) (mk : List Int) (s t : Int) (a : ByteArray) (w : World) (hr0 : Kd.C (Kd.int .i64) w A0 nx.length nx) (hc0 : nx.length ≤ c0) (hr1 : Kd.C (Kd.int .i64) w A1 mk.length mk) (hc1 : mk.length ≤ c1)
    (hst : fixes_isState.f nx mk [s, t] = some false) :
    Calls Try.prog 43 #[.agg #[.slice A0 nx.length c0, .slice A1 mk.length c1], .int .i64 s, .int .i64 t, .string a] w fun e w' => e = .returned (.tuple #[.int .i64 0, .bool false, .int .i64 2]) ∧ Below w.heap.size w w' := by
  have hu := Try.underlying28
  have hu2 := Try.underlying74
  have HR0 := Lib.hid hr0
  have HR1 := Lib.hid hr1
  have HST := Lib.hid hst
  clear hr0 hr1 hst
  go_enter Try.func43, Try.ntmps43
  go_wp2_with (first | ((with_reducible refine gate_dst (N := 4) rfl ?_); refine box_event ?hg (N := 4) ?hd (cs := #[.slice A0 nx.length c0, .slice A1 mk.length c1]) (t := 28) ?hr ?_; (case hd => rfl); (case hg => rfl); (case hr => first | (go_simp; done) | (go_simp; rfl)); intro gw hgw wb hbw hbb; have HBW := Lib.hid (bst (Below.refl w.heap.size w) hbb); have hw0 : wb.cell? ⟨gw, 0, none⟩ = some (.slice A0 nx.length c0) := (blk_cell hbw 0).trans rfl; have hw1 : wb.cell? ⟨gw, 1, none⟩ = some (.slice A1 mk.length c1) := (blk_cell hbw 1).trans rfl; clear hgw hbb hbw) | fail)
  have hbl := below_alloc (Below.refl wb.heap.size wb) (.cells #[.int .i64 s, .int .i64 t] 3)
  have HB3 := Lib.hid (bst HBW.out hbl)
  have k0_ := pwc hbl hw0
  have k1_ := pwc hbl hw1
  clear hw0 hw1 HBW hbl
  have hw0 := k0_
  have hw1 := k1_
  clear k0_ k1_
  have hCv := pair_C wb s t
  refine (fixes_isState.calls A0 c0 nx A1 c1 mk (some ⟨wb.heap.size, 0, none⟩) 2 [s, t] false _ (Kd.C_below HR0.out HB3.out) hc0 (Kd.C_below HR1.out HB3.out) hc1 hCv (Nat.le_refl _) HST.out).mono ?_
  rintro e w4 ⟨rfl, hb⟩
  have HB4 := Lib.hid (bst HB3.out hb)
  have k0 := pwc hb hw0
  have k1 := pwc hb hw1
  clear hb hw0 hw1 HB3 hCv
  have hw0 := k0
  have hw1 := k1
  clear k0 k1
  go_wp2_with fail
  go_ret3
  exact ⟨rfl, HB4.out⟩
set_option maxRecDepth 100000 in
set_option maxHeartbeats 4000000 in
theorem check_form (A0 : Option Addr) (c0 : Nat) (nx : List Int) (A1 : Option Addr) (c1 : Nat) (mk : List Int) (s t : Nat) (a : ByteArray) (w : World) (hr0 : Kd.C (Kd.int .i64) w A0 nx.length nx) (hc0 : nx.length ≤ c0) (hr1 : Kd.C (Kd.int .i64) w A1 mk.length mk) (hc1 : mk.length ≤ c1)
    (hst : fixes_isState.f nx mk [(s : Int), (t : Int)] = some true) (hpa : (if (a.size : Int) ≤ 4000 then whole (cs a) else none) = none) :
    Calls Try.prog 43 #[.agg #[.slice A0 nx.length c0, .slice A1 mk.length c1], .int .i64 (s : Int), .int .i64 (t : Int), .string a] w fun e w' => e = .returned (.tuple #[.int .i64 0, .bool false, .int .i64 0]) ∧ Below w.heap.size w w' := by
  have hu := Try.underlying28
  have hu2 := Try.underlying74
  have HR0 := Lib.hid hr0
  have HR1 := Lib.hid hr1
  have HST := Lib.hid hst
  have HPA := Lib.hid hpa
  clear hpa
  clear hr0 hr1 hst
  go_enter Try.func43, Try.ntmps43
  go_wp2_with (first | ((with_reducible refine gate_dst (N := 4) rfl ?_); refine box_event ?hg (N := 4) ?hd (cs := #[.slice A0 nx.length c0, .slice A1 mk.length c1]) (t := 28) ?hr ?_; (case hd => rfl); (case hg => rfl); (case hr => first | (go_simp; done) | (go_simp; rfl)); intro gw hgw wb hbw hbb; have HBW := Lib.hid (bst (Below.refl w.heap.size w) hbb); have hw0 : wb.cell? ⟨gw, 0, none⟩ = some (.slice A0 nx.length c0) := (blk_cell hbw 0).trans rfl; have hw1 : wb.cell? ⟨gw, 1, none⟩ = some (.slice A1 mk.length c1) := (blk_cell hbw 1).trans rfl; clear hgw hbb hbw) | fail)
  have hbl := below_alloc (Below.refl wb.heap.size wb) (.cells #[.int .i64 (s : Int), .int .i64 (t : Int)] 3)
  have HB3 := Lib.hid (bst HBW.out hbl)
  have k0_ := pwc hbl hw0
  have k1_ := pwc hbl hw1
  clear hw0 hw1 HBW hbl
  have hw0 := k0_
  have hw1 := k1_
  clear k0_ k1_
  have hCv := pair_C wb (s : Int) (t : Int)
  refine (fixes_isState.calls A0 c0 nx A1 c1 mk (some ⟨wb.heap.size, 0, none⟩) 2 [(s : Int), (t : Int)] true _ (Kd.C_below HR0.out HB3.out) hc0 (Kd.C_below HR1.out HB3.out) hc1 hCv (Nat.le_refl _) HST.out).mono ?_
  rintro e w4 ⟨rfl, hb⟩
  have HB4 := Lib.hid (bst HB3.out hb)
  have k0 := pwc hb hw0
  have k1 := pwc hb hw1
  clear hb hw0 hw1 HB3 hCv
  have hw0 := k0
  have hw1 := k1
  clear k0 k1
  go_wp2_with fail
  refine (parse_calls a 4000 w4 (by decide)).mono ?_
  rintro e w5 ⟨hb, hp⟩
  rw [HPA.out] at hp
  have HB5 := Lib.hid (bst HB4.out hb)
  have k0 := pwc hb hw0
  have k1 := pwc hb hw1
  clear hb hw0 hw1 HB4
  have hw0 := k0
  have hw1 := k1
  clear k0 k1
  have he' : e = .returned (.pointer none) := hp
  subst he'
  clear hp
  go_wp2_with fail
  go_ret3
  exact ⟨rfl, HB5.out⟩
set_option maxRecDepth 100000 in
set_option maxHeartbeats 4000000 in
theorem check_letters (A0 : Option Addr) (c0 : Nat) (nx : List Int) (A1 : Option Addr) (c1 : Nat) (mk : List Int) (s t : Nat) (a : ByteArray) (f : Fm) (w : World) (hr0 : Kd.C (Kd.int .i64) w A0 nx.length nx) (hc0 : nx.length ≤ c0) (hr1 : Kd.C (Kd.int .i64) w A1 mk.length mk) (hc1 : mk.length ≤ c1)
    (hst : fixes_isState.f nx mk [(s : Int), (t : Int)] = some true) (hpa : (if (a.size : Int) ≤ 4000 then whole (cs a) else none) = some f) (hwf : WF f) (hhg : hgt f ≤ 100000) (hdf : depF f = none) :
    Calls Try.prog 43 #[.agg #[.slice A0 nx.length c0, .slice A1 mk.length c1], .int .i64 (s : Int), .int .i64 (t : Int), .string a] w fun e w' => e = .returned (.tuple #[.int .i64 0, .bool false, .int .i64 0]) ∧ Below w.heap.size w w' := by
  have hu := Try.underlying28
  have hu2 := Try.underlying74
  have HR0 := Lib.hid hr0
  have HR1 := Lib.hid hr1
  have HST := Lib.hid hst
  have HPA := Lib.hid hpa
  have HWF := Lib.hid hwf
  have HHG := Lib.hid hhg
  have HDF := Lib.hid hdf
  clear hpa hwf hhg hdf
  clear hr0 hr1 hst
  go_enter Try.func43, Try.ntmps43
  go_wp2_with (first | ((with_reducible refine gate_dst (N := 4) rfl ?_); refine box_event ?hg (N := 4) ?hd (cs := #[.slice A0 nx.length c0, .slice A1 mk.length c1]) (t := 28) ?hr ?_; (case hd => rfl); (case hg => rfl); (case hr => first | (go_simp; done) | (go_simp; rfl)); intro gw hgw wb hbw hbb; have HBW := Lib.hid (bst (Below.refl w.heap.size w) hbb); have hw0 : wb.cell? ⟨gw, 0, none⟩ = some (.slice A0 nx.length c0) := (blk_cell hbw 0).trans rfl; have hw1 : wb.cell? ⟨gw, 1, none⟩ = some (.slice A1 mk.length c1) := (blk_cell hbw 1).trans rfl; clear hgw hbb hbw) | fail)
  have hbl := below_alloc (Below.refl wb.heap.size wb) (.cells #[.int .i64 (s : Int), .int .i64 (t : Int)] 3)
  have HB3 := Lib.hid (bst HBW.out hbl)
  have k0_ := pwc hbl hw0
  have k1_ := pwc hbl hw1
  clear hw0 hw1 HBW hbl
  have hw0 := k0_
  have hw1 := k1_
  clear k0_ k1_
  have hCv := pair_C wb (s : Int) (t : Int)
  refine (fixes_isState.calls A0 c0 nx A1 c1 mk (some ⟨wb.heap.size, 0, none⟩) 2 [(s : Int), (t : Int)] true _ (Kd.C_below HR0.out HB3.out) hc0 (Kd.C_below HR1.out HB3.out) hc1 hCv (Nat.le_refl _) HST.out).mono ?_
  rintro e w4 ⟨rfl, hb⟩
  have HB4 := Lib.hid (bst HB3.out hb)
  have k0 := pwc hb hw0
  have k1 := pwc hb hw1
  clear hb hw0 hw1 HB3 hCv
  have hw0 := k0
  have hw1 := k1
  clear k0 k1
  go_wp2_with fail
  refine (parse_calls a 4000 w4 (by decide)).mono ?_
  rintro e w5 ⟨hb, hp⟩
  rw [HPA.out] at hp
  have HB5 := Lib.hid (bst HB4.out hb)
  have k0 := pwc hb hw0
  have k1 := pwc hb hw1
  clear hb hw0 hw1 HB4
  have hw0 := k0
  have hw1 := k1
  clear k0 k1
  obtain ⟨v, rfl, ht⟩ := hp
  obtain ⟨gk, rfl⟩ := ht.ptr
  have HT := Lib.hid ht
  clear ht
  go_wp2_with fail
  refine (depth_all f HWF.out HHG.out _ _ w5 HT.out).mono ?_
  rintro e w6 ⟨he, hb⟩
  rw [HDF.out] at he
  have HB6 := Lib.hid (bst HB5.out hb)
  have HT6 := Lib.hid (Tree.same (ok' := fun _ => True) (SameBut.of_below hb) (fun _ _ _ => trivial) f _ HT.out)
  have k0 := pwc hb hw0
  have k1 := pwc hb hw1
  clear hb hw0 hw1 HB5 HT
  have hw0 := k0
  have hw1 := k1
  clear k0 k1
  have he' : e = .returned (.tuple #[.int .i64 0, .bool false]) := he
  subst he'
  clear he
  go_wp2_with fail
  go_ret3
  exact ⟨rfl, HB6.out⟩
set_option maxRecDepth 100000 in
set_option maxHeartbeats 4000000 in
theorem check_not1 (A0 : Option Addr) (c0 : Nat) (nx : List Int) (A1 : Option Addr) (c1 : Nat) (mk : List Int) (s t : Nat) (a : ByteArray) (f : Fm) (d k : Nat) (set : Int) (m' : List (Int × Int)) (w : World) (hr0 : Kd.C (Kd.int .i64) w A0 nx.length nx) (hc0 : nx.length ≤ c0) (hr1 : Kd.C (Kd.int .i64) w A1 mk.length mk) (hc1 : mk.length ≤ c1)
    (hst : fixes_isState.f nx mk [(s : Int), (t : Int)] = some true) (hpa : (if (a.size : Int) ≤ 4000 then whole (cs a) else none) = some f) (hwf : WF f) (hhg : hgt f ≤ 100000) (hdf : depF f = some d) (hln : nx.length = mk.length) (hho : holdF nx mk k f [] = some (set, m')) (hs62 : s ≤ 62) (ht62 : t ≤ 62) (h1 : (bits .and .i64 (set / 2 ^ s) 1 == 0) = true) :
    Calls Try.prog 43 #[.agg #[.slice A0 nx.length c0, .slice A1 mk.length c1], .int .i64 (s : Int), .int .i64 (t : Int), .string a] w fun e w' => e = .returned (.tuple #[.int .i64 0, .bool false, .int .i64 0]) ∧ Below w.heap.size w w' := by
  have hu := Try.underlying28
  have hu2 := Try.underlying74
  have HR0 := Lib.hid hr0
  have HR1 := Lib.hid hr1
  have HST := Lib.hid hst
  have HPA := Lib.hid hpa
  have HWF := Lib.hid hwf
  have HHG := Lib.hid hhg
  have HDF := Lib.hid hdf
  have HLN := Lib.hid hln
  have HHO := Lib.hid hho
  clear hpa hwf hhg hdf hln hho
  clear hr0 hr1 hst
  go_enter Try.func43, Try.ntmps43
  go_wp2_with (first | ((with_reducible refine gate_dst (N := 4) rfl ?_); refine box_event ?hg (N := 4) ?hd (cs := #[.slice A0 nx.length c0, .slice A1 mk.length c1]) (t := 28) ?hr ?_; (case hd => rfl); (case hg => rfl); (case hr => first | (go_simp; done) | (go_simp; rfl)); intro gw hgw wb hbw hbb; have HBW := Lib.hid (bst (Below.refl w.heap.size w) hbb); have hw0 : wb.cell? ⟨gw, 0, none⟩ = some (.slice A0 nx.length c0) := (blk_cell hbw 0).trans rfl; have hw1 : wb.cell? ⟨gw, 1, none⟩ = some (.slice A1 mk.length c1) := (blk_cell hbw 1).trans rfl; clear hgw hbb hbw) | fail)
  have hbl := below_alloc (Below.refl wb.heap.size wb) (.cells #[.int .i64 (s : Int), .int .i64 (t : Int)] 3)
  have HB3 := Lib.hid (bst HBW.out hbl)
  have k0_ := pwc hbl hw0
  have k1_ := pwc hbl hw1
  clear hw0 hw1 HBW hbl
  have hw0 := k0_
  have hw1 := k1_
  clear k0_ k1_
  have hCv := pair_C wb (s : Int) (t : Int)
  refine (fixes_isState.calls A0 c0 nx A1 c1 mk (some ⟨wb.heap.size, 0, none⟩) 2 [(s : Int), (t : Int)] true _ (Kd.C_below HR0.out HB3.out) hc0 (Kd.C_below HR1.out HB3.out) hc1 hCv (Nat.le_refl _) HST.out).mono ?_
  rintro e w4 ⟨rfl, hb⟩
  have HB4 := Lib.hid (bst HB3.out hb)
  have k0 := pwc hb hw0
  have k1 := pwc hb hw1
  clear hb hw0 hw1 HB3 hCv
  have hw0 := k0
  have hw1 := k1
  clear k0 k1
  go_wp2_with fail
  refine (parse_calls a 4000 w4 (by decide)).mono ?_
  rintro e w5 ⟨hb, hp⟩
  rw [HPA.out] at hp
  have HB5 := Lib.hid (bst HB4.out hb)
  have k0 := pwc hb hw0
  have k1 := pwc hb hw1
  clear hb hw0 hw1 HB4
  have hw0 := k0
  have hw1 := k1
  clear k0 k1
  obtain ⟨v, rfl, ht⟩ := hp
  obtain ⟨gk, rfl⟩ := ht.ptr
  have HT := Lib.hid ht
  clear ht
  go_wp2_with fail
  refine (depth_all f HWF.out HHG.out _ _ w5 HT.out).mono ?_
  rintro e w6 ⟨he, hb⟩
  rw [HDF.out] at he
  have HB6 := Lib.hid (bst HB5.out hb)
  have HT6 := Lib.hid (Tree.same (ok' := fun _ => True) (SameBut.of_below hb) (fun _ _ _ => trivial) f _ HT.out)
  have k0 := pwc hb hw0
  have k1 := pwc hb hw1
  clear hb hw0 hw1 HB5 HT
  have hw0 := k0
  have hw1 := k1
  clear k0 k1
  have he' : e = .returned (.tuple #[.int .i64 (d : Int), .bool true]) := he
  subst he'
  clear he
  go_wp2_with (first | ((with_reducible refine gate_op (op := .makeMap 65 none) rfl ?_); refine map_make_event rfl 65 rfl ?_; intro r0 wm hr0 hm hb; have HM_ := Lib.hid (IsM.mk' (enc := Value.int .u8) (encv := Value.int .i64) (l := []) hm rfl); have HW_ := Lib.hid (bst HB6.out hb); have HT2 := Lib.hid (Tree.same (ok' := fun _ => True) (SameBut.of_below hb) (fun _ _ _ => trivial) f _ HT6.out); have hle : w.heap.size ≤ r0 := (by rw [hr0]; exact HB6.out.size); have HZ_ := Lib.hid hle; clear hm hb hr0 hle) | fail)
  refine (holds_all nx mk HLN.out k f [] set m' HHO.out A0 c0 A1 c1 _ _ r0 wm (Kd.C_below HR0.out HW_.out) hc0 (Kd.C_below HR1.out HW_.out) hc1 HT2.out HM_.out).mono ?_
  rintro e w9 ⟨rfl, hp⟩
  have HB9 := Lib.hid (hp.low _ _ HW_.out HZ_.out)
  clear hp
  go_wp2_with fail
  go_ret3
  exact ⟨rfl, HB9.out⟩
set_option maxRecDepth 100000 in
set_option maxHeartbeats 4000000 in
theorem check_not2 (A0 : Option Addr) (c0 : Nat) (nx : List Int) (A1 : Option Addr) (c1 : Nat) (mk : List Int) (s t : Nat) (a : ByteArray) (f : Fm) (d k : Nat) (set : Int) (m' : List (Int × Int)) (w : World) (hr0 : Kd.C (Kd.int .i64) w A0 nx.length nx) (hc0 : nx.length ≤ c0) (hr1 : Kd.C (Kd.int .i64) w A1 mk.length mk) (hc1 : mk.length ≤ c1)
    (hst : fixes_isState.f nx mk [(s : Int), (t : Int)] = some true) (hpa : (if (a.size : Int) ≤ 4000 then whole (cs a) else none) = some f) (hwf : WF f) (hhg : hgt f ≤ 100000) (hdf : depF f = some d) (hln : nx.length = mk.length) (hho : holdF nx mk k f [] = some (set, m')) (hs62 : s ≤ 62) (ht62 : t ≤ 62) (h1 : (bits .and .i64 (set / 2 ^ s) 1 == 0) = false) (h2 : (bits .and .i64 (set / 2 ^ t) 1 == 1) = true) :
    Calls Try.prog 43 #[.agg #[.slice A0 nx.length c0, .slice A1 mk.length c1], .int .i64 (s : Int), .int .i64 (t : Int), .string a] w fun e w' => e = .returned (.tuple #[.int .i64 0, .bool false, .int .i64 0]) ∧ Below w.heap.size w w' := by
  have hu := Try.underlying28
  have hu2 := Try.underlying74
  have HR0 := Lib.hid hr0
  have HR1 := Lib.hid hr1
  have HST := Lib.hid hst
  have HPA := Lib.hid hpa
  have HWF := Lib.hid hwf
  have HHG := Lib.hid hhg
  have HDF := Lib.hid hdf
  have HLN := Lib.hid hln
  have HHO := Lib.hid hho
  clear hpa hwf hhg hdf hln hho
  clear hr0 hr1 hst
  go_enter Try.func43, Try.ntmps43
  go_wp2_with (first | ((with_reducible refine gate_dst (N := 4) rfl ?_); refine box_event ?hg (N := 4) ?hd (cs := #[.slice A0 nx.length c0, .slice A1 mk.length c1]) (t := 28) ?hr ?_; (case hd => rfl); (case hg => rfl); (case hr => first | (go_simp; done) | (go_simp; rfl)); intro gw hgw wb hbw hbb; have HBW := Lib.hid (bst (Below.refl w.heap.size w) hbb); have hw0 : wb.cell? ⟨gw, 0, none⟩ = some (.slice A0 nx.length c0) := (blk_cell hbw 0).trans rfl; have hw1 : wb.cell? ⟨gw, 1, none⟩ = some (.slice A1 mk.length c1) := (blk_cell hbw 1).trans rfl; clear hgw hbb hbw) | fail)
  have hbl := below_alloc (Below.refl wb.heap.size wb) (.cells #[.int .i64 (s : Int), .int .i64 (t : Int)] 3)
  have HB3 := Lib.hid (bst HBW.out hbl)
  have k0_ := pwc hbl hw0
  have k1_ := pwc hbl hw1
  clear hw0 hw1 HBW hbl
  have hw0 := k0_
  have hw1 := k1_
  clear k0_ k1_
  have hCv := pair_C wb (s : Int) (t : Int)
  refine (fixes_isState.calls A0 c0 nx A1 c1 mk (some ⟨wb.heap.size, 0, none⟩) 2 [(s : Int), (t : Int)] true _ (Kd.C_below HR0.out HB3.out) hc0 (Kd.C_below HR1.out HB3.out) hc1 hCv (Nat.le_refl _) HST.out).mono ?_
  rintro e w4 ⟨rfl, hb⟩
  have HB4 := Lib.hid (bst HB3.out hb)
  have k0 := pwc hb hw0
  have k1 := pwc hb hw1
  clear hb hw0 hw1 HB3 hCv
  have hw0 := k0
  have hw1 := k1
  clear k0 k1
  go_wp2_with fail
  refine (parse_calls a 4000 w4 (by decide)).mono ?_
  rintro e w5 ⟨hb, hp⟩
  rw [HPA.out] at hp
  have HB5 := Lib.hid (bst HB4.out hb)
  have k0 := pwc hb hw0
  have k1 := pwc hb hw1
  clear hb hw0 hw1 HB4
  have hw0 := k0
  have hw1 := k1
  clear k0 k1
  obtain ⟨v, rfl, ht⟩ := hp
  obtain ⟨gk, rfl⟩ := ht.ptr
  have HT := Lib.hid ht
  clear ht
  go_wp2_with fail
  refine (depth_all f HWF.out HHG.out _ _ w5 HT.out).mono ?_
  rintro e w6 ⟨he, hb⟩
  rw [HDF.out] at he
  have HB6 := Lib.hid (bst HB5.out hb)
  have HT6 := Lib.hid (Tree.same (ok' := fun _ => True) (SameBut.of_below hb) (fun _ _ _ => trivial) f _ HT.out)
  have k0 := pwc hb hw0
  have k1 := pwc hb hw1
  clear hb hw0 hw1 HB5 HT
  have hw0 := k0
  have hw1 := k1
  clear k0 k1
  have he' : e = .returned (.tuple #[.int .i64 (d : Int), .bool true]) := he
  subst he'
  clear he
  go_wp2_with (first | ((with_reducible refine gate_op (op := .makeMap 65 none) rfl ?_); refine map_make_event rfl 65 rfl ?_; intro r0 wm hr0 hm hb; have HM_ := Lib.hid (IsM.mk' (enc := Value.int .u8) (encv := Value.int .i64) (l := []) hm rfl); have HW_ := Lib.hid (bst HB6.out hb); have HT2 := Lib.hid (Tree.same (ok' := fun _ => True) (SameBut.of_below hb) (fun _ _ _ => trivial) f _ HT6.out); have hle : w.heap.size ≤ r0 := (by rw [hr0]; exact HB6.out.size); have HZ_ := Lib.hid hle; clear hm hb hr0 hle) | fail)
  refine (holds_all nx mk HLN.out k f [] set m' HHO.out A0 c0 A1 c1 _ _ r0 wm (Kd.C_below HR0.out HW_.out) hc0 (Kd.C_below HR1.out HW_.out) hc1 HT2.out HM_.out).mono ?_
  rintro e w9 ⟨rfl, hp⟩
  have HB9 := Lib.hid (hp.low _ _ HW_.out HZ_.out)
  clear hp
  go_wp2_with fail
  go_ret3
  exact ⟨rfl, HB9.out⟩
set_option maxRecDepth 100000 in
set_option maxHeartbeats 4000000 in
theorem check_yes (A0 : Option Addr) (c0 : Nat) (nx : List Int) (A1 : Option Addr) (c1 : Nat) (mk : List Int) (s t : Nat) (a : ByteArray) (f : Fm) (d k : Nat) (set : Int) (m' : List (Int × Int)) (w : World) (hr0 : Kd.C (Kd.int .i64) w A0 nx.length nx) (hc0 : nx.length ≤ c0) (hr1 : Kd.C (Kd.int .i64) w A1 mk.length mk) (hc1 : mk.length ≤ c1)
    (hst : fixes_isState.f nx mk [(s : Int), (t : Int)] = some true) (hpa : (if (a.size : Int) ≤ 4000 then whole (cs a) else none) = some f) (hwf : WF f) (hhg : hgt f ≤ 100000) (hdf : depF f = some d) (hln : nx.length = mk.length) (hho : holdF nx mk k f [] = some (set, m')) (hs62 : s ≤ 62) (ht62 : t ≤ 62) (h1 : (bits .and .i64 (set / 2 ^ s) 1 == 0) = false) (h2 : (bits .and .i64 (set / 2 ^ t) 1 == 1) = false) :
    Calls Try.prog 43 #[.agg #[.slice A0 nx.length c0, .slice A1 mk.length c1], .int .i64 (s : Int), .int .i64 (t : Int), .string a] w fun e w' => e = .returned (.tuple #[.int .i64 (d : Int), .bool true, .int .i64 0]) ∧ Below w.heap.size w w' := by
  have hu := Try.underlying28
  have hu2 := Try.underlying74
  have HR0 := Lib.hid hr0
  have HR1 := Lib.hid hr1
  have HST := Lib.hid hst
  have HPA := Lib.hid hpa
  have HWF := Lib.hid hwf
  have HHG := Lib.hid hhg
  have HDF := Lib.hid hdf
  have HLN := Lib.hid hln
  have HHO := Lib.hid hho
  clear hpa hwf hhg hdf hln hho
  clear hr0 hr1 hst
  go_enter Try.func43, Try.ntmps43
  go_wp2_with (first | ((with_reducible refine gate_dst (N := 4) rfl ?_); refine box_event ?hg (N := 4) ?hd (cs := #[.slice A0 nx.length c0, .slice A1 mk.length c1]) (t := 28) ?hr ?_; (case hd => rfl); (case hg => rfl); (case hr => first | (go_simp; done) | (go_simp; rfl)); intro gw hgw wb hbw hbb; have HBW := Lib.hid (bst (Below.refl w.heap.size w) hbb); have hw0 : wb.cell? ⟨gw, 0, none⟩ = some (.slice A0 nx.length c0) := (blk_cell hbw 0).trans rfl; have hw1 : wb.cell? ⟨gw, 1, none⟩ = some (.slice A1 mk.length c1) := (blk_cell hbw 1).trans rfl; clear hgw hbb hbw) | fail)
  have hbl := below_alloc (Below.refl wb.heap.size wb) (.cells #[.int .i64 (s : Int), .int .i64 (t : Int)] 3)
  have HB3 := Lib.hid (bst HBW.out hbl)
  have k0_ := pwc hbl hw0
  have k1_ := pwc hbl hw1
  clear hw0 hw1 HBW hbl
  have hw0 := k0_
  have hw1 := k1_
  clear k0_ k1_
  have hCv := pair_C wb (s : Int) (t : Int)
  refine (fixes_isState.calls A0 c0 nx A1 c1 mk (some ⟨wb.heap.size, 0, none⟩) 2 [(s : Int), (t : Int)] true _ (Kd.C_below HR0.out HB3.out) hc0 (Kd.C_below HR1.out HB3.out) hc1 hCv (Nat.le_refl _) HST.out).mono ?_
  rintro e w4 ⟨rfl, hb⟩
  have HB4 := Lib.hid (bst HB3.out hb)
  have k0 := pwc hb hw0
  have k1 := pwc hb hw1
  clear hb hw0 hw1 HB3 hCv
  have hw0 := k0
  have hw1 := k1
  clear k0 k1
  go_wp2_with fail
  refine (parse_calls a 4000 w4 (by decide)).mono ?_
  rintro e w5 ⟨hb, hp⟩
  rw [HPA.out] at hp
  have HB5 := Lib.hid (bst HB4.out hb)
  have k0 := pwc hb hw0
  have k1 := pwc hb hw1
  clear hb hw0 hw1 HB4
  have hw0 := k0
  have hw1 := k1
  clear k0 k1
  obtain ⟨v, rfl, ht⟩ := hp
  obtain ⟨gk, rfl⟩ := ht.ptr
  have HT := Lib.hid ht
  clear ht
  go_wp2_with fail
  refine (depth_all f HWF.out HHG.out _ _ w5 HT.out).mono ?_
  rintro e w6 ⟨he, hb⟩
  rw [HDF.out] at he
  have HB6 := Lib.hid (bst HB5.out hb)
  have HT6 := Lib.hid (Tree.same (ok' := fun _ => True) (SameBut.of_below hb) (fun _ _ _ => trivial) f _ HT.out)
  have k0 := pwc hb hw0
  have k1 := pwc hb hw1
  clear hb hw0 hw1 HB5 HT
  have hw0 := k0
  have hw1 := k1
  clear k0 k1
  have he' : e = .returned (.tuple #[.int .i64 (d : Int), .bool true]) := he
  subst he'
  clear he
  go_wp2_with (first | ((with_reducible refine gate_op (op := .makeMap 65 none) rfl ?_); refine map_make_event rfl 65 rfl ?_; intro r0 wm hr0 hm hb; have HM_ := Lib.hid (IsM.mk' (enc := Value.int .u8) (encv := Value.int .i64) (l := []) hm rfl); have HW_ := Lib.hid (bst HB6.out hb); have HT2 := Lib.hid (Tree.same (ok' := fun _ => True) (SameBut.of_below hb) (fun _ _ _ => trivial) f _ HT6.out); have hle : w.heap.size ≤ r0 := (by rw [hr0]; exact HB6.out.size); have HZ_ := Lib.hid hle; clear hm hb hr0 hle) | fail)
  refine (holds_all nx mk HLN.out k f [] set m' HHO.out A0 c0 A1 c1 _ _ r0 wm (Kd.C_below HR0.out HW_.out) hc0 (Kd.C_below HR1.out HW_.out) hc1 HT2.out HM_.out).mono ?_
  rintro e w9 ⟨rfl, hp⟩
  have HB9 := Lib.hid (hp.low _ _ HW_.out HZ_.out)
  clear hp
  go_wp2_with fail
  go_ret3
  exact ⟨rfl, HB9.out⟩
end Go.Proofs.Ytjffhhalmicodaa.X
end

section
set_option linter.unusedVariables false
set_option linter.unusedSimpArgs false
namespace Go.Proofs.Ytjffhhalmicodaa.X
open Go.RowKit Go.Proofs.G.PrintWords Go.Proofs.G.PrintLast Go.Proofs.G.PrintMore
theorem foldY_mono {T T' : Nat → Nat → Nat → Option ByteArray} (h : ∀ d s t, LeO (T d s t) (T' d s t)) (nx : List Int) (d t x : Nat) (turned : Bool) (jb ob : ByteArray) : ∀ n, LeO (foldY T nx d t x turned jb ob n) (foldY T' nx d t x turned jb ob n)
  | 0 => LeO.refl _
  | n + 1 => by
    rw [foldY, foldY]
    exact LeO.bind (foldY_mono h nx d t x turned jb ob n) (fun _ => LeO.ite (LeO.refl _) (LeO.bind (LeO.ite (h _ _ _) (h _ _ _)) (fun _ => LeO.refl _)))
theorem someF_mono {T T' : Nat → Nat → Nat → Option ByteArray} (h : ∀ d s t, LeO (T d s t) (T' d s t)) (nx : List Int) (L : List (List Int)) (d s t : Nat) (nb jb ob : ByteArray) (turned : Bool) : LeO (someF T nx L d s t nb jb ob turned) (someF T' nx L d s t nb jb ob turned) := by
  unfold someF
  refine LeO.ite ?_ (LeO.refl _)
  split
  · exact LeO.refl _
  · exact LeO.bind (foldY_mono h nx _ t _ turned jb ob _) (fun _ => LeO.refl _)
theorem tellF_mono {T T' : Nat → Nat → Nat → Option ByteArray} (h : ∀ d s t, LeO (T d s t) (T' d s t)) (nx mk : List Int) (L : List (List Int)) (d s t : Nat) : LeO (tellF nx mk L T d s t) (tellF nx mk L T' d s t) := by
  unfold tellF
  refine LeO.ite ?_ (LeO.refl _)
  split
  · exact LeO.refl _
  · exact LeO.bind (someF_mono h nx L _ s t _ _ _ _) (fun _ => LeO.ite (LeO.refl _) (LeO.bind (someF_mono h nx L _ t s _ _ _ _) (fun _ => LeO.refl _)))
theorem tellK_mono (nx mk : List Int) (L : List (List Int)) : ∀ k d s t, LeO (tellK nx mk L k d s t) (tellK nx mk L (k + 1) d s t)
  | 0, d, s, t => fun r h => by simp [tellK] at h
  | k + 1, d, s, t => tellF_mono (tellK_mono nx mk L k) nx mk L d s t
def fixes_CheckTell.f (k : Nat) (l0_0 l0_1 : List Int) (a1 a2 : Int) (a3 : ByteArray) : Option (Int × Bool × Int) :=
 (fixes_isState.f l0_0 l0_1 [a1, a2]).bind fun b => if b = true then
  (match (if (a3.size : Int) ≤ 4000 then whole (cs a3) else none) with
  | none => some (0, false, 0)
  | some f => match depF f with
   | none => some (0, false, 0)
   | some d => if l0_0.length ≤ 61 then ((holdF l0_0 l0_1 k f []).bind fun p => if bits .and .i64 (p.1 / 2 ^ a1.toNat) 1 = 0 then some (0, false, 0) else if bits .and .i64 (p.1 / 2 ^ a2.toNat) 1 = 1 then some (0, false, 0) else some ((d : Int), true, 0)) else none)
 else some (0, false, 2)
theorem fixes_CheckTell.calls (k : Nat) (A0_0 : Option Addr) (c0_0 : Nat) (l0_0 : List Int) (A0_1 : Option Addr) (c0_1 : Nat) (l0_1 : List Int) (a1 a2 : Int) (a3 : ByteArray) (r1 : Int) (r2 : Bool) (r3 : Int) (w : World) (hr0_0 : Kd.C (Kd.int .i64) w A0_0 l0_0.length l0_0) (hc0_0 : l0_0.length ≤ c0_0) (hr0_1 : Kd.C (Kd.int .i64) w A0_1 l0_1.length l0_1) (hc0_1 : l0_1.length ≤ c0_1) (h : fixes_CheckTell.f k l0_0 l0_1 a1 a2 a3 = some (r1, r2, r3)) :
    Calls Try.prog 43 #[.agg #[.slice A0_0 l0_0.length c0_0, .slice A0_1 l0_1.length c0_1], .int .i64 a1, .int .i64 a2, .string a3] w fun e w' => e = .returned (.tuple #[.int .i64 r1, .bool r2, .int .i64 r3]) ∧ Below w.heap.size w w' := by
  unfold fixes_CheckTell.f at h
  obtain ⟨b, hb, h⟩ := Option.bind_eq_some_iff.mp h
  cases b with
  | false =>
    simp only [Bool.false_eq_true, if_false, Option.some.injEq, Prod.mk.injEq] at h
    obtain ⟨rfl, rfl, rfl⟩ := h
    exact check_off A0_0 c0_0 l0_0 A0_1 c0_1 l0_1 a1 a2 a3 w hr0_0 hc0_0 hr0_1 hc0_1 hb
  | true =>
    simp only [if_true] at h
    have hb2 := hb
    unfold fixes_isState.f at hb2
    obtain ⟨v, hv, hb2⟩ := Option.bind_eq_some_iff.mp hb2
    cases v with
    | false => simp at hb2
    | true =>
      simp only [if_true, Option.some.injEq] at hb2
      have hrange : (0 ≤ a1 ∧ a1 < l0_0.length) ∧ (0 ≤ a2 ∧ a2 < l0_0.length) := by
        simp [offS] at hb2
        omega
      obtain ⟨⟨h10, h11⟩, h20, h21⟩ := hrange
      obtain ⟨s, rfl⟩ := Int.eq_ofNat_of_zero_le h10
      obtain ⟨t, rfl⟩ := Int.eq_ofNat_of_zero_le h20
      rw [Int.toNat_natCast, Int.toNat_natCast] at h
      have hln := (valid_len hv).2.2
      cases hpa : (if (a3.size : Int) ≤ 4000 then whole (cs a3) else none) with
      | none =>
        rw [hpa] at h
        simp only [Option.some.injEq, Prod.mk.injEq] at h
        obtain ⟨rfl, rfl, rfl⟩ := h
        exact check_form A0_0 c0_0 l0_0 A0_1 c0_1 l0_1 s t a3 w hr0_0 hc0_0 hr0_1 hc0_1 hb hpa
      | some f =>
        rw [hpa] at h
        have hsz : (a3.size : Int) ≤ 4000 ∧ whole (cs a3) = some f := by
          by_cases q : (a3.size : Int) ≤ 4000
          · rw [if_pos q] at hpa; exact ⟨q, hpa⟩
          · rw [if_neg q] at hpa; cases hpa
        obtain ⟨hstr, hwf⟩ := whole_str hsz.2
        have hhg : hgt f ≤ 100000 := by
          have h1 := hgt_str f
          have h2 : (cs a3).length = a3.size := cs_length a3
          rw [hstr] at h2
          have := hsz.1
          omega
        cases hdf : depF f with
        | none =>
          simp only [hdf, Option.some.injEq, Prod.mk.injEq] at h
          obtain ⟨rfl, rfl, rfl⟩ := h
          exact check_letters A0_0 c0_0 l0_0 A0_1 c0_1 l0_1 s t a3 f w hr0_0 hc0_0 hr0_1 hc0_1 hb hpa hwf hhg hdf
        | some d =>
          simp only [hdf] at h
          split at h
          · rename_i h61
            obtain ⟨p, hp, h⟩ := Option.bind_eq_some_iff.mp h
            obtain ⟨set, m'⟩ := p
            by_cases h1 : bits .and .i64 (set / 2 ^ s) 1 = 0
            · rw [if_pos h1] at h
              simp only [Option.some.injEq, Prod.mk.injEq] at h
              obtain ⟨rfl, rfl, rfl⟩ := h
              exact check_not1 A0_0 c0_0 l0_0 A0_1 c0_1 l0_1 s t a3 f d k set m' w hr0_0 hc0_0 hr0_1 hc0_1 hb hpa hwf hhg hdf hln hp (by omega) (by omega) (beq_iff_eq.2 h1)
            · rw [if_neg h1] at h
              by_cases h2 : bits .and .i64 (set / 2 ^ t) 1 = 1
              · rw [if_pos h2] at h
                simp only [Option.some.injEq, Prod.mk.injEq] at h
                obtain ⟨rfl, rfl, rfl⟩ := h
                exact check_not2 A0_0 c0_0 l0_0 A0_1 c0_1 l0_1 s t a3 f d k set m' w hr0_0 hc0_0 hr0_1 hc0_1 hb hpa hwf hhg hdf hln hp (by omega) (by omega) (beq_eq_false_iff_ne.2 h1) (beq_iff_eq.2 h2)
              · rw [if_neg h2] at h
                simp only [Option.some.injEq, Prod.mk.injEq] at h
                obtain ⟨rfl, rfl, rfl⟩ := h
                exact check_yes A0_0 c0_0 l0_0 A0_1 c0_1 l0_1 s t a3 f d k set m' w hr0_0 hc0_0 hr0_1 hc0_1 hb hpa hwf hhg hdf hln hp (by omega) (by omega) (beq_eq_false_iff_ne.2 h1) (beq_eq_false_iff_ne.2 h2)
          · cases h
end Go.Proofs.Ytjffhhalmicodaa.X
end

section
set_option linter.unusedVariables false
set_option linter.unusedSimpArgs false
namespace Go.Proofs.Ytjffhhalmicodaa.X
open Go.RowKit Go.Proofs.G.PrintWords Go.Proofs.G.PrintLast Go.Proofs.G.PrintMore
set_option maxRecDepth 100000 in
set_option maxHeartbeats 4000000 in
theorem Tell_off (A0 : Option Addr) (c0 : Nat) (nx : List Int) (A1 : Option Addr) (c1 : Nat) (mk : List Int) (s t : Int) (w : World) (hr0 : Kd.C (Kd.int .i64) w A0 nx.length nx) (hc0 : nx.length ≤ c0) (hr1 : Kd.C (Kd.int .i64) w A1 mk.length mk) (hc1 : mk.length ≤ c1)
    (hst : fixes_isState.f nx mk [s, t] = some false) :
    Calls Try.prog 42 #[.agg #[.slice A0 nx.length c0, .slice A1 mk.length c1], .int .i64 s, .int .i64 t] w fun e w' => e = .returned (.tuple #[.string ⟨#[]⟩, .int .i64 2]) ∧ Below w.heap.size w w' := by
  have hu := Try.underlying28
  have HR0 := Lib.hid hr0
  have HR1 := Lib.hid hr1
  have HST := Lib.hid hst
  clear hr0 hr1 hst
  go_enter Try.func42, Try.ntmps42
  go_wp2_with (first | ((with_reducible refine gate_dst (N := 3) rfl ?_); refine box_event ?hg (N := 3) ?hd (cs := #[.slice A0 nx.length c0, .slice A1 mk.length c1]) (t := 28) ?hr ?_; (case hd => rfl); (case hg => rfl); (case hr => first | (go_simp; done) | (go_simp; rfl)); intro gw hgw wb hbw hbb; have HBW := Lib.hid (bst (Below.refl w.heap.size w) hbb); have hw0 : wb.cell? ⟨gw, 0, none⟩ = some (.slice A0 nx.length c0) := (blk_cell hbw 0).trans rfl; have hw1 : wb.cell? ⟨gw, 1, none⟩ = some (.slice A1 mk.length c1) := (blk_cell hbw 1).trans rfl; clear hgw hbb hbw) | fail)
  have hbl := below_alloc (Below.refl wb.heap.size wb) (.cells #[.int .i64 s, .int .i64 t] 3)
  have HB3 := Lib.hid (bst HBW.out hbl)
  have k0_ := pwc hbl hw0
  have k1_ := pwc hbl hw1
  clear hw0 hw1 HBW hbl
  have hw0 := k0_
  have hw1 := k1_
  clear k0_ k1_
  have hCv := pair_C wb s t
  refine (fixes_isState.calls A0 c0 nx A1 c1 mk (some ⟨wb.heap.size, 0, none⟩) 2 [s, t] false _ (Kd.C_below HR0.out HB3.out) hc0 (Kd.C_below HR1.out HB3.out) hc1 hCv (Nat.le_refl _) HST.out).mono ?_
  rintro e w4 ⟨rfl, hb⟩
  have HB4 := Lib.hid (bst HB3.out hb)
  have k0 := pwc hb hw0
  have k1 := pwc hb hw1
  clear hb hw0 hw1 HB3 hCv
  have hw0 := k0
  have hw1 := k1
  clear k0 k1
  go_wp2_with fail
  go_ret2
  exact ⟨rfl, HB4.out⟩
set_option maxRecDepth 100000 in
set_option maxHeartbeats 4000000 in
theorem Tell_same (A0 : Option Addr) (c0 : Nat) (nx : List Int) (A1 : Option Addr) (c1 : Nat) (mk : List Int) (s t : Nat) (k : Nat) (init : List (List Int)) (last : List Int) (w : World) (hr0 : Kd.C (Kd.int .i64) w A0 nx.length nx) (hc0 : nx.length ≤ c0) (hr1 : Kd.C (Kd.int .i64) w A1 mk.length mk) (hc1 : mk.length ≤ c1)
    (hst : fixes_isState.f nx mk [(s : Int), (t : Int)] = some true) (hlv : fixes_levels.f k nx mk = some (init ++ [last])) (hmb : init.length ≤ 1000) (hsl : s < last.length) (htl : t < last.length) (heq : rd last (s : Int) = rd last (t : Int)) :
    Calls Try.prog 42 #[.agg #[.slice A0 nx.length c0, .slice A1 mk.length c1], .int .i64 (s : Int), .int .i64 (t : Int)] w fun e w' => e = .returned (.tuple #[.string ⟨#[]⟩, .int .i64 4]) ∧ Below w.heap.size w w' := by
  have hu := Try.underlying28
  have HR0 := Lib.hid hr0
  have HR1 := Lib.hid hr1
  have HST := Lib.hid hst
  have HLV := Lib.hid hlv
  have HEQ := Lib.hid heq
  clear hlv heq
  clear hr0 hr1 hst
  go_enter Try.func42, Try.ntmps42
  go_wp2_with (first | ((with_reducible refine gate_dst (N := 3) rfl ?_); refine box_event ?hg (N := 3) ?hd (cs := #[.slice A0 nx.length c0, .slice A1 mk.length c1]) (t := 28) ?hr ?_; (case hd => rfl); (case hg => rfl); (case hr => first | (go_simp; done) | (go_simp; rfl)); intro gw hgw wb hbw hbb; have HBW := Lib.hid (bst (Below.refl w.heap.size w) hbb); have hw0 : wb.cell? ⟨gw, 0, none⟩ = some (.slice A0 nx.length c0) := (blk_cell hbw 0).trans rfl; have hw1 : wb.cell? ⟨gw, 1, none⟩ = some (.slice A1 mk.length c1) := (blk_cell hbw 1).trans rfl; clear hgw hbb hbw) | fail)
  have hbl := below_alloc (Below.refl wb.heap.size wb) (.cells #[.int .i64 (s : Int), .int .i64 (t : Int)] 3)
  have HB3 := Lib.hid (bst HBW.out hbl)
  have k0_ := pwc hbl hw0
  have k1_ := pwc hbl hw1
  clear hw0 hw1 HBW hbl
  have hw0 := k0_
  have hw1 := k1_
  clear k0_ k1_
  have hCv := pair_C wb (s : Int) (t : Int)
  refine (fixes_isState.calls A0 c0 nx A1 c1 mk (some ⟨wb.heap.size, 0, none⟩) 2 [(s : Int), (t : Int)] true _ (Kd.C_below HR0.out HB3.out) hc0 (Kd.C_below HR1.out HB3.out) hc1 hCv (Nat.le_refl _) HST.out).mono ?_
  rintro e w4 ⟨rfl, hb⟩
  have HB4 := Lib.hid (bst HB3.out hb)
  have k0 := pwc hb hw0
  have k1 := pwc hb hw1
  clear hb hw0 hw1 HB3 hCv
  have hw0 := k0
  have hw1 := k1
  clear k0 k1
  go_wp2_with fail
  refine (fixes_levels.calls k A0 c0 nx A1 c1 mk (init ++ [last]) w4 (Kd.C_below HR0.out HB4.out) hc0 (Kd.C_below HR1.out HB4.out) hc1 HLV.out).mono ?_
  rintro e w5 ⟨v, rfl, hv, hb⟩
  obtain ⟨g, cp, rfl⟩ := rows_form hv (by simp)
  have HB5 := Lib.hid (bst HB4.out hb)
  have k0 := pwc hb hw0
  have k1 := pwc hb hw1
  obtain ⟨_, hcl, hrl⟩ := Kd.R_reads' hv
  obtain ⟨A2, c2, q1, q2, q3⟩ := rows_last (m := init.length) (by simpa using hv) rfl
  have HRL := Lib.hid hrl
  have HCL := Lib.hid hcl
  clear hb hw0 hw1 HB4 hv hcl hrl
  have hw0 := k0
  have hw1 := k1
  clear k0 k1
  obtain ⟨b2, o2, rfl, _, hrc⟩ := ints_at q3 (by omega)
  have p1 := hrc s (by omega)
  have p2 := hrc t (by omega)
  have hsr : (s : Int) < (last.length : Int) := by omega
  have htr : (t : Int) < (last.length : Int) := by omega
  clear hrc q3
  have hn : (init ++ [last]).length = init.length + 1 := by simp
  have HN := Lib.hid hn
  rw [hn]
  clear hn
  generalize hm : init.length = m at q1 hmb ⊢
  have HMM := Lib.hid hm
  clear hm
  have hne : (rd last (s : Int) == rd last (t : Int)) = true := beq_iff_eq.2 HEQ.out
  go_wp2_with fail
  go_quiet (fail)
  go_wp2_with fail
  go_ret2
  exact ⟨rfl, bst HB5.out (pwd (Below.refl _ _) _)⟩
set_option maxRecDepth 100000 in
set_option maxHeartbeats 4000000 in
theorem Tell_yes (A0 : Option Addr) (c0 : Nat) (nx : List Int) (A1 : Option Addr) (c1 : Nat) (mk : List Int) (s t : Nat) (k : Nat) (init : List (List Int)) (last : List Int) (r : ByteArray) (w : World) (hr0 : Kd.C (Kd.int .i64) w A0 nx.length nx) (hc0 : nx.length ≤ c0) (hr1 : Kd.C (Kd.int .i64) w A1 mk.length mk) (hc1 : mk.length ≤ c1)
    (hst : fixes_isState.f nx mk [(s : Int), (t : Int)] = some true) (hlv : fixes_levels.f k nx mk = some (init ++ [last])) (hmb : init.length ≤ 1000) (hsl : s < last.length) (htl : t < last.length) (heq : rd last (s : Int) ≠ rd last (t : Int)) (htk : tellK nx mk (init ++ [last]) k init.length s t = some r) :
    Calls Try.prog 42 #[.agg #[.slice A0 nx.length c0, .slice A1 mk.length c1], .int .i64 (s : Int), .int .i64 (t : Int)] w fun e w' => e = .returned (.tuple #[.string r, .int .i64 0]) ∧ Below w.heap.size w w' := by
  have hu := Try.underlying28
  have HR0 := Lib.hid hr0
  have HR1 := Lib.hid hr1
  have HST := Lib.hid hst
  have HLV := Lib.hid hlv
  have HEQ := Lib.hid heq
  have HTK := Lib.hid htk
  clear hlv heq htk
  clear hr0 hr1 hst
  go_enter Try.func42, Try.ntmps42
  go_wp2_with (first | ((with_reducible refine gate_dst (N := 3) rfl ?_); refine box_event ?hg (N := 3) ?hd (cs := #[.slice A0 nx.length c0, .slice A1 mk.length c1]) (t := 28) ?hr ?_; (case hd => rfl); (case hg => rfl); (case hr => first | (go_simp; done) | (go_simp; rfl)); intro gw hgw wb hbw hbb; have HBW := Lib.hid (bst (Below.refl w.heap.size w) hbb); have hw0 : wb.cell? ⟨gw, 0, none⟩ = some (.slice A0 nx.length c0) := (blk_cell hbw 0).trans rfl; have hw1 : wb.cell? ⟨gw, 1, none⟩ = some (.slice A1 mk.length c1) := (blk_cell hbw 1).trans rfl; clear hgw hbb hbw) | fail)
  have hbl := below_alloc (Below.refl wb.heap.size wb) (.cells #[.int .i64 (s : Int), .int .i64 (t : Int)] 3)
  have HB3 := Lib.hid (bst HBW.out hbl)
  have k0_ := pwc hbl hw0
  have k1_ := pwc hbl hw1
  clear hw0 hw1 HBW hbl
  have hw0 := k0_
  have hw1 := k1_
  clear k0_ k1_
  have hCv := pair_C wb (s : Int) (t : Int)
  refine (fixes_isState.calls A0 c0 nx A1 c1 mk (some ⟨wb.heap.size, 0, none⟩) 2 [(s : Int), (t : Int)] true _ (Kd.C_below HR0.out HB3.out) hc0 (Kd.C_below HR1.out HB3.out) hc1 hCv (Nat.le_refl _) HST.out).mono ?_
  rintro e w4 ⟨rfl, hb⟩
  have HB4 := Lib.hid (bst HB3.out hb)
  have k0 := pwc hb hw0
  have k1 := pwc hb hw1
  clear hb hw0 hw1 HB3 hCv
  have hw0 := k0
  have hw1 := k1
  clear k0 k1
  go_wp2_with fail
  refine (fixes_levels.calls k A0 c0 nx A1 c1 mk (init ++ [last]) w4 (Kd.C_below HR0.out HB4.out) hc0 (Kd.C_below HR1.out HB4.out) hc1 HLV.out).mono ?_
  rintro e w5 ⟨v, rfl, hv, hb⟩
  obtain ⟨g, cp, rfl⟩ := rows_form hv (by simp)
  have HB5 := Lib.hid (bst HB4.out hb)
  have k0 := pwc hb hw0
  have k1 := pwc hb hw1
  obtain ⟨_, hcl, hrl⟩ := Kd.R_reads' hv
  obtain ⟨A2, c2, q1, q2, q3⟩ := rows_last (m := init.length) (by simpa using hv) rfl
  have HRL := Lib.hid hrl
  have HCL := Lib.hid hcl
  clear hb hw0 hw1 HB4 hv hcl hrl
  have hw0 := k0
  have hw1 := k1
  clear k0 k1
  obtain ⟨b2, o2, rfl, _, hrc⟩ := ints_at q3 (by omega)
  have p1 := hrc s (by omega)
  have p2 := hrc t (by omega)
  have hsr : (s : Int) < (last.length : Int) := by omega
  have htr : (t : Int) < (last.length : Int) := by omega
  clear hrc q3
  have hn : (init ++ [last]).length = init.length + 1 := by simp
  have HN := Lib.hid hn
  rw [hn]
  clear hn
  generalize hm : init.length = m at q1 hmb ⊢
  have HMM := Lib.hid hm
  clear hm
  have hne : (rd last (s : Int) == rd last (t : Int)) = false := beq_eq_false_iff_ne.2 HEQ.out
  go_wp2_with fail
  go_quiet (fail)
  have hbq := pwd (Below.refl w5.heap.size w5) nq
  have k0 := pwc hbq hw0
  have k1 := pwc hbq hw1
  have HB6 := Lib.hid (bst HB5.out hbq)
  have HRL6 := Lib.hid (Kd.C_below HRL.out hbq)
  clear hw0 hw1 q1 p1 p2 hbq
  generalize w5.drewN nq = w6 at k0 k1 HB6 HRL6 ⊢
  have hw0 := k0
  have hw1 := k1
  clear k0 k1
  go_wp2_with fail
  refine (show Calls Try.prog 67 #[.agg #[.slice A0 nx.length c0, .slice A1 mk.length c1], .slice (some ⟨g, 0, none⟩) (m + 1) cp, .int .i64 (m : Int), .int .i64 (s : Int), .int .i64 (t : Int)] w6 (fun e w' => e = .returned (.string r) ∧ Below w6.heap.size w6 w') from ?_).mono ?_
  · have := tell_all nx mk (init ++ [last]) k m s t r (by rw [← HMM.out]; exact HTK.out) A0 c0 A1 c1 (some ⟨g, 0, none⟩) cp w6 (Kd.C_below HR0.out HB6.out) hc0 (Kd.C_below HR1.out HB6.out) hc1 HRL6.out (by have := HCL.out; exact this)
    rwa [HN.out, HMM.out] at this
  · rintro e w7 ⟨rfl, hb⟩
    have HB7 := Lib.hid (bst HB6.out hb)
    clear hb
    go_wp2_with fail
    go_ret2
    exact ⟨rfl, HB7.out⟩
def fixes_Tell.f (k : Nat) (l0_0 l0_1 : List Int) (a1 a2 : Int) : Option (ByteArray × Int) :=
  (fixes_isState.f l0_0 l0_1 [a1, a2]).bind fun b => if b = true then
    ((fixes_levels.f k l0_0 l0_1).bind fun L => if L ≠ [] ∧ L.length ≤ 1000 ∧ l0_0.length ≤ (L.getLastD []).length then
      (if rd (L.getLastD []) a1 = rd (L.getLastD []) a2 then some (⟨#[]⟩, 4) else (tellK l0_0 l0_1 L k (L.length - 1) a1.toNat a2.toNat).bind fun r => some (r, 0)) else none)
  else some (⟨#[]⟩, 2)
theorem fixes_Tell.calls (k : Nat) (A0_0 : Option Addr) (c0_0 : Nat) (l0_0 : List Int) (A0_1 : Option Addr) (c0_1 : Nat) (l0_1 : List Int) (a1 a2 : Int) (r1 : ByteArray) (r2 : Int) (w : World) (hr0_0 : Kd.C (Kd.int .i64) w A0_0 l0_0.length l0_0) (hc0_0 : l0_0.length ≤ c0_0) (hr0_1 : Kd.C (Kd.int .i64) w A0_1 l0_1.length l0_1) (hc0_1 : l0_1.length ≤ c0_1) (h : fixes_Tell.f k l0_0 l0_1 a1 a2 = some (r1, r2)) :
    Calls Try.prog 42 #[.agg #[.slice A0_0 l0_0.length c0_0, .slice A0_1 l0_1.length c0_1], .int .i64 a1, .int .i64 a2] w fun e w' => e = .returned (.tuple #[.string r1, .int .i64 r2]) ∧ Below w.heap.size w w' := by
  unfold fixes_Tell.f at h
  obtain ⟨b, hb, h⟩ := Option.bind_eq_some_iff.mp h
  cases b with
  | false =>
    simp only [Bool.false_eq_true, if_false, Option.some.injEq, Prod.mk.injEq] at h
    obtain ⟨rfl, rfl⟩ := h
    exact Tell_off A0_0 c0_0 l0_0 A0_1 c0_1 l0_1 a1 a2 w hr0_0 hc0_0 hr0_1 hc0_1 hb
  | true =>
    simp only [if_true] at h
    obtain ⟨L, hL, h⟩ := Option.bind_eq_some_iff.mp h
    split at h
    · rename_i hc
      obtain ⟨hne, hlen, hll⟩ := hc
      have hb2 := hb
      unfold fixes_isState.f at hb2
      obtain ⟨v, hv, hb2⟩ := Option.bind_eq_some_iff.mp hb2
      cases v with
      | false => simp at hb2
      | true =>
        simp only [if_true, Option.some.injEq] at hb2
        have hrange : (0 ≤ a1 ∧ a1 < l0_0.length) ∧ (0 ≤ a2 ∧ a2 < l0_0.length) := by
          simp [offS] at hb2
          omega
        obtain ⟨⟨h10, h11⟩, h20, h21⟩ := hrange
        obtain ⟨s, rfl⟩ := Int.eq_ofNat_of_zero_le h10
        obtain ⟨t, rfl⟩ := Int.eq_ofNat_of_zero_le h20
        rw [Int.toNat_natCast, Int.toNat_natCast] at h
        have e2 : L.getLastD [] = L.getLast hne := by rw [List.getLastD_eq_getLast?, List.getLast?_eq_some_getLast hne]; rfl
        have hx : L = L.dropLast ++ [L.getLastD []] := by
          rw [e2]
          exact (List.dropLast_concat_getLast hne).symm
        have hl2 : L.dropLast.length = L.length - 1 := by rw [List.length_dropLast]
        by_cases heq : rd (L.getLastD []) (s : Int) = rd (L.getLastD []) (t : Int)
        · rw [if_pos heq] at h
          simp only [Option.some.injEq, Prod.mk.injEq] at h
          obtain ⟨rfl, rfl⟩ := h
          rw [hx] at hL
          exact Tell_same A0_0 c0_0 l0_0 A0_1 c0_1 l0_1 s t k L.dropLast (L.getLastD []) w hr0_0 hc0_0 hr0_1 hc0_1 hb hL (by omega) (by omega) (by omega) heq
        · rw [if_neg heq] at h
          obtain ⟨r, hr, h⟩ := Option.bind_eq_some_iff.mp h
          simp only [Option.some.injEq, Prod.mk.injEq] at h
          obtain ⟨rfl, rfl⟩ := h
          rw [hx] at hL
          refine Tell_yes A0_0 c0_0 l0_0 A0_1 c0_1 l0_1 s t k L.dropLast (L.getLastD []) r w hr0_0 hc0_0 hr0_1 hc0_1 hb hL (by omega) (by omega) (by omega) heq ?_
          rw [← hx, hl2]
          exact hr
    · cases h
end Go.Proofs.Ytjffhhalmicodaa.X
end

section
set_option linter.unusedVariables false
set_option linter.unusedSimpArgs false
namespace Go.Proofs.Ytjffhhalmicodaa.L
open Go.RowKit Go.Proofs.G.PrintWords Go.Proofs.G.PrintLast Go.Proofs.G.PrintMore Go.Proofs.Ytjffhhalmicodaa.X
theorem lt_of_tb {n : Nat} {a : Int} (h : InS n a) {i : Nat} (hi : tb a i = true) : i < n := by
  apply Classical.byContradiction
  intro hge
  rw [tb_ge h (by omega)] at hi
  cases hi
theorem tb_step_iff {nx mk : List Int} (hv : VW nx mk) {p : Int} (hp : InS nx.length p) {s : Nat} (hs : s < nx.length) : tb (stepTo nx p) s = true ↔ ∃ u, u < nx.length ∧ tb (rd nx s) u = true ∧ tb p u = true := by
 have h6 := hv.le
 have hn := hv.next s hs
 rw [(tb_step (by omega) p).2]
 simp only [hs, decide_true, Bool.true_and, bne_iff_ne, ne_eq, and_zero (show nx.length ≤ 62 by omega) hn hp]
 constructor
 ·intro h
  apply Classical.byContradiction
  intro q
  apply h
  intro i hi
  cases hb : tb p i with
  | false => rfl
  | true => exact absurd ⟨i, lt_of_tb hn hi, hi, hb⟩ q
 ·rintro ⟨u, hu, h1, h2⟩ h
  rw [h u h1] at h2
  cases h2
theorem tb_box_iff {nx mk : List Int} (hv : VW nx mk) {p : Int} (hp : InS nx.length p) {s : Nat} (hs : s < nx.length) : tb (boxTo nx p) s = true ↔ ∀ u, u < nx.length → tb (rd nx s) u = true → tb p u = true := by
  have h6 := hv.le
  have hn := hv.next s hs
  rw [(tb_box (by omega) p).2]
  simp only [hs, decide_true, Bool.true_and, beq_iff_eq, andNot_zero (show nx.length ≤ 62 by omega) hn hp]
  exact ⟨fun h u _ hu => h u hu, fun h i hi => h i (lt_of_tb hn hi) hi⟩
theorem V_depth {nx mk : List Int} (hv : VW nx mk) (z : Sets) (hz : InE nx.length z) : ∀ F, WF F → ∀ m, depF F = some m → ∀ s t, s < nx.length → t < nx.length → E nx mk m s t → tb (V nx mk F z) s = tb (V nx mk F z) t := by
 have h6 := hv.le
 intro F
 induction F with
 | mark neg j =>
  intro hw m hm s t hs ht he
  have hj : j ≤ 3 := hw
  have h0 := (E_zero hs ht).1 (E_le hv hs ht (Nat.zero_le _) he)
  obtain ⟨q1, q2⟩ := mset_spec hv hj
  have ha : InS nx.length (allOf nx) := all_in (by omega)
  rw [V]
  cases neg with
  | true =>
   simp only [if_true]
   rw [tb_andNot (show nx.length ≤ 62 by omega) (show nx.length ≤ 62 by omega) ha q1, tb_andNot (show nx.length ≤ 62 by omega) (show nx.length ≤ 62 by omega) ha q1, tb_all (by omega), tb_all (by omega), q2, q2, h0]
   simp [hs, ht]
  | false =>
   simp only [Bool.false_eq_true, if_false]
   rw [q2, q2, h0]
   simp [hs, ht]
 | con c =>
  intro hw m hm s t hs ht he
  rw [V]
  split
  ·rw [tb_all (by omega), tb_all (by omega)]
   simp [hs, ht]
  ·rw [tb_zero, tb_zero]
 | var c => intro hw m hm; simp [depF] at hm
 | fix c x a _ => intro hw m hm; simp [depF] at hm
 | two c a b iha ihb =>
  intro hw m hm s t hs ht he
  rw [depF] at hm
  obtain ⟨x, hx, hm⟩ := Option.bind_eq_some_iff.mp hm
  obtain ⟨y, hy, hm⟩ := Option.bind_eq_some_iff.mp hm
  injection hm with hm
  have ea := iha hw.2.1 x hx s t hs ht (E_le hv hs ht (by omega) he)
  have eb := ihb hw.2.2 y hy s t hs ht (E_le hv hs ht (by omega) he)
  have ia := (V_spec hv a hw.2.1).1 z hz
  have ib := (V_spec hv b hw.2.2).1 z hz
  rw [V]
  split
  ·rw [tb_and (by omega) (by omega) ia ib, tb_and (by omega) (by omega) ia ib, ea, eb]
  ·rw [tb_or (by omega) (by omega) ia ib, tb_or (by omega) (by omega) ia ib, ea, eb]
 | one c a iha =>
  intro hw m hm s t hs ht he
  rw [depF, Option.map_eq_some_iff] at hm
  obtain ⟨x, hx, hm⟩ := hm
  rw [if_pos hw.1] at hm
  subst hm
  have ia := (V_spec hv a hw.2).1 z hz
  obtain ⟨h1, h2, h3⟩ := (E_succ hv hs ht).1 he
  rw [V, Bool.eq_iff_iff]
  split
  ·rw [tb_step_iff hv ia hs, tb_step_iff hv ia ht]
   constructor
   ·rintro ⟨u, hu, a1, a2⟩
    obtain ⟨v, hvv, b1, b2⟩ := h2 u hu a1
    exact ⟨v, hvv, b1, (iha hw.2 x hx u v hu hvv b2).symm.trans a2⟩
   ·rintro ⟨v, hvv, a1, a2⟩
    obtain ⟨u, hu, b1, b2⟩ := h3 v hvv a1
    exact ⟨u, hu, b1, (iha hw.2 x hx u v hu hvv b2).trans a2⟩
  ·rw [tb_box_iff hv ia hs, tb_box_iff hv ia ht]
   constructor
   ·intro h v hvv a1
    obtain ⟨u, hu, b1, b2⟩ := h3 v hvv a1
    exact (iha hw.2 x hx u v hu hvv b2).symm.trans (h u hu b1)
   ·intro h u hu a1
    obtain ⟨v, hvv, b1, b2⟩ := h2 u hu a1
    exact (iha hw.2 x hx u v hu hvv b2).trans (h v hvv b1)
def cN (p : Nat → Bool) : Nat → Nat
  | 0 => 0
  | m + 1 => cN p m + if p m = true then 1 else 0
theorem cN_le {p q : Nat → Bool} : ∀ n, (∀ y, y < n → p y = true → q y = true) → cN p n ≤ cN q n
 | 0, _ => Nat.le_refl _
 | n + 1, h => by
  have := cN_le n (fun y hy => h y (by omega))
  have h2 := h n (by omega)
  rw [cN, cN]
  by_cases e : p n = true
  ·rw [if_pos e, if_pos (h2 e)]; omega
  ·rw [if_neg e]; omega
theorem cN_zero {p : Nat → Bool} : ∀ n, (∀ y, y < n → p y = false) → cN p n = 0
  | 0, _ => rfl
  | n + 1, h => by
    rw [cN, cN_zero n (fun y hy => h y (by omega)), h n (by omega)]
    rfl
theorem cN_ne (x : Nat) : ∀ m, cN (fun y => decide (y ≠ x)) m + (if x < m then 1 else 0) ≤ m
 | 0 => by simp [cN]
 | m + 1 => by
  have := cN_ne x m
  rw [cN]
  by_cases e : m = x
  ·subst e
   simp at this ⊢
   omega
  ·have : decide (m ≠ x) = true := by simp [e]
   rw [if_pos this]
   by_cases h : x < m
   ·rw [if_pos (by omega)]
    simp only [if_pos h] at *
    omega
   ·rw [if_neg (by omega)]
    simp only [if_neg h] at *
    omega
theorem cN_key (key : Nat → Int × Int) (x : Nat) : ∀ m, cN (fun y => decide (y ≠ x) && decide (key y = key x)) m + cnt key m + (if x < m then 1 else 0) ≤ m + 1 ∧ ((∀ y, y < m → key y ≠ key x) → cN (fun y => decide (y ≠ x) && decide (key y = key x)) m + cnt key m + (if x < m then 1 else 0) ≤ m)
 | 0 => by simp [cN, cnt, numTo]
 | m + 1 => by
  obtain ⟨h1, h2⟩ := cN_key key x m
  have hx : (if x < m + 1 then 1 else 0 : Nat) = (if x < m then 1 else 0) + if x = m then 1 else 0 := by
   split <;> split <;> split <;> omega
  rw [cN, hx]
  rcases cnt_step key m with ⟨e, j, hj, hk⟩ | ⟨e, _, hk⟩
  ·rw [e]
   refine ⟨?_, fun h => ?_⟩
   ·by_cases e1 : m = x
    ·rw [if_pos e1.symm, if_neg (by simp [e1])]
     omega
    ·rw [if_neg (show ¬ x = m by omega)]
     split <;> omega
   ·have e0 := h m (by omega)
    have e1 : m ≠ x := fun q => e0 (by rw [q])
    have := h2 (fun y hy => h y (by omega))
    rw [if_neg (show ¬ x = m by omega), if_neg (by simp [e0])]
    omega
  ·rw [e]
   refine ⟨?_, fun h => ?_⟩
   ·by_cases e1 : m = x
    ·have := h2 (fun y hy => by rw [← e1]; exact hk y hy)
     rw [if_pos e1.symm, if_neg (by simp [e1])]
     omega
    ·rw [if_neg (show ¬ x = m by omega)]
     by_cases e2 : key m = key x
     ·have := h2 (fun y hy => by rw [← e2]; exact hk y hy)
      split <;> omega
     ·rw [if_neg (by simp [e2])]
      omega
   ·have e0 := h m (by omega)
    have e1 : m ≠ x := fun q => e0 (by rw [q])
    have := h2 (fun y hy => h y (by omega))
    rw [if_neg (show ¬ x = m by omega), if_neg (by simp [e0])]
    omega
theorem levs_at (nx mk : List Int) {K j : Nat} (h : j ≤ K) : (levs nx mk K).getD j [] = lv nx mk j := by
  unfold levs
  rw [List.getD_eq_getElem?_getD, List.getElem?_map, List.getElem?_range (by omega)]
  rfl
theorem dec_spec {nx mk : List Int} {K : Nat} (s t : Nat) : ∀ d, d ≤ K + 1 → (∀ j, decTo (levs nx mk K) s t d ≤ j → j < d → ¬ E nx mk j s t) ∧ (∀ e, decTo (levs nx mk K) s t d = e + 1 → E nx mk e s t)
  | 0, _ => ⟨fun j _ h => by omega, fun e h => by cases h⟩
  | d + 1, h => by
    rw [decTo, levs_at _ _ (by omega)]
    split
    · rename_i q
      exact ⟨fun j h1 h2 => by omega, fun e he => by obtain rfl : d = e := by omega
                                                     exact q⟩
    · rename_i q
      obtain ⟨h1, h2⟩ := dec_spec (K := K) s t d (by omega)
      refine ⟨fun j a b => ?_, h2⟩
      by_cases e : j = d
      · subst e; exact q
      · exact h1 j a (by omega)
structure Lvl (nx mk : List Int) (s t e : Nat) : Prop where
  no : ¬ E nx mk e s t
  yes : ∀ j, j < e → E nx mk j s t
theorem dec_lvl {nx mk : List Int} (hv : VW nx mk) {K s t d : Nat} (hs : s < nx.length) (ht : t < nx.length) (hd : d ≤ K) (h : ¬ E nx mk d s t) : Lvl nx mk s t (decTo (levs nx mk K) s t d) := by
 obtain ⟨h1, h2⟩ := dec_spec (nx := nx) (mk := mk) (K := K) s t d (by omega)
 have hle := decTo_le (levs nx mk K) s t d
 refine ⟨?_, fun j hj => ?_⟩
 ·by_cases e : decTo (levs nx mk K) s t d = d
  ·rw [e]; exact h
  ·exact h1 _ (Nat.le_refl _) (by omega)
 ·obtain ⟨e, he⟩ : ∃ e, decTo (levs nx mk K) s t d = e + 1 := ⟨decTo (levs nx mk K) s t d - 1, by omega⟩
  exact E_le hv hs ht (show j ≤ e by omega) (h2 e he)
theorem Lvl.symm {nx mk : List Int} {s t e : Nat} (h : Lvl nx mk s t e) : Lvl nx mk t s e := ⟨fun q => h.no q.symm, fun j hj => (h.yes j hj).symm⟩
def Bd : Nat → Nat
 | 0 => 2
 | 1 => 15
 | 2 => 80
 | 3 => 340
 | 4 => 1120
 | _ => 2680
theorem Bd_le (e : Nat) : Bd e ≤ 2680 := by
  unfold Bd
  split <;> decide
def Nc : Fm → Prop
  | .con _ => False
  | _ => True
def Gd (nx mk : List Int) (r : ByteArray) (F : Fm) (e w a b : Nat) (v : Bool) : Prop := cs r = str F ∧ WF F ∧ Nc F ∧ (∃ d, depF F = some d ∧ d ≤ e) ∧ tb (V nx mk F (0, 0, 0)) a = v ∧ tb (V nx mk F (0, 0, 0)) b = (!v) ∧ r.size ≤ w
theorem cs_app (a b : ByteArray) : cs (a ++ b) = cs a ++ cs b := by simp [cs, ByteArray.data_append]
theorem cs_one (x : UInt8) : cs ⟨#[x]⟩ = [x.toNat] := rfl
theorem nc_str {F : Fm} (hw : WF F) (hn : Nc F) {o : Nat} (ho : o = 116 ∨ o = 102) : str F ≠ [o] := by
 cases F with
 | mark neg k =>
  have hk : k ≤ 3 := hw
  cases neg
  ·simp [str]; omega
  ·simp [str]
 | con c => exact hn.elim
 | var c =>
  have hc : 120 ≤ c ∧ c ≤ 122 := hw
  simp [str]; omega
 | two c a b =>
  have hc : c = 38 ∨ c = 124 := hw.1
  simp [str]; omega
 | one c a =>
  have hc : c = 60 ∨ c = 91 := hw.1
  simp [str]; omega
 | fix c x a => simp [str]
def wS (kid : Nat → Bool) (ey : Nat → Nat) : Nat → Nat
  | 0 => 0
  | m + 1 => wS kid ey m + if kid m = true then Bd (ey m) + 1 else 0
theorem wS_le (kid : Nat → Bool) (ey : Nat → Nat) : ∀ m, wS kid ey m ≤ 2681 * m
 | 0 => Nat.le_refl _
 | m + 1 => by
  have := wS_le kid ey m
  have := Bd_le (ey m)
  rw [wS]
  split <;> omega
theorem bit_at {nx mk : List Int} (hv : VW nx mk) {t y : Nat} (ht : t < nx.length) (hy : y < nx.length) : bits .and .i64 (shr .i64 (rd nx (t : Int)) (y : Int)) 1 = if tb (rd nx t) y = true then 1 else 0 := by
  have h6 := hv.le
  exact bit_of (by omega) (hv.next t ht) (by omega)
theorem fold_ok {nx mk : List Int} (hv : VW nx mk) {T : Nat → Nat → Nat → Option ByteArray} {t x e : Nat} {turned : Bool} (hx : x < nx.length) (ht : t < nx.length) {c o : UInt8} (hc : c.toNat = if turned = true then 124 else 38) (ho : o.toNat = 116 ∨ o.toNat = 102) {ey : Nat → Nat}
    (hkid : ∀ y, y < nx.length → tb (rd nx t) y = true → ∃ kid F, (if turned = true then T e y x else T e x y) = some kid ∧ Gd nx mk kid F e (Bd (ey y)) x y (!turned)) :
    ∀ m, m ≤ nx.length → ∃ out, foldY T nx e t x turned ⟨#[c]⟩ ⟨#[o]⟩ m = some out ∧ ((out = ⟨#[o]⟩ ∧ ∀ y, y < m → tb (rd nx t) y = false) ∨ ∃ G, cs out = str G ∧ WF G ∧ Nc G ∧ (∃ d, depF G = some d ∧ d ≤ e) ∧ tb (V nx mk G (0, 0, 0)) x = (!turned) ∧ (∀ y, y < m → tb (rd nx t) y = true → tb (V nx mk G (0, 0, 0)) y = turned) ∧ out.size + 1 ≤ wS (fun y => tb (rd nx t) y) ey m) := by
  have h6 := hv.le
  intro m
  induction m with
  | zero => exact fun _ => ⟨⟨#[o]⟩, rfl, .inl ⟨rfl, fun y hy => by omega⟩⟩
  | succ m ih =>
    intro hm
    obtain ⟨out, h1, h2⟩ := ih (by omega)
    rw [foldY, h1, wS]
    simp only [Option.bind_some, bit_at hv ht (show m < nx.length by omega)]
    cases hb : tb (rd nx t) m with
    | false =>
      refine ⟨out, by rw [if_pos (by simp)], ?_⟩
      rcases h2 with ⟨g1, g2⟩ | ⟨G, g1, g2, g3, g4, g5, g6, g7⟩
      · refine .inl ⟨g1, fun y hy => ?_⟩
        by_cases q : y = m
        · rw [q]; exact hb
        · exact g2 y (by omega)
      · refine .inr ⟨G, g1, g2, g3, g4, g5, fun y hy hby => ?_, by simp; exact g7⟩
        by_cases q : y = m
        · rw [q, hb] at hby; cases hby
        · exact g6 y (by omega) hby
    | true =>
      obtain ⟨kid, F, k1, k2, k3, k4, k5, k6, k7, k8⟩ := hkid m (by omega) hb
      rw [if_neg (by simp), k1]
      simp only [Option.bind_some, if_true]
      rw [Bool.not_not] at k7
      rcases h2 with ⟨g1, g2⟩ | ⟨G, g1, g2, g3, ⟨gd, g4, g4'⟩, g5, g6, g7⟩
      · refine ⟨kid, by rw [g1, if_pos rfl], .inr ⟨F, k2, k3, k4, k5, k6, fun y hy hby => ?_, by omega⟩⟩
        by_cases q : y = m
        · rw [q]; exact k7
        · rw [g2 y (by omega)] at hby; cases hby
      · have hne : ¬ out.toList = (⟨#[o]⟩ : ByteArray).toList := by
          intro q
          rw [ByteArray.toList_eq, ByteArray.toList_eq] at q
          have : cs out = cs ⟨#[o]⟩ := by unfold cs; rw [q]
          rw [g1, cs_one] at this
          exact nc_str g2 g3 ho this
        have hw := wS_le (fun y => tb (rd nx t) y) ey m
        have hbd := Bd_le (ey m)
        obtain ⟨kd, k5, k5'⟩ := k5
        rw [if_neg hne, if_pos (by omega)]
        have hcc : c.toNat = 38 ∨ c.toNat = 124 := by rw [hc]; split <;> simp
        have iG := (V_spec hv G g2).1 _ (inE_zero nx.length)
        have iF := (V_spec hv F k3).1 _ (inE_zero nx.length)
        have hV : ∀ i, tb (V nx mk (.two c.toNat G F) (0, 0, 0)) i = if turned = true then tb (V nx mk G (0, 0, 0)) i || tb (V nx mk F (0, 0, 0)) i else tb (V nx mk G (0, 0, 0)) i && tb (V nx mk F (0, 0, 0)) i := by
          intro i
          rw [V, hc]
          cases turned
          · simp only [Bool.false_eq_true, if_false, if_true]
            rw [tb_and (by omega) (by omega) iG iF]
          · simp only [if_true]
            rw [if_neg (by decide), tb_or (by omega) (by omega) iG iF]
        refine ⟨_, rfl, .inr ⟨.two c.toNat G F, ?_, ⟨hcc, g2, k3⟩, trivial, ⟨max gd kd, ?_, by omega⟩, ?_, ?_, ?_⟩⟩
        · rw [cs_app, cs_app, cs_one, g1, k2]
          rfl
        · rw [depF, g4, k5]; rfl
        · rw [hV, g5, k6]; cases turned <;> rfl
        · intro y hy hby
          rw [hV]
          by_cases q : y = m
          · rw [q, k7]; cases turned <;> simp
          · rw [g6 y (by omega) hby]; cases turned <;> simp
        · rw [ByteArray.size_append, ByteArray.size_append]
          show 1 + out.size + kid.size + 1 ≤ _
          omega
end Go.Proofs.Ytjffhhalmicodaa.L
end

section
set_option linter.unusedVariables false
set_option linter.unusedSimpArgs false
namespace Go.Proofs.Ytjffhhalmicodaa.L
open Go.RowKit Go.Proofs.G.PrintWords Go.Proofs.G.PrintLast Go.Proofs.G.PrintMore Go.Proofs.Ytjffhhalmicodaa.X
theorem wS_sum (kid : Nat → Bool) (ey : Nat → Nat) : ∀ m, (∀ y, y < m → kid y = true → ey y ≤ 4) → wS kid ey m ≤ 3 * cN (fun y => kid y && decide (0 ≤ ey y)) m + 13 * cN (fun y => kid y && decide (1 ≤ ey y)) m + 65 * cN (fun y => kid y && decide (2 ≤ ey y)) m + 260 * cN (fun y => kid y && decide (3 ≤ ey y)) m + 780 * cN (fun y => kid y && decide (4 ≤ ey y)) m
 | 0, _ => Nat.zero_le _
 | m + 1, h => by
  have h1 := wS_sum kid ey m (fun y hy => h y (by omega))
  have h2 := h m (by omega)
  simp only [wS, cN]
  generalize cN (fun y => kid y && decide (0 ≤ ey y)) m = n0 at *
  generalize cN (fun y => kid y && decide (1 ≤ ey y)) m = n1 at *
  generalize cN (fun y => kid y && decide (2 ≤ ey y)) m = n2 at *
  generalize cN (fun y => kid y && decide (3 ≤ ey y)) m = n3 at *
  generalize cN (fun y => kid y && decide (4 ≤ ey y)) m = n4 at *
  by_cases hk : kid m = true
  case neg =>
   have hk : kid m = false := by simpa using hk
   simp only [hk, Bool.false_and, Bool.false_eq_true, if_false]
   omega
  case pos =>
   have h3 := h2 hk
   simp only [hk, Bool.true_and, decide_eq_true_eq, if_true]
   have : ey m = 0 ∨ ey m = 1 ∨ ey m = 2 ∨ ey m = 3 ∨ ey m = 4 := by omega
   rcases this with e | e | e | e | e <;> rw [e] <;> simp [Bd] <;> omega
theorem kids_le {nx mk : List Int} (hv : VW nx mk) {K e x : Nat} (he : e + 1 ≤ K) (hK : K + 1 ≤ nx.length) (hnc : ∀ j, j ≤ K → j + 1 ≤ nc nx mk j) (hx : x < nx.length) {kid : Nat → Bool} (hno : ∀ y, y < nx.length → kid y = true → ¬ E nx mk e x y) :
    wS kid (fun y => decTo (levs nx mk K) x y e) nx.length ≤ Bd (e + 1) := by
  have h6 := hv.le
  have hle : ∀ y, decTo (levs nx mk K) x y e ≤ e := fun y => decTo_le _ _ _ _
  have hs := wS_sum kid (fun y => decTo (levs nx mk K) x y e) nx.length (fun y _ _ => by have := hle y; omega)
  have c0 : cN (fun y => kid y && decide (0 ≤ decTo (levs nx mk K) x y e)) nx.length ≤ 5 := by
    have h1 := cN_ne x nx.length
    rw [if_pos hx] at h1
    have h2 : cN (fun y => kid y && decide (0 ≤ decTo (levs nx mk K) x y e)) nx.length ≤ cN (fun y => decide (y ≠ x)) nx.length := cN_le _ fun y hy h => by
      simp at h ⊢
      intro q
      exact hno y hy h (by rw [q]; exact E_refl _ _ _ _)
    omega
  have cj : ∀ j, j + 1 ≤ e → cN (fun y => kid y && decide (j + 1 ≤ decTo (levs nx mk K) x y e)) nx.length ≤ 5 - j := fun j hj => by
    have h1 := (cN_key (lkey nx mk j) x nx.length).1
    rw [if_pos hx] at h1
    have h3 := hnc j (by omega)
    unfold nc at h3
    have h2 : cN (fun y => kid y && decide (j + 1 ≤ decTo (levs nx mk K) x y e)) nx.length ≤ cN (fun y => decide (y ≠ x) && decide (lkey nx mk j y = lkey nx mk j x)) nx.length := cN_le _ fun y hy h => by
      simp at h ⊢
      have hE := (dec_lvl hv hx hy (show e ≤ K by omega) (hno y hy h.1)).yes j (by omega)
      refine ⟨fun q => ?_, ?_⟩
      · exact hno y hy h.1 (by rw [q]; exact E_refl _ _ _ _)
      · exact (E_key hy hx).1 hE.symm
    omega
  have cz : ∀ j, e < j → cN (fun y => kid y && decide (j ≤ decTo (levs nx mk K) x y e)) nx.length = 0 := fun j hj => cN_zero _ fun y hy => by
    have := hle y
    rw [decide_eq_false (by omega), Bool.and_false]
  have : e = 0 ∨ e = 1 ∨ e = 2 ∨ e = 3 ∨ e = 4 := by omega
  have d1 := cj 0
  have d2 := cj 1
  have d3 := cj 2
  have d4 := cj 3
  have z1 := cz 1
  have z2 := cz 2
  have z3 := cz 3
  have z4 := cz 4
  simp only [Nat.zero_add, Nat.reduceAdd] at d1 d2 d3 d4
  rcases this with rfl | rfl | rfl | rfl | rfl <;> simp only [Bd] <;> omega
theorem where_zero (p : Nat → Bool) {n : Nat} (hn : n ≤ 61) : (whereTo p n == 0) = true ↔ ∀ y, y < n → p y = false := by
 obtain ⟨h1, h2⟩ := whereTo_spec p n hn
 rw [beq_iff_eq]
 constructor
 ·intro h y hy
  have := h2 y
  rw [h, tb_zero] at this
  simpa [hy] using this.symm
 ·intro h
  refine inS_ext h1 (inS_zero n) fun i hi => ?_
  rw [h2, tb_zero, h i hi, Bool.and_false]
theorem goodX_iff {nx mk : List Int} (hv : VW nx mk) {e a b x : Nat} (ha : a < nx.length) (hb : b < nx.length) (hx : x < nx.length) : goodX nx (lv nx mk e) a b x = true ↔ tb (rd nx a) x = true ∧ ∀ y, y < nx.length → tb (rd nx b) y = true → ¬ E nx mk e x y := by
 have h6 := hv.le
 unfold goodX
 rw [Bool.and_eq_true, where_zero _ (by omega), bit_at hv ha hx]
 refine and_congr ?_ ?_
 ·cases tb (rd nx a) x <;> simp
 ·refine forall_congr' fun y => ?_
  refine forall_congr' fun hy => ?_
  unfold meets
  rw [bit_at hv hb hy]
  unfold E
  cases tb (rd nx b) y <;> simp
theorem dec_comm (L : List (List Int)) (s t : Nat) : ∀ d, decTo L s t d = decTo L t s d
 | 0 => rfl
 | d + 1 => by
  rw [decTo, decTo, dec_comm L s t d]
  by_cases h : rd (L.getD d []) (s : Int) = rd (L.getD d []) (t : Int)
  ·rw [if_pos h, if_pos h.symm]
  ·rw [if_neg h, if_neg (fun q => h q.symm)]
theorem someF_at {nx mk : List Int} (hv : VW nx mk) {T : Nat → Nat → Nat → Option ByteArray} {K e a b : Nat} (hK : K ≤ 5) (he : e + 1 ≤ K) (ha : a < nx.length) (hb : b < nx.length) (cn c o : UInt8) (turned : Bool) :
    someF T nx (levs nx mk K) (e + 1) a b ⟨#[cn]⟩ ⟨#[c]⟩ ⟨#[o]⟩ turned = match firstG (goodX nx (lv nx mk e) a b) nx.length with
      | none => some (⟨#[]⟩, false)
      | some x => (foldY T nx e b x turned ⟨#[c]⟩ ⟨#[o]⟩ nx.length).bind fun out => if out.size ≤ 1000000 then some (⟨#[cn]⟩ ++ out, true) else none := by
  have h6 := hv.le
  unfold someF
  rw [Nat.add_sub_cancel, levs_at nx mk (show e ≤ K by omega), levs_len]
  exact if_pos ⟨⟨by omega, by omega⟩, lv_len _ _ _, ha, hb, by omega, Nat.le_refl _, Nat.le_refl _, by omega⟩
theorem some_ok {nx mk : List Int} (hv : VW nx mk) {T : Nat → Nat → Nat → Option ByteArray} {K e a b : Nat} (he : e + 1 ≤ K) (hK : K + 1 ≤ nx.length) (hnc : ∀ j, j ≤ K → j + 1 ≤ nc nx mk j) (ha : a < nx.length) (hb : b < nx.length) {cn c o : UInt8} {turned : Bool} (hcn : cn.toNat = if turned = true then 91 else 60) (hc : c.toNat = if turned = true then 124 else 38) (ho : o.toNat = if turned = true then 102 else 116)
    (hT : ∀ x y, x < nx.length → y < nx.length → ¬ E nx mk e x y → ∃ r F, T e x y = some r ∧ Gd nx mk r F e (Bd (decTo (levs nx mk K) x y e)) x y true)
    (hex : ∃ x, x < nx.length ∧ tb (rd nx a) x = true ∧ ∀ y, y < nx.length → tb (rd nx b) y = true → ¬ E nx mk e x y) :
    ∃ r F, someF T nx (levs nx mk K) (e + 1) a b ⟨#[cn]⟩ ⟨#[c]⟩ ⟨#[o]⟩ turned = some (r, true) ∧ Gd nx mk r F (e + 1) (Bd (e + 1)) a b (!turned) := by
  have h6 := hv.le
  rw [someF_at hv (by omega) he ha hb]
  rcases firstG_spec (goodX nx (lv nx mk e) a b) nx.length with ⟨_, h2⟩ | ⟨x, h1, hx, h3, _⟩
  · obtain ⟨x, hx, x1, x2⟩ := hex
    have := h2 x hx
    rw [(goodX_iff hv ha hb hx).2 ⟨x1, x2⟩] at this
    cases this
  · rw [h1]
    obtain ⟨x1, x2⟩ := (goodX_iff hv ha hb hx).1 h3
    have ho' : o.toNat = 116 ∨ o.toNat = 102 := by rw [ho]; split <;> simp
    obtain ⟨out, f1, f2⟩ := fold_ok hv (T := T) (t := b) (x := x) (e := e) (turned := turned) hx hb hc ho' (ey := fun y => decTo (levs nx mk K) x y e) (fun y hy hby => by
      cases turned with
      | false =>
        obtain ⟨r, F, g1, g2⟩ := hT x y hx hy (x2 y hy hby)
        exact ⟨r, F, g1, g2⟩
      | true =>
        obtain ⟨r, F, g1, g2, g3, g4, g5, g6, g7, g8⟩ := hT y x hy hx (fun q => x2 y hy hby q.symm)
        refine ⟨r, F, g1, g2, g3, g4, g5, g7, g6, ?_⟩
        rw [dec_comm]
        exact g8) nx.length (Nat.le_refl _)
    have hk := kids_le hv he hK hnc hx (kid := fun y => tb (rd nx b) y) x2
    have hbd := Bd_le (e + 1)
    have hb2 : 2 ≤ Bd (e + 1) := by unfold Bd; split <;> omega
    have main : ∀ G, cs out = str G → WF G → (∃ d, depF G = some d ∧ d ≤ e) → tb (V nx mk G (0, 0, 0)) x = (!turned) → (∀ y, y < nx.length → tb (rd nx b) y = true → tb (V nx mk G (0, 0, 0)) y = turned) → out.size + 1 ≤ Bd (e + 1) → ∃ r F, some ((⟨#[cn]⟩ : ByteArray) ++ out, true) = some (r, true) ∧ Gd nx mk r F (e + 1) (Bd (e + 1)) a b (!turned) := by
      rintro G g1 g2 ⟨d, g3, g3'⟩ g4 g5 g6
      have iG := (V_spec hv G g2).1 _ (inE_zero nx.length)
      have hcc : cn.toNat = 60 ∨ cn.toNat = 91 := by rw [hcn]; split <;> simp
      refine ⟨_, .one cn.toNat G, rfl, ?_, ⟨hcc, g2⟩, trivial, ⟨d + 1, ?_, by omega⟩, ?_, ?_, ?_⟩
      · rw [cs_app, cs_one, g1]; rfl
      · rw [depF, g3]; simp [hcc]
      · rw [V, hcn]
        cases turned with
        | false =>
          simp only [Bool.false_eq_true, if_false, if_true]
          exact (tb_step_iff hv iG ha).2 ⟨x, hx, x1, g4⟩
        | true =>
          simp only [if_true]
          rw [if_neg (by decide)]
          cases hq : tb (boxTo nx (V nx mk G (0, 0, 0))) a with
          | false => rfl
          | true =>
            rw [(tb_box_iff hv iG ha).1 hq x hx x1] at g4
            cases g4
      · rw [V, hcn, Bool.not_not]
        cases turned with
        | false =>
          simp only [Bool.false_eq_true, if_false, if_true]
          cases hq : tb (stepTo nx (V nx mk G (0, 0, 0))) b with
          | false => rfl
          | true =>
            obtain ⟨u, hu, u1, u2⟩ := (tb_step_iff hv iG hb).1 hq
            rw [g5 u hu u1] at u2
            cases u2
        | true =>
          simp only [if_true]
          rw [if_neg (by decide)]
          exact (tb_box_iff hv iG hb).2 fun u hu u1 => g5 u hu u1
      · rw [ByteArray.size_append]
        show 1 + out.size ≤ _
        omega
    simp only [f1, Option.bind_some]
    rcases f2 with ⟨g1, g2⟩ | ⟨G, g1, g2, g3, g4, g5, g6, g7⟩
    · subst g1
      rw [if_pos (by show 1 ≤ _; omega)]
      refine main (.con o.toNat) rfl ho' ⟨0, rfl, Nat.zero_le _⟩ ?_ (fun y hy hby => by rw [g2 y hy] at hby; cases hby) (by show 1 + 1 ≤ _; omega)
      rw [V, ho]
      cases turned with
      | false =>
        simp only [Bool.false_eq_true, if_false, if_true]
        rw [tb_all (by omega)]
        simp [hx]
      | true =>
        simp only [if_true]
        rw [if_neg (by decide), tb_zero]
        rfl
    · rw [if_pos (by omega)]
      exact main G g1 g2 g4 g5 g6 (by omega)
theorem some_none {nx mk : List Int} (hv : VW nx mk) {T : Nat → Nat → Nat → Option ByteArray} {K e a b : Nat} (he : e + 1 ≤ K) (hK : K + 1 ≤ nx.length) (ha : a < nx.length) (hb : b < nx.length) {cn c o : UInt8} {turned : Bool}
    (hex : ¬ ∃ x, x < nx.length ∧ tb (rd nx a) x = true ∧ ∀ y, y < nx.length → tb (rd nx b) y = true → ¬ E nx mk e x y) :
    someF T nx (levs nx mk K) (e + 1) a b ⟨#[cn]⟩ ⟨#[c]⟩ ⟨#[o]⟩ turned = some (⟨#[]⟩, false) := by
  have h6 := hv.le
  rw [someF_at hv (by omega) he ha hb]
  rcases firstG_spec (goodX nx (lv nx mk e) a b) nx.length with ⟨h1, h2⟩ | ⟨x, h1, hx, h3, _⟩
  · rw [h1]
  · obtain ⟨x1, x2⟩ := (goodX_iff hv ha hb hx).1 h3
    exact absurd ⟨x, hx, x1, x2⟩ hex
theorem bitAt_eq {nx mk : List Int} (hv : VW nx mk) {s k : Nat} (hs : s < nx.length) (hk : k < 4) : bitAt mk s k = if tb (rd mk s) k = true then 1 else 0 := by
  obtain ⟨h1, h2⟩ := hv.marks s hs
  exact markOf_val h1 h2 (by omega)
theorem mark_ok {nx mk : List Int} (hv : VW nx mk) {s t : Nat} (hs : s < nx.length) (ht : t < nx.length) (h : ¬ E nx mk 0 s t) : ∃ r F, markF mk s t = some r ∧ Gd nx mk r F 0 2 s t true := by
  have h6 := hv.le
  rw [E_zero hs ht] at h
  have inM : ∀ u, u < nx.length → InS 4 (rd mk (u : Int)) := fun u hu => by
    obtain ⟨h1, h2⟩ := hv.marks u hu
    exact ⟨h1, by have : (2 : Int) ^ 4 = 16 := by decide
                  omega⟩
  have hex : ∃ k, k < 4 ∧ tb (rd mk s) k ≠ tb (rd mk t) k := by
    apply Classical.byContradiction
    intro q
    apply h
    refine inS_ext (inM s hs) (inM t ht) fun i hi => ?_
    apply Classical.byContradiction
    intro g
    exact q ⟨i, hi, g⟩
  unfold markF
  rcases firstG_spec (fun k => bitAt mk s k != bitAt mk t k) 4 with ⟨_, h2⟩ | ⟨k, h1, hk, h3, _⟩
  · obtain ⟨k, hk, hne⟩ := hex
    have := h2 k hk
    simp only [bitAt_eq hv hs hk, bitAt_eq hv ht hk] at this
    revert this hne
    cases tb (rd mk s) k <;> cases tb (rd mk t) k <;> simp
  · rw [h1]
    simp only [bitAt_eq hv hs hk, bitAt_eq hv ht hk] at h3 ⊢
    have hj : k ≤ 3 := by omega
    obtain ⟨q1, q2⟩ := mset_spec hv hj
    have ha : InS nx.length (allOf nx) := all_in (by omega)
    have k48 : (UInt8.ofNat (48 + k)).toNat = 48 + k := by
      have : k = 0 ∨ k = 1 ∨ k = 2 ∨ k = 3 := by omega
      rcases this with rfl | rfl | rfl | rfl <;> rfl
    have hV : ∀ neg u, u < nx.length → tb (V nx mk (.mark neg k) (0, 0, 0)) u = if neg = true then !tb (rd mk u) k else tb (rd mk u) k := by
      intro neg u hu
      rw [V]
      cases neg with
      | true =>
        simp only [if_true]
        rw [tb_andNot (show nx.length ≤ 62 by omega) (show nx.length ≤ 62 by omega) ha q1, tb_all (by omega), q2]
        simp [hu]
      | false =>
        simp only [Bool.false_eq_true, if_false]
        rw [q2]
        simp [hu]
    by_cases hlt : (if tb (rd mk t) k = true then 1 else 0 : Int) < if tb (rd mk s) k = true then 1 else 0
    · rw [if_pos hlt]
      have : tb (rd mk s) k = true ∧ tb (rd mk t) k = false := by
        revert hlt
        cases tb (rd mk s) k <;> cases tb (rd mk t) k <;> simp
      refine ⟨_, .mark false k, rfl, ?_, hj, trivial, ⟨0, rfl, Nat.le_refl _⟩, ?_, ?_, ?_⟩
      · rw [cs_one, k48]; rfl
      · rw [hV false s hs]; exact this.1
      · rw [hV false t ht]; exact this.2
      · show 1 ≤ 2; omega
    · rw [if_neg hlt]
      have : tb (rd mk s) k = false ∧ tb (rd mk t) k = true := by
        revert hlt h3
        cases tb (rd mk s) k <;> cases tb (rd mk t) k <;> simp
      refine ⟨_, .mark true k, rfl, ?_, hj, trivial, ⟨0, rfl, Nat.le_refl _⟩, ?_, ?_, ?_⟩
      · rw [cs_app, cs_one, cs_one, k48]; rfl
      · rw [hV true s hs, this.1]; rfl
      · rw [hV true t ht, this.2]; rfl
      · show 2 ≤ 2; omega
theorem tell_ok {nx mk : List Int} (hv : VW nx mk) {K : Nat} (hK : K + 1 ≤ nx.length) (hnc : ∀ j, j ≤ K → j + 1 ≤ nc nx mk j) :
    ∀ e d s t, decTo (levs nx mk K) s t d = e → d ≤ K → s < nx.length → t < nx.length → ¬ E nx mk d s t → ∃ r F, tellK nx mk (levs nx mk K) (e + 1) d s t = some r ∧ Gd nx mk r F e (Bd e) s t true := by
  have h6 := hv.le
  intro e
  induction e using Nat.strongRecOn with
  | ind e ih =>
    intro d s t hdec hd hs ht hne
    have hlvl := dec_lvl hv hs ht hd hne
    have hdl := decTo_le (levs nx mk K) s t d
    rw [hdec] at hlvl hdl
    have hcond : (d < (levs nx mk K).length) ∧ (∀ j, j < (levs nx mk K).length → ((levs nx mk K).getD j []).length = nx.length) ∧ s < nx.length ∧ t < nx.length ∧ nx.length ≤ 61 ∧ (levs nx mk K).length ≤ 1000 ∧ nx.length ≤ mk.length := by
      rw [levs_len]
      exact ⟨by omega, fun j hj => by rw [levs_at nx mk (by omega), lv_len], hs, ht, by omega, by omega, by rw [hv.len]; omega⟩
    rw [tellK, tellF, if_pos hcond, hdec]
    cases e with
    | zero => exact mark_ok hv hs ht hlvl.no
    | succ e =>
      have hT : ∀ x y, x < nx.length → y < nx.length → ¬ E nx mk e x y → ∃ r F, tellK nx mk (levs nx mk K) (e + 1) e x y = some r ∧ Gd nx mk r F e (Bd (decTo (levs nx mk K) x y e)) x y true := by
        intro x y hx hy hxy
        have hle := decTo_le (levs nx mk K) x y e
        obtain ⟨r, F, g1, g2, g3, g4, ⟨dd, g5, g5'⟩, g6⟩ := ih _ (show decTo (levs nx mk K) x y e < e + 1 by omega) e x y rfl (by omega) hx hy hxy
        exact ⟨r, F, lift (fun k => tellK_mono nx mk _ k e x y) g1 (by omega), g2, g3, g4, ⟨dd, g5, by omega⟩, g6⟩
      simp only
      by_cases hex : ∃ x, x < nx.length ∧ tb (rd nx s) x = true ∧ ∀ y, y < nx.length → tb (rd nx t) y = true → ¬ E nx mk e x y
      · obtain ⟨r, F, g1, g2⟩ := some_ok hv (T := tellK nx mk (levs nx mk K) (e + 1)) (show e + 1 ≤ K by omega) hK hnc hs ht (cn := 60) (c := 38) (o := 116) (turned := false) rfl rfl rfl hT hex
        refine ⟨r, F, ?_, g2⟩
        rw [g1]
        rfl
      · have hex2 : ∃ x, x < nx.length ∧ tb (rd nx t) x = true ∧ ∀ y, y < nx.length → tb (rd nx s) y = true → ¬ E nx mk e x y := by
          apply Classical.byContradiction
          intro q
          apply hlvl.no
          refine (E_succ hv hs ht).2 ⟨hlvl.yes e (by omega), fun u hu hb => ?_, fun v hvv hb => ?_⟩
          · apply Classical.byContradiction
            intro g
            exact hex ⟨u, hu, hb, fun y hy hy1 hy2 => g ⟨y, hy, hy1, hy2⟩⟩
          · apply Classical.byContradiction
            intro g
            exact q ⟨v, hvv, hb, fun y hy hy1 hy2 => g ⟨y, hy, hy1, hy2.symm⟩⟩
        obtain ⟨r, F, g1, g2, g3, g4, g5, g6, g7, g8⟩ := some_ok hv (T := tellK nx mk (levs nx mk K) (e + 1)) (show e + 1 ≤ K by omega) hK hnc ht hs (cn := 91) (c := 124) (o := 102) (turned := true) rfl rfl rfl hT hex2
        refine ⟨r, F, ?_, g2, g3, g4, g5, g7, g6, g8⟩
        rw [some_none hv (show e + 1 ≤ K by omega) hK hs ht hex]
        simp only [Option.bind_some, Bool.false_eq_true, if_false]
        rw [g1]
        rfl
end Go.Proofs.Ytjffhhalmicodaa.L
end

section
set_option linter.unusedVariables false
set_option linter.unusedSimpArgs false
namespace Go.Proofs.Ytjffhhalmicodaa.X
open Go.RowKit Go.Proofs.G.PrintWords Go.Proofs.G.PrintLast Go.Proofs.G.PrintMore
structure QS (w : World) (gw gr g6 : Nat) (A0 A1 Ac : Option Addr) (c0 c1 cc : Nat) (nx mk c : List Int) (v0 v1 : Value) (N M : List Int) (wr : World) : Prop where
 below : Below w.heap.size w wr
 box : wr.heap[gw]? = some (.cells #[.slice A0 nx.length c0, .slice A1 mk.length c1] 28 (0, 0))
 res : wr.heap[gr]? = some (.cells #[.slice none 0 0, .slice none 0 0] 28 (0, 0))
 mid : wr.heap[g6]? = some (.cells #[v0, v1] 28 (0, 0))
 rowN : Kd.R (Kd.int .i64) 3 wr w.heap.size (fun k => some k ≠ v1.ownBlock ∧ some k ≠ (Value.slice Ac c.length cc).ownBlock) v0 N
 rowM : Kd.R (Kd.int .i64) 3 wr w.heap.size (fun k => some k ≠ v0.ownBlock ∧ some k ≠ (Value.slice Ac c.length cc).ownBlock) v1 M
 cls : Kd.R (Kd.int .i64) 3 wr w.heap.size (fun k => some k ≠ v0.ownBlock ∧ some k ≠ v1.ownBlock) (.slice Ac c.length cc) c
theorem QS.drew {w W : World} {gw gr g6 : Nat} {v0 v1 : Value} {A0 A1 Ac : Option Addr} {c0 c1 cc : Nat} {nx mk c N M : List Int} (h : QS w gw gr g6 A0 A1 Ac c0 c1 cc nx mk c v0 v1 N M W) : QS w gw gr g6 A0 A1 Ac c0 c1 cc nx mk c v0 v1 N M W.drew :=
  ⟨h.below.drew, h.box, h.res, h.mid, h.rowN, h.rowM, h.cls⟩
end Go.Proofs.Ytjffhhalmicodaa.X
end

section
namespace Go.Proofs.Ytjffhhalmicodaa.PH
open Go.RowKit Go.Proofs.G.PrintWords Go.Proofs.G.PrintLast Go.Proofs.G.PrintMore
attribute [local go_sem] max2_int min2_int max_two min_two max_three min_three max_four min_four
set_option linter.unusedVariables false
set_option linter.unusedSimpArgs false
def errW : Option Int → Value
  | none => .nilIface
  | some c => .iface 0 (.int .i64 c)
theorem errW_none : errW none = .nilIface := rfl
theorem errW_some (c : Int) : errW (some c) = .iface 0 (.int .i64 c) := rfl
end Go.Proofs.Ytjffhhalmicodaa.PH
end
