import Derived.Test.YtjffhhalmicodaaXj
set_option linter.unusedVariables false
set_option linter.unusedSimpArgs false
namespace Go.Proofs.Ytjffhhalmicodaa.X
open Go.RowKit Go.Proofs.YtjffhhalmicodaaW.PrintWords Go.Proofs.YtjffhhalmicodaaW.PrintLast Go.Proofs.YtjffhhalmicodaaW.PrintMore

theorem kids_two (n c : Nat) (l b : List Nat) : ((kidsTo n 2 l b).bind fun p => some (mkN c p.1, p.2)) = (parse n l b).bind fun p => (parse n p.2 b).bind fun q => some (.two c p.1 q.1, q.2) := by
  simp only [kidsTo, Option.bind_some]
  cases h1 : parse n l b with
  | none => simp
  | some p =>
    simp only [Option.bind_some, List.nil_append]
    cases h2 : parse n p.2 b with
    | none => simp
    | some q => simp [mkN]
theorem kids_one (n c : Nat) (l b : List Nat) : ((kidsTo n 1 l b).bind fun p => some (mkN c p.1, p.2)) = (parse n l b).bind fun p => some (.one c p.1, p.2) := by
  simp only [kidsTo, Option.bind_some]
  cases h1 : parse n l b with
  | none => simp
  | some p => simp [mkN]

theorem beq_no {c k : Nat} (h : c ≠ k) : ((c : Int) == (k : Int)) = false := beq_eq_false_iff_ne.2 (by omega)

theorem read_all : ∀ n, ReadUpto n := by
  intro n
  induction n with
  | zero => intro g s b w0 w h; omega
  | succ n ih =>
    intro g s b w0 w hn hsz hI hB
    have hgw : g < w.heap.size := blk_lt hI.1
    cases hs : cs s with
    | nil => exact read_end g s b w0 w hI hB hs
    | cons c r =>
      rw [hs] at hn hsz
      simp only [List.length_cons] at hn hsz
      simp only [parse]
      by_cases h1 : isMk c = true
      · rw [if_pos h1]
        exact read_mark g s b w0 w hI hB c r hs h1
      · rw [if_neg h1]
        by_cases h2 : c = 45
        · subst h2
          rw [if_pos rfl]
          cases r with
          | nil => exact read_dash_end g s b w0 w hI hB hs
          | cons d t =>
            simp only
            by_cases h3 : isMk d = true
            · rw [if_pos h3]
              exact read_dash g s b w0 w hI hB d t hs h3
            · rw [if_neg h3]
              exact read_dash_no g s b w0 w hI hB d t hs (by simpa using h3)
        · rw [if_neg h2]
          by_cases h3 : c = 116 ∨ c = 102
          · rw [if_pos h3]
            rcases h3 with rfl | rfl
            · exact read_con116 g s b w0 w hI hB r hs
            · exact read_con102 g s b w0 w hI hB r hs
          · rw [if_neg h3]
            by_cases h4 : isLt c = true
            · rw [if_pos h4]
              by_cases h5 : c ∈ cs b
              · rw [if_pos h5]
                exact read_var g s b w0 w hI hB c r hs h4 h5
              · rw [if_neg h5]
                exact read_var_no g s b w0 w hI hB c r hs h4 h5
            · rw [if_neg h4]
              have e1 := beq_no h2
              have e2 := beq_no (show c ≠ 116 by omega)
              have e3 := beq_no (show c ≠ 102 by omega)
              by_cases h6 : c = 109 ∨ c = 103
              · rw [if_pos h6]
                rcases h6 with rfl | rfl
                · exact read_fix109 g s b w0 w hI hB r hs n (by omega) (by omega) ih
                · exact read_fix103 g s b w0 w hI hB r hs n (by omega) (by omega) ih
              · rw [if_neg h6]
                have e4 := beq_no (show c ≠ 109 by omega)
                have e5 := beq_no (show c ≠ 103 by omega)
                by_cases h7 : c = 38 ∨ c = 124
                · rw [if_pos h7, ← kids_two]
                  refine read_kids g s b w0 w hI hB hgw c r hs (by simpa using h1) (by simpa using h4) e1 e2 e3 e4 e5 2 (by omega) (by omega) ?_ n (by omega) (by omega) ih
                  rcases h7 with rfl | rfl <;> decide
                · rw [if_neg h7]
                  by_cases h8 : c = 60 ∨ c = 91
                  · rw [if_pos h8, ← kids_one]
                    refine read_kids g s b w0 w hI hB hgw c r hs (by simpa using h1) (by simpa using h4) e1 e2 e3 e4 e5 1 (by omega) (by omega) ?_ n (by omega) (by omega) ih
                    rcases h8 with rfl | rfl <;> decide
                  · rw [if_neg h8]
                    refine read_none g s b w0 w hI hB c r hs (by simpa using h1) (by simpa using h4) e1 e2 e3 e4 e5 ?_
                    have k1 : ¬ (38 : Int) = (c : Int) := by omega
                    have k2 : ¬ (124 : Int) = (c : Int) := by omega
                    have k3 : ¬ (60 : Int) = (c : Int) := by omega
                    have k4 : ¬ (91 : Int) = (c : Int) := by omega
                    simp [putL, findL, k1, k2, k3, k4]

/-- What parse leaves. -/
def ParsePost (o : Option Fm) (w : World) (e : Ending) (w' : World) : Prop := Below w.heap.size w w' ∧ match o with
  | none => e = .returned (.pointer none)
  | some f => ∃ v, e = .returned v ∧ Tree w' (fun k => w.heap.size ≤ k) f v
end Go.Proofs.Ytjffhhalmicodaa.X
