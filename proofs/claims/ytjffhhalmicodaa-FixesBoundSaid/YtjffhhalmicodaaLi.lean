import Derived.Test.YtjffhhalmicodaaLr
import Derived.Test.YtjffhhalmicodaaPBx5
set_option linter.unusedVariables false
set_option linter.unusedSimpArgs false
namespace Go.Proofs.Ytjffhhalmicodaa.L
open Go.RowKit Go.Proofs.YtjffhhalmicodaaW.PrintWords Go.Proofs.YtjffhhalmicodaaW.PrintLast Go.Proofs.YtjffhhalmicodaaW.PrintMore Go.Proofs.Ytjffhhalmicodaa.X
open Go.Proofs.Ytjffhhalmicodaa.PB (comfitref08_Is.f comfitref08_Valid.f comfitlaw08_awake.f comfitlaw08_FixesBound.f comfitlaw08_FixesBound.j0)

theorem cs_append (a b : ByteArray) : cs (a ++ b) = cs a ++ cs b := by
  unfold cs
  simp

/-- another m or g in front -/
theorem whole_front {c x d : Nat} {b : Fm} {l : List Nat} (h : whole (c :: l) = some (.fix c x b)) (hd : d = 109 ∨ d = 103) : whole (d :: l) = some (.fix d x b) := by
  have hc : c = 109 ∨ c = 103 := (whole_str h).2.1
  unfold whole at h ⊢
  have pf : ∀ e : Nat, e = 109 ∨ e = 103 → parse ((e :: l).length + 1) (e :: l) [] = parseFix (l.length + 1) e l [] := by
    intro e he
    rw [List.length_cons, parse_cons]
    have n1 : isMk e = false := by rcases he with rfl | rfl <;> rfl
    have n2 : isLt e = false := by rcases he with rfl | rfl <;> rfl
    rw [if_neg (by rw [n1]; decide), if_neg (by omega), if_neg (by omega), if_neg (by rw [n2]; decide), if_pos he]
  rw [pf c hc] at h
  rw [pf d hd]
  cases l with
  | nil => simp [parseFix] at h
  | cons y r =>
    simp only [parseFix] at h ⊢
    by_cases hy : isLt y = true ∧ y ∉ ([] : List Nat)
    · rw [if_pos hy] at h ⊢
      cases hp : parse ((y :: r).length + 1) r ([] ++ [y]) with
      | none => rw [hp] at h; cases h
      | some p =>
        rw [hp] at h
        simp only [Option.bind_some] at h ⊢
        split at h
        · rename_i he
          rw [if_pos he]
          simp only [Option.some.injEq, Fm.fix.injEq] at h
          simp [h.2.1, h.2.2]
        · cases h
    · rw [if_neg hy] at h
      cases h

theorem front {nx mk : List Int} (hv : VW nx mk) {a : ByteArray} {c x : Nat} {b : Fm} (h1 : wholeS 40 a = some (.fix c x b)) {d : Nat} (hd : d = 109 ∨ d = 103) (q : ByteArray) (hq : cs q = [d]) :
    ∃ k, fixes_Holds.f k (nx.take 9) (mk.take 9) (q ++ a.extract 1 a.size) = some (V nx mk (.fix d x b) (0, 0, 0), 0) := by
  have hi : IsB a = true := by unfold IsB; rw [h1]; rfl
  obtain ⟨f2, g1, h2, h3⟩ := wholeS_some hi
  rw [h1] at g1
  injection g1 with g1
  subst g1
  have hs : cs a = c :: (x :: str b) := (whole_str h2).1
  have ht := (take_cons (b := q) hs).2
  have hcs : cs (q ++ a.extract 1 a.size) = d :: (x :: str b) := by rw [cs_append, ht, hq]; rfl
  have hlen : (q ++ a.extract 1 a.size).size = a.size := by
    have e1 := cs_length (q ++ a.extract 1 a.size)
    have e2 := cs_length a
    rw [hcs] at e1
    rw [hs] at e2
    rw [← e1, ← e2]
    rfl
  rw [hs] at h2
  have hw := whole_front h2 hd
  rw [← hcs] at hw
  obtain ⟨k, m, _, e2⟩ := both_holds hv hw
  refine ⟨k, ?_⟩
  unfold fixes_Holds.f wholeS
  rw [(take_of hv).1, (take_of hv).2, valid_true hv]
  simp only [Option.bind_some, if_true]
  rw [if_pos (by omega), hw]
  simp only
  rw [e2]
  rfl

theorem least_most {nx mk : List Int} (hv : VW nx mk) {x : Nat} {b : Fm} (hb : WF b) : Sub (V nx mk (.fix 109 x b) (0, 0, 0)) (V nx mk (.fix 103 x b) (0, 0, 0)) := by
  have hle := hv.le
  have hs := inE_zero nx.length
  have h0 := inS_zero nx.length
  have h1 := all_in (nx := nx) (by omega)
  have hF := F_in hv (x := x) hb hs
  have key : ∀ k, Sub (it (FOf nx mk x b (0, 0, 0)) 0 k) (it (FOf nx mk x b (0, 0, 0)) (allOf nx) k) := by
    intro k
    induction k with
    | zero => exact sub_zero _
    | succ k ih => exact F_mono hv hb hs _ _ (it_in h0 hF k) (it_in h1 hF k) ih
  exact key nx.length

theorem Pure_FixesBound (nx mk : List Int) (a : ByteArray) : ∃ k, comfitlaw08_FixesBound.f k nx mk a = some true := by
  obtain ⟨k0, hk0⟩ := ready nx mk a
  have j0t : ∀ k n e, k0 ≤ k → e = 2 ∨ e = 3 → comfitlaw08_FixesBound.j0 (k + 1) a n e true nx mk = some true := by
    intro k n e hk he
    rw [comfitlaw08_FixesBound.j0, if_pos rfl]
    rcases he with rfl | rfl
    · rw [if_pos rfl, (hk0 k hk).awake]; rfl
    · rw [if_neg (by decide), if_pos rfl, (hk0 k hk).awake]; rfl
  have bad : ∀ e, e = 2 ∨ e = 3 → fixes_Steps.f (k0 + 1) (nx.take 9) (mk.take 9) (txt a) = some (0, e) → ∃ k, comfitlaw08_FixesBound.f k nx mk a = some true := by
    intro e he h
    refine ⟨k0 + 1, ?_⟩
    unfold comfitlaw08_FixesBound.f
    rw [Of_eq, text_eq]
    simp only [Option.bind_some, h]
    rw [if_neg (by omega)]
    exact j0t k0 0 e (Nat.le_refl _) he
  by_cases hv : VW nx mk
  · have hle := hv.le
    cases hi : IsB a with
    | false => exact bad 3 (.inr rfl) (Steps_none hv hi _)
    | true =>
      obtain ⟨f, h1, h2, h3⟩ := wholeS_some hi
      by_cases hf : ∃ c x b, f = .fix c x b
      · obtain ⟨c, x, b, rfl⟩ := hf
        obtain ⟨k1, J, hJ, e1, e2⟩ := Steps_some hv h1
        obtain ⟨k2, g2⟩ := front hv h1 (d := 109) (.inl rfl) ⟨#[109]⟩ rfl
        obtain ⟨k3, g3⟩ := front hv h1 (d := 103) (.inr rfl) ⟨#[103]⟩ rfl
        have hb : WF b := (whole_str h2).2.2.2
        have hsz := (first_byte h2).1
        have hk : k0 ≤ max (max k0 k1) (max k2 k3) := by omega
        refine ⟨max (max k0 k1) (max k2 k3) + 1, ?_⟩
        unfold comfitlaw08_FixesBound.f
        rw [Of_eq, text_eq]
        simp only [Option.bind_some, lift (fun k => fixes_Steps.mono _ _ _ k) e1 (show k1 ≤ max (max k0 k1) (max k2 k3) + 1 by omega)]
        rw [if_pos trivial, (hk0 _ (Nat.le_succ_of_le hk)).valid true (by simp [hv])]
        simp only [Option.bind_some, if_true]
        rw [(hk0 _ (Nat.le_succ_of_le hk)).is, hi]
        simp only [Option.bind_some, Bool.not_true]
        rw [comfitlaw08_FixesBound.j0, if_neg (by decide), Of_eq]
        simp only [Option.bind_some]
        rw [if_pos (by omega), if_pos (by rw [ByteArray.size_extract]; omega), lift (fun k => fixes_Holds.mono _ _ _ k) g2 (show k2 ≤ max (max k0 k1) (max k2 k3) by omega)]
        simp only [Option.bind_some]
        rw [lift (fun k => fixes_Holds.mono _ _ _ k) g3 (show k3 ≤ max (max k0 k1) (max k2 k3) by omega)]
        simp only [Option.bind_some]
        have hwr : wrap64 ((nx.length : Int) + 1) = (nx.length : Int) + 1 := by unfold wrap64; omega
        have hm := V_spec hv (.fix 109 x b) ⟨.inl rfl, (whole_str h2).2.2.1, hb⟩
        have hg := V_spec hv (.fix 103 x b) ⟨.inr rfl, (whole_str h2).2.2.1, hb⟩
        have hz : bits .andNot .i64 (V nx mk (.fix 109 x b) (0, 0, 0)) (V nx mk (.fix 103 x b) (0, 0, 0)) = 0 :=
          (andNot_zero (n := nx.length) (by omega) (hm.1 _ (inE_zero _)) (hg.1 _ (inE_zero _))).2 (least_most hv hb)
        rw [if_pos trivial, if_pos trivial, if_pos (by omega), hwr, if_pos (by omega), if_pos hz, (hk0 _ hk).awake]
        rfl
      · exact bad 3 (.inr rfl) (Steps_flat hv h1 (whole_str h2).2 hf _)
  · exact bad 2 (.inl rfl) (Steps_bad hv a _)
end Go.Proofs.Ytjffhhalmicodaa.L
