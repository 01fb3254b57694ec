import Derived.Test.YtjffhhalmicodaaLr
import Derived.Test.YtjffhhalmicodaaPBx4
set_option linter.unusedVariables false
set_option linter.unusedSimpArgs false
namespace Go.Proofs.Ytjffhhalmicodaa.L
open Go.RowKit Go.Proofs.YtjffhhalmicodaaW.PrintWords Go.Proofs.YtjffhhalmicodaaW.PrintLast Go.Proofs.YtjffhhalmicodaaW.PrintMore Go.Proofs.Ytjffhhalmicodaa.X
open Go.Proofs.Ytjffhhalmicodaa.PB (comfitref08_Is.f comfitref08_Valid.f comfitlaw08_awake.f comfitlaw08_FixesSteps.f comfitlaw08_FixesSteps.j0)

theorem Pure_FixesSteps (nx mk : List Int) (a : ByteArray) : ∃ k, comfitlaw08_FixesSteps.f k nx mk a = some true := by
  obtain ⟨k0, hk0⟩ := ready nx mk a
  have go : ∀ k, k0 ≤ k → ∀ n e v, fixes_Steps.f (k + 1) (nx.take 9) (mk.take 9) (txt a) = some (n, e) → (v = true ↔ VW nx mk) →
      comfitlaw08_FixesSteps.f (k + 1) nx mk a = (if v = true then (if IsB a = true then (if 0 < (a.size : Int) then (if bt a 0 = 109 then comfitlaw08_FixesSteps.j0 (k + 1) a n e false nx mk else comfitlaw08_FixesSteps.j0 (k + 1) a n e (bt a 0 != 103) nx mk) else none) else comfitlaw08_FixesSteps.j0 (k + 1) a n e true nx mk) else (if n = 0 then (if e = 2 then some true else (some false)) else (some false))) := by
    intro k hk n e v h hv
    have hr := hk0 (k + 1) (by omega)
    unfold comfitlaw08_FixesSteps.f
    rw [Of_eq, text_eq]
    simp only [Option.bind_some, h, hr.is, hr.awake, hr.valid v hv]
  have j0t : ∀ k, k0 ≤ k → comfitlaw08_FixesSteps.j0 (k + 1) a 0 3 true nx mk = some true := by
    intro k hk
    rw [comfitlaw08_FixesSteps.j0, if_pos rfl, if_pos rfl, if_pos rfl, (hk0 k hk).awake]
    rfl
  by_cases hv : VW nx mk
  · cases hi : IsB a with
    | false =>
      refine ⟨k0 + 1, ?_⟩
      rw [go k0 (Nat.le_refl _) 0 3 true (Steps_none hv hi _) (by simp [hv]), if_pos rfl, if_neg (by rw [hi]; decide), j0t k0 (Nat.le_refl _)]
    | true =>
      obtain ⟨f, h1, h2, h3⟩ := wholeS_some hi
      obtain ⟨hpos, hbt, hc⟩ := first_byte h2
      by_cases hf : ∃ c x b, f = .fix c x b
      · obtain ⟨c, x, b, rfl⟩ := hf
        obtain ⟨k1, J, hJ, e1, e2⟩ := Steps_some hv h1
        have hk1 : k1 ≤ max k0 k1 := Nat.le_max_right k0 k1
        have j0f : comfitlaw08_FixesSteps.j0 (max k0 k1 + 1) a (1 + (J : Int)) 0 false nx mk = some true := by
          rw [comfitlaw08_FixesSteps.j0, if_neg (by decide), lift (fun k => ref_Steps.mono _ _ _ k) e2 hk1]
          simp only [Option.bind_some]
          rw [if_pos trivial, if_pos trivial, (hk0 _ (Nat.le_max_left k0 k1)).awake]
          rfl
        refine ⟨max k0 k1 + 1, ?_⟩
        rw [go (max k0 k1) (Nat.le_max_left _ _) _ _ true (lift (fun k => fixes_Steps.mono _ _ _ k) e1 (by omega)) (by simp [hv]), if_pos rfl, if_pos hi, if_pos (by omega)]
        by_cases h109 : bt a 0 = 109
        · rw [if_pos h109, j0f]
        · rw [if_neg h109]
          have h103 : bt a 0 = 103 := by
            have := hbt.2 ⟨c, x, b, rfl⟩
            omega
          rw [show (bt a 0 != 103) = false by rw [h103]; rfl, j0f]
      · have hno : ¬ (bt a 0 = 109 ∨ bt a 0 = 103) := fun h => hf (hbt.1 h)
        refine ⟨k0 + 1, ?_⟩
        rw [go k0 (Nat.le_refl _) 0 3 true (Steps_flat hv h1 (whole_str h2).2 hf _) (by simp [hv]), if_pos rfl, if_pos hi, if_pos (by omega), if_neg (by omega)]
        rw [show (bt a 0 != 103) = true by simp; omega, j0t k0 (Nat.le_refl _)]
  · refine ⟨k0 + 1, ?_⟩
    rw [go k0 (Nat.le_refl _) 0 2 false (Steps_bad hv a _) (by simp [hv])]
    rfl
end Go.Proofs.Ytjffhhalmicodaa.L
