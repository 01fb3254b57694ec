import Derived.Test.YtjffhhalmicodaaLe
import Derived.Test.YtjffhhalmicodaaPBx7
set_option linter.unusedVariables false
set_option linter.unusedSimpArgs false
namespace Go.Proofs.Ytjffhhalmicodaa.L
open Go.RowKit Go.Proofs.YtjffhhalmicodaaW.PrintWords Go.Proofs.YtjffhhalmicodaaW.PrintLast Go.Proofs.YtjffhhalmicodaaW.PrintMore Go.Proofs.Ytjffhhalmicodaa.X
open Go.Proofs.Ytjffhhalmicodaa.PB (comfitref08_Is.f comfitref08_Valid.f comfitlaw08_awake.f comfitlaw08_FixesHolds.f)

/-- from so many rounds on, what is tried of each input tells the same -/
structure Ready (nx mk : List Int) (a : ByteArray) (k : Nat) : Prop where
  is : comfitref08_Is.f k a = some (IsB a)
  valid : ∀ v, (v = true ↔ VW nx mk) → comfitref08_Valid.f k nx mk = some v
  awake : comfitlaw08_awake.f k = some true

open Classical in
theorem ready (nx mk : List Int) (a : ByteArray) : ∃ k0, ∀ k, k0 ≤ k → Ready nx mk a k := by
  obtain ⟨k1, h1⟩ := Is_eq a
  obtain ⟨k2, h2⟩ := Valid_eq nx mk
  refine ⟨max (max k1 k2) 3, fun k hk => ⟨?_, fun v hv => ?_, ?_⟩⟩
  · exact lift (fun k => PB.comfitref08_Is.mono a k) h1 (by omega)
  · have : v = decide (VW nx mk) := by
      cases v
      · rw [eq_comm, decide_eq_false_iff_not]; intro h; have := hv.2 h; cases this
      · rw [eq_comm, decide_eq_true_iff]; exact hv.1 rfl
    rw [this]
    exact lift (fun k => PB.comfitref08_Valid.mono nx mk k) h2 (by omega)
  · exact lift (fun k => PB.comfitlaw08_awake.mono k) awake_at (by omega)

theorem Pure_FixesHolds (nx mk : List Int) (a : ByteArray) : ∃ k, comfitlaw08_FixesHolds.f k nx mk a = some true := by
  obtain ⟨k0, hk0⟩ := ready nx mk a
  have his : fixes_Is.f (txt a) = some (IsB a) := by unfold fixes_Is.f; rw [txt_whole]; rfl
  have go : ∀ k, k0 ≤ k → ∀ n e v, fixes_Holds.f k (nx.take 9) (mk.take 9) (txt a) = some (n, e) → (v = true ↔ VW nx mk) →
      comfitlaw08_FixesHolds.f k nx mk a = (if v = true then (if IsB a = true then ((ref_Holds.f k nx mk a).bind fun t148 => (if n = t148 then (if e = 0 then some true else (some false)) else (some false))) else (if n = 0 then (if e = 3 then some true else (some false)) else (some false))) else (if n = 0 then (if e = 2 then some true else (some false)) else (some false))) := by
    intro k hk n e v h hv
    have hr := hk0 k hk
    unfold comfitlaw08_FixesHolds.f
    rw [Of_eq, text_eq]
    simp only [Option.bind_some, h, his, hr.is, hr.awake, hr.valid v hv]
    rw [if_neg (by simp)]
  by_cases hv : VW nx mk
  · cases hi : IsB a with
    | false =>
      refine ⟨k0, ?_⟩
      rw [go k0 (Nat.le_refl _) 0 3 true (Holds_none hv hi k0) (by simp [hv]), if_pos rfl, hi]
      rfl
    | true =>
      obtain ⟨f, h1, h2, h3⟩ := wholeS_some hi
      obtain ⟨k1, e1, e2⟩ := Holds_some hv h1
      refine ⟨max k0 k1, ?_⟩
      rw [go (max k0 k1) (Nat.le_max_left _ _) _ _ true (lift (fun k => fixes_Holds.mono _ _ _ k) e1 (Nat.le_max_right k0 k1)) (by simp [hv]), if_pos rfl, if_pos hi, lift (fun k => ref_Holds.mono _ _ _ k) e2 (Nat.le_max_right k0 k1)]
      simp
  · refine ⟨k0, ?_⟩
    rw [go k0 (Nat.le_refl _) 0 2 false (Holds_bad hv a k0) (by simp [hv])]
    rfl
end Go.Proofs.Ytjffhhalmicodaa.L
