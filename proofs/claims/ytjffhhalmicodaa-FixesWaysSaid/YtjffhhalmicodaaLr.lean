import Derived.Test.YtjffhhalmicodaaLe
set_option linter.unusedVariables false
set_option linter.unusedSimpArgs false
namespace Go.Proofs.Ytjffhhalmicodaa.L
open Go.RowKit Go.Proofs.YtjffhhalmicodaaW.PrintWords Go.Proofs.YtjffhhalmicodaaW.PrintLast Go.Proofs.YtjffhhalmicodaaW.PrintMore Go.Proofs.Ytjffhhalmicodaa.X
open Go.Proofs.Ytjffhhalmicodaa.PB (comfitref08_Is.f comfitref08_Valid.f comfitlaw08_awake.f)

/-- from so many rounds on, what is tried of each input tells the same -/
structure Ready (nx mk : List Int) (a : ByteArray) (k : Nat) : Prop where
  is : comfitref08_Is.f k a = some (IsB a)
  valid : ∀ v, (v = true ↔ VW nx mk) → comfitref08_Valid.f k nx mk = some v
  awake : comfitlaw08_awake.f k = some true

open Classical in
theorem ready (nx mk : List Int) (a : ByteArray) : ∃ k0, ∀ k, k0 ≤ k → Ready nx mk a k := by
  obtain ⟨k1, h1⟩ := Is_eq a
  obtain ⟨k2, h2⟩ := Valid_eq nx mk
  refine ⟨max (max k1 k2) 3, fun k hk => ⟨?_, fun v hv => ?_, ?_⟩⟩
  · exact lift (fun k => PB.comfitref08_Is.mono a k) h1 (by omega)
  · have : v = decide (VW nx mk) := by
      cases v
      · rw [eq_comm, decide_eq_false_iff_not]; intro h; have := hv.2 h; cases this
      · rw [eq_comm, decide_eq_true_iff]; exact hv.1 rfl
    rw [this]
    exact lift (fun k => PB.comfitref08_Valid.mono nx mk k) h2 (by omega)
  · exact lift (fun k => PB.comfitlaw08_awake.mono k) awake_at (by omega)

theorem txt_is (a : ByteArray) : fixes_Is.f (txt a) = some (IsB a) := by unfold fixes_Is.f; rw [txt_whole]; rfl

/-- the byte that a formula begins with -/
theorem first_byte {a : ByteArray} {f : Fm} (h : whole (cs a) = some f) : 0 < a.size ∧ ((bt a 0 = 109 ∨ bt a 0 = 103) ↔ ∃ c x b, f = .fix c x b) ∧ ∀ c x b, f = .fix c x b → bt a 0 = c := by
  obtain ⟨hs, hw⟩ := whole_str h
  have key : ∀ (c : Nat) (l : List Nat), str f = c :: l → 0 < a.size ∧ bt a 0 = (c : Int) := by
    intro c l e
    have hd : (cs a).drop 0 = c :: l := by rw [List.drop_zero, hs, e]
    obtain ⟨h1, h2, _⟩ := drop_bt hd
    exact ⟨h1, h2⟩
  cases f with
  | mark neg j =>
    have hj : j ≤ 3 := hw
    cases neg with
    | true =>
      obtain ⟨h1, h2⟩ := key 45 [48 + j] rfl
      exact ⟨h1, ⟨fun h => by omega, fun ⟨c, x, b, e⟩ => by cases e⟩, fun c x b e => by cases e⟩
    | false =>
      obtain ⟨h1, h2⟩ := key (48 + j) [] rfl
      exact ⟨h1, ⟨fun h => by omega, fun ⟨c, x, b, e⟩ => by cases e⟩, fun c x b e => by cases e⟩
  | con c =>
    have hj : c = 116 ∨ c = 102 := hw
    obtain ⟨h1, h2⟩ := key c [] rfl
    exact ⟨h1, ⟨fun h => by omega, fun ⟨c, x, b, e⟩ => by cases e⟩, fun c x b e => by cases e⟩
  | var c =>
    have hj : 120 ≤ c ∧ c ≤ 122 := hw
    obtain ⟨h1, h2⟩ := key c [] rfl
    exact ⟨h1, ⟨fun h => by omega, fun ⟨c, x, b, e⟩ => by cases e⟩, fun c x b e => by cases e⟩
  | two c p q =>
    have hj : c = 38 ∨ c = 124 := hw.1
    obtain ⟨h1, h2⟩ := key c _ rfl
    exact ⟨h1, ⟨fun h => by omega, fun ⟨c, x, b, e⟩ => by cases e⟩, fun c x b e => by cases e⟩
  | one c p =>
    have hj : c = 60 ∨ c = 91 := hw.1
    obtain ⟨h1, h2⟩ := key c _ rfl
    exact ⟨h1, ⟨fun h => by omega, fun ⟨c, x, b, e⟩ => by cases e⟩, fun c x b e => by cases e⟩
  | fix c x p =>
    have hj : c = 109 ∨ c = 103 := hw.1
    obtain ⟨h1, h2⟩ := key c _ rfl
    exact ⟨h1, ⟨fun h => ⟨c, x, p, rfl⟩, fun _ => by omega⟩, fun c' x' b e => by injection e with e1; subst e1; exact h2⟩

theorem Steps_bad {nx mk : List Int} (h : ¬ VW nx mk) (a : ByteArray) (k : Nat) : fixes_Steps.f k (nx.take 9) (mk.take 9) (txt a) = some (0, 2) := by
  unfold fixes_Steps.f
  rw [valid_false (fun g => h (VW_take.1 g))]
  rfl
theorem Steps_none {nx mk : List Int} (h : VW nx mk) {a : ByteArray} (ha : IsB a = false) (k : Nat) : fixes_Steps.f k (nx.take 9) (mk.take 9) (txt a) = some (0, 3) := by
  unfold fixes_Steps.f
  rw [valid_true (VW_take.2 h), txt_whole]
  unfold IsB at ha
  cases hw : wholeS 40 a with
  | none => rfl
  | some f => rw [hw] at ha; cases ha
theorem Steps_flat {nx mk : List Int} (h : VW nx mk) {a : ByteArray} {f : Fm} (ha : wholeS 40 a = some f) (hw : WF f) (hf : ¬ ∃ c x b, f = .fix c x b) (k : Nat) : fixes_Steps.f k (nx.take 9) (mk.take 9) (txt a) = some (0, 3) := by
  unfold fixes_Steps.f
  rw [valid_true (VW_take.2 h), txt_whole, ha]
  simp only [Option.bind_some, if_true]
  rw [if_neg]
  cases f with
  | mark neg j => cases neg <;> simp [rootB]
  | con c => have hj : c = 116 ∨ c = 102 := hw
             simp only [rootB]; omega
  | var c => simp [rootB]
  | two c p q => have hj : c = 38 ∨ c = 124 := hw.1
                 simp only [rootB]; omega
  | one c p => have hj : c = 60 ∨ c = 91 := hw.1
               simp only [rootB]; omega
  | fix c x p => exact absurd ⟨c, x, p, rfl⟩ hf
theorem Steps_some {nx mk : List Int} (h : VW nx mk) {a : ByteArray} {c x : Nat} {b : Fm} (ha : wholeS 40 a = some (.fix c x b)) : ∃ k J, J ≤ nx.length ∧ fixes_Steps.f k (nx.take 9) (mk.take 9) (txt a) = some (1 + (J : Int), 0) ∧ ref_Steps.f k nx mk a = some (1 + (J : Int)) := by
  have hi : IsB a = true := by unfold IsB; rw [ha]; rfl
  obtain ⟨f2, h1, h2, h3⟩ := wholeS_some hi
  rw [ha] at h1
  injection h1 with h1
  subst h1
  have hc : c = 109 ∨ c = 103 := (whole_str h2).2.1
  obtain ⟨k, m, J, hJ, e1, e2⟩ := both_steps h h2
  refine ⟨k, J, hJ, ?_, ?_⟩
  · unfold fixes_Steps.f
    rw [(take_of h).1, (take_of h).2, valid_true h, txt_of hi, ha]
    simp only [Option.bind_some, if_true]
    rw [if_pos (show rootB (.fix c x b) = 109 ∨ rootB (.fix c x b) = 103 by simp only [rootB]; omega), e2]
    simp only [Option.bind_some]
    congr 2
    omega
  · unfold ref_Steps.f
    rw [if_pos (by omega), h2]
    simp only
    rw [e1]
    rfl
end Go.Proofs.Ytjffhhalmicodaa.L
