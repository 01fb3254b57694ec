import Derived.Test.YtjffhhalmicodaaXr
set_option linter.unusedVariables false
set_option linter.unusedSimpArgs false
namespace Go.Proofs.Ytjffhhalmicodaa.X
open Go.RowKit Go.Proofs.YtjffhhalmicodaaW.PrintWords Go.Proofs.YtjffhhalmicodaaW.PrintLast Go.Proofs.YtjffhhalmicodaaW.PrintMore

theorem holdF_mono (nx mk : List Int) : ∀ k, (∀ f m, LeO (holdF nx mk k f m) (holdF nx mk (k + 1) f m)) ∧ (∀ x a s c m, LeO (loopF nx mk k x a s c m) (loopF nx mk (k + 1) x a s c m)) := by
  intro k
  induction k with
  | zero => exact ⟨fun f m r h => by simp [holdF] at h, fun x a s c m r h => by simp [loopF] at h⟩
  | succ k ih =>
    obtain ⟨ih1, ih2⟩ := ih
    refine ⟨fun f m => ?_, fun x a s c m => ?_⟩
    · cases f with
      | mark neg j => simp only [holdF]; exact LeO.refl _
      | con c => simp only [holdF]; exact LeO.refl _
      | var c => simp only [holdF]; exact LeO.refl _
      | two c a b =>
        rw [holdF, holdF]
        exact LeO.ite (LeO.bind (ih1 a m) (fun p => LeO.bind (ih1 b p.2) (fun q => LeO.refl _))) (LeO.refl _)
      | one c a =>
        rw [holdF, holdF]
        exact LeO.ite (LeO.bind (ih1 a m) (fun p => LeO.refl _)) (LeO.refl _)
      | fix c x a =>
        rw [holdF, holdF]
        exact LeO.ite (LeO.bind (ih2 x a _ 0 m) (fun p => LeO.refl _)) (LeO.refl _)
    · rw [loopF, loopF]
      exact LeO.bind (ih1 a _) (fun p => LeO.ite (LeO.refl _) (ih2 x a _ _ _))

def fixes_Holds.f (k : Nat) (l0_0 l0_1 : List Int) (a1 : ByteArray) : Option (Int × Int) := (PA.fixes_Works_valid.f l0_0 l0_1).bind fun v => if v = true then (match wholeS 40 a1 with
  | none => some (0, 3)
  | some f => (holdF l0_0 l0_1 k f []).bind fun p => some (p.1, 0)) else some (0, 2)
theorem fixes_Holds.mono : ∀ a0 a1 a2 k, LeO (fixes_Holds.f k a0 a1 a2) (fixes_Holds.f (k + 1) a0 a1 a2) := by
  intro a0 a1 a2 k
  unfold fixes_Holds.f
  refine LeO.bind (LeO.refl _) (fun v => LeO.ite ?_ (LeO.refl _))
  cases wholeS 40 a2 with
  | none => exact LeO.refl _
  | some f => exact LeO.bind ((holdF_mono a0 a1 k).1 f []) (fun p => LeO.refl _)
theorem fixes_Holds.calls (k : Nat) (A0_0 : Option Addr) (c0_0 : Nat) (l0_0 : List Int) (A0_1 : Option Addr) (c0_1 : Nat) (l0_1 : List Int) (a1 : ByteArray) (r1 : Int) (r2 : Int) (w : World) (hr0_0 : Kd.C (Kd.int .i64) w A0_0 l0_0.length l0_0) (hc0_0 : l0_0.length ≤ c0_0) (hr0_1 : Kd.C (Kd.int .i64) w A0_1 l0_1.length l0_1) (hc0_1 : l0_1.length ≤ c0_1) (h : fixes_Holds.f k l0_0 l0_1 a1 = some (r1, r2)) :
    Calls Try.prog 16 #[.agg #[.slice A0_0 l0_0.length c0_0, .slice A0_1 l0_1.length c0_1], .string a1] w fun e w' => e = .returned (.tuple #[.int .i64 r1, .int .i64 r2]) ∧ Below w.heap.size w w' := by
  unfold fixes_Holds.f at h
  obtain ⟨v, hv, h⟩ := Option.bind_eq_some_iff.mp h
  cases v with
  | false =>
    simp only [Bool.false_eq_true, if_false, Option.some.injEq, Prod.mk.injEq] at h
    obtain ⟨rfl, rfl⟩ := h
    exact Holds_bad A0_0 c0_0 l0_0 A0_1 c0_1 l0_1 a1 w hr0_0 hc0_0 hr0_1 hc0_1 hv
  | true =>
    simp only [if_true] at h
    cases ho : wholeS 40 a1 with
    | none =>
      rw [ho] at h
      simp only [Option.some.injEq, Prod.mk.injEq] at h
      obtain ⟨rfl, rfl⟩ := h
      exact Holds_none A0_0 c0_0 l0_0 A0_1 c0_1 l0_1 a1 w hr0_0 hc0_0 hr0_1 hc0_1 hv ho
    | some f =>
      rw [ho] at h
      obtain ⟨p, hp, h⟩ := Option.bind_eq_some_iff.mp h
      simp only [Option.some.injEq, Prod.mk.injEq] at h
      obtain ⟨rfl, rfl⟩ := h
      exact Holds_some A0_0 c0_0 l0_0 A0_1 c0_1 l0_1 a1 w hr0_0 hc0_0 hr0_1 hc0_1 f k p.1 p.2 hv ho hp

def fixes_Is.f (a0 : ByteArray) : Option Bool := some (wholeS 40 a0).isSome
theorem fixes_Is.calls (a0 : ByteArray) (r : Bool) (w : World) (h : fixes_Is.f a0 = some r) :
    Calls Try.prog 19 #[.string a0] w fun e w' => e = .returned (.bool r) ∧ Below w.heap.size w w' := by
  obtain rfl := Option.some.inj h
  exact is_calls a0 w

def fixes_Steps.f (k : Nat) (l0_0 l0_1 : List Int) (a1 : ByteArray) : Option (Int × Int) := (PA.fixes_Works_valid.f l0_0 l0_1).bind fun v => if v = true then (match wholeS 40 a1 with
  | none => some (0, 3)
  | some f => if rootB f = 109 ∨ rootB f = 103 then (match f with
    | .fix c x a => (loopF l0_0 l0_1 k x a (if c = 103 then allOf l0_0 else 0) 0 []).bind fun p => some (p.2.1, 0)
    | _ => none) else some (0, 3)) else some (0, 2)
theorem fixes_Steps.mono : ∀ a0 a1 a2 k, LeO (fixes_Steps.f k a0 a1 a2) (fixes_Steps.f (k + 1) a0 a1 a2) := by
  intro a0 a1 a2 k
  unfold fixes_Steps.f
  refine LeO.bind (LeO.refl _) (fun v => LeO.ite ?_ (LeO.refl _))
  cases wholeS 40 a2 with
  | none => exact LeO.refl _
  | some f =>
    refine LeO.ite ?_ (LeO.refl _)
    cases f with
    | fix c x a => exact LeO.bind ((holdF_mono a0 a1 k).2 x a _ 0 []) (fun p => LeO.refl _)
    | _ => exact LeO.refl _
theorem fixes_Steps.calls (k : Nat) (A0_0 : Option Addr) (c0_0 : Nat) (l0_0 : List Int) (A0_1 : Option Addr) (c0_1 : Nat) (l0_1 : List Int) (a1 : ByteArray) (r1 : Int) (r2 : Int) (w : World) (hr0_0 : Kd.C (Kd.int .i64) w A0_0 l0_0.length l0_0) (hc0_0 : l0_0.length ≤ c0_0) (hr0_1 : Kd.C (Kd.int .i64) w A0_1 l0_1.length l0_1) (hc0_1 : l0_1.length ≤ c0_1) (h : fixes_Steps.f k l0_0 l0_1 a1 = some (r1, r2)) :
    Calls Try.prog 24 #[.agg #[.slice A0_0 l0_0.length c0_0, .slice A0_1 l0_1.length c0_1], .string a1] w fun e w' => e = .returned (.tuple #[.int .i64 r1, .int .i64 r2]) ∧ Below w.heap.size w w' := by
  unfold fixes_Steps.f at h
  obtain ⟨v, hv, h⟩ := Option.bind_eq_some_iff.mp h
  cases v with
  | false =>
    simp only [Bool.false_eq_true, if_false, Option.some.injEq, Prod.mk.injEq] at h
    obtain ⟨rfl, rfl⟩ := h
    exact Steps_bad A0_0 c0_0 l0_0 A0_1 c0_1 l0_1 a1 w hr0_0 hc0_0 hr0_1 hc0_1 hv
  | true =>
    simp only [if_true] at h
    cases ho : wholeS 40 a1 with
    | none =>
      rw [ho] at h
      simp only [Option.some.injEq, Prod.mk.injEq] at h
      obtain ⟨rfl, rfl⟩ := h
      exact Steps_none A0_0 c0_0 l0_0 A0_1 c0_1 l0_1 a1 w hr0_0 hc0_0 hr0_1 hc0_1 hv ho
    | some f =>
      rw [ho] at h
      simp only at h
      split at h
      · rename_i hc
        cases f with
        | fix c x a =>
          simp only at h
          obtain ⟨p, hp, h⟩ := Option.bind_eq_some_iff.mp h
          simp only [Option.some.injEq, Prod.mk.injEq] at h
          obtain ⟨rfl, rfl⟩ := h
          simp only [rootB] at hc
          have hc' : c = 109 ∨ c = 103 := by omega
          rcases hc' with rfl | rfl
          · exact Steps_m A0_0 c0_0 l0_0 A0_1 c0_1 l0_1 a1 w hr0_0 hc0_0 hr0_1 hc0_1 x a k p.1 p.2.1 p.2.2 hv ho hp
          · exact Steps_g A0_0 c0_0 l0_0 A0_1 c0_1 l0_1 a1 w hr0_0 hc0_0 hr0_1 hc0_1 x a k p.1 p.2.1 p.2.2 hv ho hp
        | mark _ _ => cases h
        | con _ => cases h
        | var _ => cases h
        | two _ _ _ => cases h
        | one _ _ => cases h
      · rename_i hc
        simp only [Option.some.injEq, Prod.mk.injEq] at h
        obtain ⟨rfl, rfl⟩ := h
        exact Steps_other A0_0 c0_0 l0_0 A0_1 c0_1 l0_1 a1 w hr0_0 hc0_0 hr0_1 hc0_1 f (rootB f) hv ho rfl (by rw [bne_iff_ne]; omega) (by rw [bne_iff_ne]; omega)
end Go.Proofs.Ytjffhhalmicodaa.X
