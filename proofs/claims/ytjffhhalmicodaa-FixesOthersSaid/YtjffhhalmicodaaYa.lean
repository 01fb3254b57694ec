import Derived.Test.YtjffhhalmicodaaXz
set_option linter.unusedVariables false
set_option linter.unusedSimpArgs false
namespace Go.Proofs.Ytjffhhalmicodaa.X
open Go.RowKit Go.Proofs.YtjffhhalmicodaaW.PrintWords Go.Proofs.YtjffhhalmicodaaW.PrintLast Go.Proofs.YtjffhhalmicodaaW.PrintMore

/-- the formula of all other states -/
def dual : Fm → Fm
  | .mark neg k => .mark (!neg) k
  | .con c => .con (opp c)
  | .var c => .var c
  | .two c a b => .two (opp c) (dual a) (dual b)
  | .one c a => .one (opp c) (dual a)
  | .fix c x a => .fix (opp c) x (dual a)
/-- its bytes, as they are put together -/
def nb : Fm → ByteArray
  | .mark neg k => if neg = true then ⟨#[UInt8.ofNat (48 + k)]⟩ else (⟨#[45]⟩ : ByteArray) ++ ⟨#[UInt8.ofNat (48 + k)]⟩
  | .con c => ⟨#[UInt8.ofNat (opp c)]⟩
  | .var c => ⟨#[UInt8.ofNat c]⟩
  | .two c a b => ((⟨#[UInt8.ofNat (opp c)]⟩ : ByteArray) ++ nb a) ++ nb b
  | .one c a => (⟨#[UInt8.ofNat (opp c)]⟩ : ByteArray) ++ nb a
  | .fix c x a => ((⟨#[UInt8.ofNat (opp c)]⟩ : ByteArray) ++ ⟨#[UInt8.ofNat x]⟩) ++ nb a
theorem cs_app (a b : ByteArray) : cs (a ++ b) = cs a ++ cs b := by
  unfold cs
  simp
theorem cs_one {c : Nat} (h : c < 256) : cs ⟨#[UInt8.ofNat c]⟩ = [c] := by
  unfold cs
  simp
  omega
theorem opp_lt {c : Nat} : opp c < 256 := by
  unfold opp
  repeat' split
  all_goals omega
theorem nb_str : ∀ f, WF f → cs (nb f) = str (dual f) := by
  intro f
  induction f with
  | mark neg k =>
    intro h
    have h : k ≤ 3 := h
    cases neg with
    | true =>
      show cs ⟨#[UInt8.ofNat (48 + k)]⟩ = [48 + k]
      exact cs_one (by omega)
    | false =>
      show cs ((⟨#[45]⟩ : ByteArray) ++ ⟨#[UInt8.ofNat (48 + k)]⟩) = [45, 48 + k]
      rw [cs_app, cs_one (by omega)]
      rfl
  | con c => intro h; exact cs_one opp_lt
  | var c =>
    intro h
    have h : 120 ≤ c ∧ c ≤ 122 := h
    exact cs_one (by omega)
  | two c a b iha ihb =>
    intro h
    show cs (((⟨#[UInt8.ofNat (opp c)]⟩ : ByteArray) ++ nb a) ++ nb b) = opp c :: (str (dual a) ++ str (dual b))
    rw [cs_app, cs_app, cs_one opp_lt, iha h.2.1, ihb h.2.2]
    rfl
  | one c a iha =>
    intro h
    show cs ((⟨#[UInt8.ofNat (opp c)]⟩ : ByteArray) ++ nb a) = opp c :: str (dual a)
    rw [cs_app, cs_one opp_lt, iha h.2]
    rfl
  | fix c x a iha =>
    intro h
    have hx : 120 ≤ x ∧ x ≤ 122 := h.2.1
    show cs (((⟨#[UInt8.ofNat (opp c)]⟩ : ByteArray) ++ ⟨#[UInt8.ofNat x]⟩) ++ nb a) = opp c :: x :: str (dual a)
    rw [cs_app, cs_app, cs_one opp_lt, cs_one (by omega), iha h.2.2]
    rfl
theorem nb_size : ∀ f, WF f → (nb f).size ≤ 2 * (str f).length := by
  intro f h
  rw [← cs_length, nb_str f h]
  clear h
  induction f with
  | mark neg k => cases neg <;> simp [dual, str]
  | con c => simp [dual, str]
  | var c => simp [dual, str]
  | two c a b iha ihb => simp only [dual, str, List.length_cons, List.length_append]; omega
  | one c a iha => simp only [dual, str, List.length_cons]; omega
  | fix c x a iha => simp only [dual, str, List.length_cons]; omega

theorem one_size (c : Nat) : (⟨#[UInt8.ofNat c]⟩ : ByteArray).size = 1 := rfl
theorem not_calls : ∀ f, WF f → (str f).length ≤ 1000 → ∀ (ok : Nat → Prop) (v : Value) (w : World), Tree w ok f v → Calls Try.prog 58 #[v] w fun e w' => e = .returned (.string (nb f)) ∧ Below w.heap.size w w' := by
  intro f
  induction f with
  | mark neg j =>
    intro hw hl ok v w h
    obtain ⟨g, b, off, cap, rfl, _, _, h0, h1, h2, h3, _⟩ := h
    cases neg with
    | true => exact (not_mark_neg j hw g w h0 h1).mono fun e w' ⟨a, b⟩ => ⟨a, b ▸ Below.refl _ _⟩
    | false => exact (not_mark_pos j hw g w h0 h1).mono fun e w' ⟨a, b⟩ => ⟨a, b ▸ Below.refl _ _⟩
  | con c =>
    intro hw hl ok v w h
    obtain ⟨g, b, off, cap, rfl, _, _, h0, h1, h2, h3, _⟩ := h
    have hop : IsOp c := by
      have hw : c = 116 ∨ c = 102 := hw
      unfold IsOp; omega
    exact not_rest c hop g none 0 (fun _ => .pointer none) 0 (fun _ => ⟨#[]⟩) w h0 h2 (by simpa using h3) (fun i hi => by omega) (fun i hi => by omega) (by omega) (fun i hi => by omega)
  | var c =>
    intro hw hl ok v w h
    obtain ⟨g, b, off, cap, rfl, _, _, h0, h1, h2, h3, _⟩ := h
    exact (not_var c hw g w h0 h2).mono fun e w' ⟨a, b⟩ => ⟨a, b ▸ Below.refl _ _⟩
  | two c a b iha ihb =>
    intro hw hl ok v w h
    obtain ⟨va, vb, ⟨g, bl, off, cap, rfl, _, _, h0, h1, h2, h3, h4⟩, ha, hb⟩ := h
    have hop : IsOp c := by
      have hw : c = 38 ∨ c = 124 := hw.1
      unfold IsOp; omega
    have hla : (str a).length + (str b).length ≤ 999 := by simp only [str, List.length_cons, List.length_append] at hl; omega
    have sa := nb_size a hw.2.1
    have sb := nb_size b hw.2.2
    have key := not_rest c hop g (some ⟨bl, off, none⟩) cap (fun i => if i = 0 then va else vb) 2 (fun i => if i = 0 then nb a else nb b) w h0 h2 (by simpa using h3) (fun i hi => ⟨bl, off, rfl, by
      rcases (show i = 0 ∨ i = 1 by omega) with rfl | rfl
      · exact h4 0 va rfl
      · exact h4 1 vb rfl⟩) (fun i hi W hW => by
      rcases (show i = 0 ∨ i = 1 by omega) with rfl | rfl
      · exact iha hw.2.1 (by omega) ok va W (Tree.same (SameBut.of_below hW) (fun _ _ h => h) _ _ ha)
      · exact ihb hw.2.2 (by omega) ok vb W (Tree.same (SameBut.of_below hW) (fun _ _ h => h) _ _ hb)) (by omega) (fun i hi => by
      rcases (show i = 0 ∨ i = 1 by omega) with rfl | rfl
      · show (⟨#[UInt8.ofNat (opp c)]⟩ : ByteArray).size + (nb a).size ≤ 1000000
        rw [one_size]; omega
      · show ((⟨#[UInt8.ofNat (opp c)]⟩ : ByteArray) ++ nb a).size + (nb b).size ≤ 1000000
        rw [ByteArray.size_append, one_size]; omega)
    exact key
  | one c a iha =>
    intro hw hl ok v w h
    obtain ⟨va, ⟨g, bl, off, cap, rfl, _, _, h0, h1, h2, h3, h4⟩, ha⟩ := h
    have hop : IsOp c := by
      have hw : c = 60 ∨ c = 91 := hw.1
      unfold IsOp; omega
    have hla : (str a).length ≤ 999 := by simp only [str, List.length_cons] at hl; omega
    have sa := nb_size a hw.2
    exact not_rest c hop g (some ⟨bl, off, none⟩) cap (fun i => va) 1 (fun i => nb a) w h0 h2 (by simpa using h3) (fun i hi => ⟨bl, off, rfl, by
      obtain rfl : i = 0 := by omega
      exact h4 0 va rfl⟩) (fun i hi W hW => iha hw.2 (by omega) ok va W (Tree.same (SameBut.of_below hW) (fun _ _ h => h) _ _ ha)) (by omega) (fun i hi => by
      obtain rfl : i = 0 := by omega
      show (⟨#[UInt8.ofNat (opp c)]⟩ : ByteArray).size + (nb a).size ≤ 1000000
      rw [one_size]; omega)
  | fix c x a iha =>
    intro hw hl ok v w h
    obtain ⟨va, ⟨g, bl, off, cap, rfl, _, _, h0, h1, h2, h3, h4⟩, ha⟩ := h
    have hop : IsOp c := by
      have hw : c = 109 ∨ c = 103 := hw.1
      unfold IsOp; omega
    have hla : (str a).length ≤ 998 := by simp only [str, List.length_cons] at hl; omega
    have sa := nb_size a hw.2.2
    exact not_restx c hop x hw.2.1 g (some ⟨bl, off, none⟩) cap (fun i => va) 1 (fun i => nb a) w h0 h2 (by simpa using h3) (fun i hi => ⟨bl, off, rfl, by
      obtain rfl : i = 0 := by omega
      exact h4 0 va rfl⟩) (fun i hi W hW => iha hw.2.2 (by omega) ok va W (Tree.same (SameBut.of_below hW) (fun _ _ h => h) _ _ ha)) (by omega) (fun i hi => by
      obtain rfl : i = 0 := by omega
      show ((⟨#[UInt8.ofNat (opp c)]⟩ : ByteArray) ++ ⟨#[UInt8.ofNat x]⟩).size + (nb a).size ≤ 1000000
      rw [ByteArray.size_append, one_size, one_size]; omega)

/-! Not -/
def fixes_Not.f (a0 : ByteArray) : Option (ByteArray × Int) := match wholeS 40 a0 with
  | none => some (⟨#[]⟩, 3)
  | some f => if (nb f).size ≤ 40 then some (nb f, 0) else some (⟨#[]⟩, 3)
set_option maxRecDepth 100000 in
set_option maxHeartbeats 2000000 in
theorem fixes_Not.calls (a0 : ByteArray) (r1 : ByteArray) (r2 : Int) (w : World) (h : fixes_Not.f a0 = some (r1, r2)) :
    Calls Try.prog 31 #[.string a0] w fun e w' => e = .returned (.tuple #[.string r1, .int .i64 r2]) ∧ Below w.heap.size w w' := by
  have hp := parse_at 40 (by decide) a0 w
  rw [show ((40 : Nat) : Int) = 40 from rfl] at hp
  unfold fixes_Not.f at h
  cases ho : wholeS 40 a0 with
  | none =>
    rw [ho] at h hp
    simp only [Option.some.injEq, Prod.mk.injEq] at h
    obtain ⟨rfl, rfl⟩ := h
    have HP := Lib.hid hp
    clear hp ho
    go_enter Try.func31, Try.ntmps31
    go_wp2_with fail
    refine HP.out.mono ?_
    rintro e w1 ⟨hB, rfl⟩
    have HB := Lib.hid hB
    clear hB
    go_wp2
    go_ret2
    exact ⟨rfl, HB.out⟩
  | some f =>
    have hi : whole (cs a0) = some f ∧ a0.size ≤ 40 := by
      unfold wholeS at ho
      split at ho
      · rename_i h; exact ⟨ho, h⟩
      · cases ho
    obtain ⟨hs, hw⟩ := whole_str hi.1
    have hlen : (str f).length ≤ 40 := by rw [← hs, cs_length]; exact hi.2
    have hnc := not_calls f hw (by omega)
    have HN := Lib.hid hnc
    rw [ho] at h hp
    have HP := Lib.hid hp
    clear hp ho hnc hi hs hw hlen
    by_cases hz : (nb f).size ≤ 40
    · simp only [if_pos hz, Option.some.injEq, Prod.mk.injEq] at h
      obtain ⟨rfl, rfl⟩ := h
      have hz1 : decide (((nb f).size : Int) > 40) = false := decide_eq_false (by omega)
      have hz2 : decide (40 < (nb f).size) = false := decide_eq_false (by omega)
      go_enter Try.func31, Try.ntmps31
      go_wp2_with fail
      refine HP.out.mono ?_
      rintro e w1 ⟨hB, v, rfl, ht⟩
      obtain ⟨g, rfl⟩ := ht.ptr
      have hcall := HN.out _ _ w1 ht
      have HC := Lib.hid hcall
      have HB := Lib.hid hB
      clear hB ht hcall
      go_wp2_with fail
      refine HC.out.mono ?_
      rintro e w2 ⟨rfl, hB2⟩
      have HB2 := Lib.hid hB2
      clear hB2
      go_wp2
      go_ret2
      exact ⟨rfl, HB.out.trans (HB2.out.mono HB.out.size)⟩
    · simp only [if_neg hz, Option.some.injEq, Prod.mk.injEq] at h
      obtain ⟨rfl, rfl⟩ := h
      have hz1 : decide (((nb f).size : Int) > 40) = true := decide_eq_true (by omega)
      have hz2 : decide (40 < (nb f).size) = true := decide_eq_true (by omega)
      go_enter Try.func31, Try.ntmps31
      go_wp2_with fail
      refine HP.out.mono ?_
      rintro e w1 ⟨hB, v, rfl, ht⟩
      obtain ⟨g, rfl⟩ := ht.ptr
      have hcall := HN.out _ _ w1 ht
      have HC := Lib.hid hcall
      have HB := Lib.hid hB
      clear hB ht hcall
      go_wp2_with fail
      refine HC.out.mono ?_
      rintro e w2 ⟨rfl, hB2⟩
      have HB2 := Lib.hid hB2
      clear hB2
      go_wp2
      go_ret2
      exact ⟨rfl, HB.out.trans (HB2.out.mono HB.out.size)⟩
end Go.Proofs.Ytjffhhalmicodaa.X
