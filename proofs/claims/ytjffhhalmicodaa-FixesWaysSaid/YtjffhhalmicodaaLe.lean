import Derived.Test.YtjffhhalmicodaaLd
import Derived.Test.YtjffhhalmicodaaPBx3
import Derived.KernelRfl
set_option linter.unusedVariables false
set_option linter.unusedSimpArgs false
namespace Go.Proofs.Ytjffhhalmicodaa.L
open Go.RowKit Go.Proofs.YtjffhhalmicodaaW.PrintWords Go.Proofs.YtjffhhalmicodaaW.PrintLast Go.Proofs.YtjffhhalmicodaaW.PrintMore Go.Proofs.Ytjffhhalmicodaa.X
open Go.Proofs.Ytjffhhalmicodaa.PB (comfitref08_Is.f comfitref08_Valid.f comfitref08_Valid.l0 comfitref08_Valid.j0)
open Go.Proofs.Ytjffhhalmicodaa.PA (fixes_Works_valid.f comfitlaw08_Of.f comfitlaw08_list.f comfitlaw08_text.f)

/-! Is -/
theorem Is_some (a : ByteArray) (h : a.size ≤ 40) : ∃ k, comfitref08_Is.f k a = some (whole (cs a)).isSome := by
  have hd : (cs a).drop 0 = cs a := rfl
  have hm : MayOk 0 [] := ⟨inS_zero 3, fun c h1 h2 => by simp [tb_zero]⟩
  obtain ⟨k, e, d, h1, h2, h3, h4⟩ := read_all a (by omega) ((cs a).length + 1) 0 0 [] (cs a) hd (by omega) (by omega) hm
  refine ⟨k, ?_⟩
  rw [comfitref08_Is.f, if_neg (by omega)]
  rw [show ((0 : Nat) : Int) = 0 from rfl] at h1
  rw [h1]
  simp only [Option.bind_some, Option.some.injEq]
  unfold whole
  cases hp : parse ((cs a).length + 1) (cs a) [] with
  | none =>
    rw [hp] at h4
    obtain rfl : e = -1 := h4
    simp
  | some p =>
    rw [hp] at h4
    obtain ⟨q1, q2⟩ := (h4 : e = (a.size : Int) - p.2.length ∧ d = dep p.1)
    simp only [Option.bind_some]
    by_cases hn : p.2 = []
    · rw [if_pos hn]
      rw [hn] at q1
      simp at q1
      simp [q1]
    · rw [if_neg hn]
      have : p.2.length ≠ 0 := fun h => hn (List.eq_nil_of_length_eq_zero h)
      have : ¬ e = (a.size : Int) := by omega
      simp [this]
theorem Is_long (a : ByteArray) (h : ¬ a.size ≤ 40) (k : Nat) : comfitref08_Is.f k a = some false := by
  rw [comfitref08_Is.f, if_pos (by omega)]

def IsB (a : ByteArray) : Bool := (wholeS 40 a).isSome
theorem Is_eq (a : ByteArray) : ∃ k, comfitref08_Is.f k a = some (IsB a) := by
  unfold IsB wholeS
  by_cases h : a.size ≤ 40
  · rw [if_pos h]; exact Is_some a h
  · rw [if_neg h]; exact ⟨0, Is_long a h 0⟩

/-! the beginning of a string -/
def txt (a : ByteArray) : ByteArray := if a.size ≤ 50 then a else a.extract 0 50
theorem text_eq (a : ByteArray) : comfitlaw08_text.f a = some (txt a) := by
  unfold comfitlaw08_text.f txt
  by_cases h : a.size ≤ 50
  · have e : mn (a.size : Int) 50 = a.size := by unfold mn; split <;> omega
    rw [e, if_pos (by omega), if_pos (by omega), if_pos h]
    simp
  · have e : mn (a.size : Int) 50 = 50 := by unfold mn; split <;> omega
    rw [e, if_pos (by omega), if_pos (by omega), if_neg h]
    rfl
theorem txt_whole (a : ByteArray) : wholeS 40 (txt a) = wholeS 40 a := by
  unfold txt wholeS
  by_cases h : a.size ≤ 50
  · rw [if_pos h]
  · rw [if_neg h, if_neg (by rw [ByteArray.size_extract]; omega), if_neg (by omega)]
theorem txt_of {a : ByteArray} (h : IsB a = true) : txt a = a := by
  unfold IsB wholeS at h
  unfold txt
  by_cases h2 : a.size ≤ 40
  · rw [if_pos (by omega)]
  · rw [if_neg h2] at h
    cases h

/-! the beginning of a Works -/
theorem list_eq (l : List Int) : comfitlaw08_list.f l = some (l.take 9) := by
  unfold comfitlaw08_list.f slices_Clone.f
  by_cases h : l.length ≤ 9
  · have e : mn (l.length : Int) 9 = l.length := by unfold mn; split <;> omega
    rw [e, if_pos (by omega), if_pos (by omega), if_pos (by simp; omega)]
    simp only [Option.bind_some, Option.some.injEq]
    rw [show ((l.length : Int)).toNat = l.length by omega, List.take_of_length_le (by omega), List.take_of_length_le h]
  · have e : mn (l.length : Int) 9 = 9 := by unfold mn; split <;> omega
    rw [e, if_pos (by omega), if_pos (by omega), if_pos (by simp; omega)]
    rfl
theorem Of_eq (nx mk : List Int) : comfitlaw08_Of.f nx mk = some (nx.take 9, mk.take 9) := by
  unfold comfitlaw08_Of.f
  rw [list_eq, list_eq]
  rfl
theorem take_of {nx mk : List Int} (h : VW nx mk) : nx.take 9 = nx ∧ mk.take 9 = mk := by
  have := h.le
  have := h.len
  exact ⟨List.take_of_length_le (by omega), List.take_of_length_le (by omega)⟩
theorem VW_take {nx mk : List Int} : VW (nx.take 9) (mk.take 9) ↔ VW nx mk := by
  constructor
  · intro h
    have h1 := h.le
    have h2 := h.len
    rw [List.length_take] at h1
    rw [List.length_take, List.length_take] at h2
    have e1 : nx.take 9 = nx := List.take_of_length_le (by omega)
    have e2 : mk.take 9 = mk := List.take_of_length_le (by omega)
    rw [e1, e2] at h
    exact h
  · intro h
    rw [(take_of h).1, (take_of h).2]
    exact h

theorem minTo_ge {l : List Int} {b : Int} : ∀ n : Nat, b ≤ minTo l n ↔ ∀ i : Nat, i ≤ n → b ≤ rd l i := by
  intro n
  induction n with
  | zero =>
    exact ⟨fun h i hi => by obtain rfl : i = 0 := by omega
                            exact h, fun h => h 0 (Nat.le_refl _)⟩
  | succ n ih =>
    have e : b ≤ minTo l (n + 1) ↔ b ≤ minTo l n ∧ b ≤ rd l ((n : Int) + 1) := by
      show b ≤ mn _ _ ↔ _
      unfold mn; split <;> omega
    rw [e, ih]
    constructor
    · rintro ⟨h1, h2⟩ i hi
      rcases Nat.lt_or_ge i (n + 1) with h | h
      · exact h1 i (by omega)
      · obtain rfl : i = n + 1 := by omega
        exact h2
    · exact fun h => ⟨fun i hi => h i (by omega), h (n + 1) (Nat.le_refl _)⟩
theorem maxTo_lt {l : List Int} {b : Int} : ∀ n : Nat, maxTo l n < b ↔ ∀ i : Nat, i ≤ n → rd l i < b := by
  intro n
  induction n with
  | zero =>
    exact ⟨fun h i hi => by obtain rfl : i = 0 := by omega
                            exact h, fun h => h 0 (Nat.le_refl _)⟩
  | succ n ih =>
    have e : maxTo l (n + 1) < b ↔ maxTo l n < b ∧ rd l ((n : Int) + 1) < b := by
      show mx _ _ < b ↔ _
      unfold mx; split <;> omega
    rw [e, ih]
    constructor
    · rintro ⟨h1, h2⟩ i hi
      rcases Nat.lt_or_ge i (n + 1) with h | h
      · exact h1 i (by omega)
      · obtain rfl : i = n + 1 := by omega
        exact h2
    · exact fun h => ⟨fun i hi => h i (by omega), h (n + 1) (Nat.le_refl _)⟩

theorem shl_len {l : List Int} (h : l.length ≤ 6) : shl .i64 1 (l.length : Int) = 2 ^ l.length := by
  rw [shl1 (by omega)]
  simp

theorem valid_true {nx mk : List Int} (h : VW nx mk) : fixes_Works_valid.f nx mk = some true := by
  have h1 := h.pos
  have h2 := h.le
  have h3 := h.len
  unfold fixes_Works_valid.f slices_Min.f slices_Max.f
  rw [if_pos (by omega), if_pos (by omega), if_pos (by omega), if_pos (by omega)]
  simp only [Option.bind_some]
  rw [if_pos ((minTo_ge _).2 fun i hi => (h.next i (by omega)).1)]
  rw [if_pos (by omega)]
  simp only [Option.bind_some]
  rw [if_pos (by rw [shl_len h2]; exact (maxTo_lt _).2 fun i hi => (h.next i (by omega)).2)]
  rw [if_pos (by omega)]
  simp only [Option.bind_some]
  rw [if_pos ((minTo_ge _).2 fun i hi => (h.marks i (by omega)).1)]
  rw [if_pos (by omega)]
  simp only [Option.bind_some]
  congr 1
  refine decide_eq_true ((maxTo_lt _).2 fun i hi => ?_)
  have := (h.marks i (by omega)).2
  omega
theorem valid_false {nx mk : List Int} (h : ¬ VW nx mk) : fixes_Works_valid.f nx mk = some false := by
  unfold fixes_Works_valid.f slices_Min.f slices_Max.f
  by_cases h1 : (nx.length : Int) ≥ 1
  · rw [if_pos h1]
    by_cases h2 : (nx.length : Int) ≤ 6
    · rw [if_pos h2]
      by_cases h3 : (mk.length : Int) = (nx.length : Int)
      · rw [if_pos h3, if_pos (by omega)]
        simp only [Option.bind_some]
        by_cases h4 : minTo nx (nx.length - 1) ≥ 0
        · rw [if_pos h4, if_pos (by omega)]
          simp only [Option.bind_some]
          by_cases h5 : maxTo nx (nx.length - 1) < shl .i64 1 (nx.length : Int)
          · rw [if_pos h5, if_pos (by omega)]
            simp only [Option.bind_some]
            by_cases h6 : minTo mk (mk.length - 1) ≥ 0
            · rw [if_pos h6, if_pos (by omega)]
              simp only [Option.bind_some]
              congr 1
              refine decide_eq_false fun h7 => h ?_
              rw [shl_len (by omega)] at h5
              exact ⟨by omega, by omega, by omega, fun i hi => ⟨(minTo_ge _).1 h4 i (by omega), (maxTo_lt _).1 h5 i (by omega)⟩, fun i hi => ⟨(minTo_ge _).1 h6 i (by omega), by have := (maxTo_lt _).1 h7 i (by omega); omega⟩⟩
            · rw [if_neg h6]
          · rw [if_neg h5]
        · rw [if_neg h4]
      · rw [if_neg h3]
    · rw [if_neg h2]
  · rw [if_neg h1]

theorem Valid_loop {nx mk : List Int} (h1 : nx.length ≤ 6) (h2 : mk.length = nx.length) : ∀ d i : Nat, i + d = nx.length → ∃ k r, comfitref08_Valid.l0 k (nx.length : Int) nx (nx.length : Int) (i : Int) nx mk = some r ∧ (r = true ↔ ∀ j : Nat, i ≤ j → j < nx.length → InS nx.length (rd nx j) ∧ 0 ≤ rd mk j ∧ rd mk j ≤ 15) := by
  intro d
  induction d with
  | zero =>
    intro i hi
    refine ⟨1, true, ?_, ?_⟩
    · rw [comfitref08_Valid.l0, if_neg (by omega)]
    · simp only [true_iff]
      intro j hj hj2
      omega
  | succ d ih =>
    intro i hi
    obtain ⟨k, r, hk, hr⟩ := ih (i + 1) (by omega)
    have step : ∀ k, comfitref08_Valid.l0 (k + 1) (nx.length : Int) nx (nx.length : Int) (i : Int) nx mk = if rd nx i < 0 then some false else if rd nx i ≥ 2 ^ nx.length then some false else if rd mk i < 0 then some false else if rd mk i > 15 then some false else comfitref08_Valid.l0 k (nx.length : Int) nx (nx.length : Int) ((i + 1 : Nat) : Int) nx mk := by
      intro k
      rw [comfitref08_Valid.l0, if_pos (by omega), if_pos (by omega), if_pos (by omega), if_pos (show (0 : Int) ≤ (nx.length : Int) by omega), if_pos (show (i : Int) < (mk.length : Int) by omega), shl_len h1]
      rw [show wrap64 ((i : Int) + 1) = ((i + 1 : Nat) : Int) by unfold wrap64; omega]
    by_cases g1 : rd nx i < 0
    · refine ⟨1, false, by rw [step, if_pos g1], ?_⟩
      simp only [Bool.false_eq_true, false_iff]
      intro h
      have := (h i (Nat.le_refl _) (by omega)).1.1
      omega
    · by_cases g2 : rd nx i ≥ 2 ^ nx.length
      · refine ⟨1, false, by rw [step, if_neg g1, if_pos g2], ?_⟩
        simp only [Bool.false_eq_true, false_iff]
        intro h
        have := (h i (Nat.le_refl _) (by omega)).1.2
        omega
      · by_cases g3 : rd mk i < 0
        · refine ⟨1, false, by rw [step, if_neg g1, if_neg g2, if_pos g3], ?_⟩
          simp only [Bool.false_eq_true, false_iff]
          intro h
          have := (h i (Nat.le_refl _) (by omega)).2.1
          omega
        · by_cases g4 : rd mk i > 15
          · refine ⟨1, false, by rw [step, if_neg g1, if_neg g2, if_neg g3, if_pos g4], ?_⟩
            simp only [Bool.false_eq_true, false_iff]
            intro h
            have := (h i (Nat.le_refl _) (by omega)).2.2
            omega
          · refine ⟨k + 1, r, by rw [step, if_neg g1, if_neg g2, if_neg g3, if_neg g4, hk], ?_⟩
            rw [hr]
            constructor
            · intro h j hj hj2
              rcases Nat.lt_or_ge i j with e | e
              · exact h j e hj2
              · obtain rfl : j = i := by omega
                exact ⟨⟨by omega, by omega⟩, by omega, by omega⟩
            · intro h j hj hj2
              exact h j (by omega) hj2

open Classical in
theorem Valid_eq (nx mk : List Int) : ∃ k, comfitref08_Valid.f k nx mk = some (decide (VW nx mk)) := by
  have bad : ¬ VW nx mk → some false = some (decide (VW nx mk)) := fun h => by rw [decide_eq_false h]
  unfold comfitref08_Valid.f
  by_cases h1 : (nx.length : Int) < 1
  · refine ⟨1, ?_⟩
    rw [if_pos h1, comfitref08_Valid.j0, if_pos rfl]
    exact bad fun h => by have := h.pos; omega
  · by_cases h2 : (nx.length : Int) > 6
    · refine ⟨1, ?_⟩
      rw [if_neg h1, if_pos h2, comfitref08_Valid.j0, if_pos rfl]
      exact bad fun h => by have := h.le; omega
    · by_cases h3 : (mk.length : Int) = (nx.length : Int)
      · obtain ⟨k, r, hk, hr⟩ := Valid_loop (nx := nx) (mk := mk) (by omega) (by omega) nx.length 0 (by omega)
        refine ⟨k + 1, ?_⟩
        rw [if_neg h1, if_neg h2, comfitref08_Valid.j0]
        rw [if_neg (by simp [h3])]
        rw [show ((0 : Nat) : Int) = 0 from rfl] at hk
        rw [hk]
        congr 1
        have : r = true ↔ VW nx mk := by
          rw [hr]
          exact ⟨fun h => ⟨by omega, by omega, by omega, fun i hi => (h i (by omega) hi).1, fun i hi => (h i (by omega) hi).2⟩, fun h j _ hj => ⟨h.next j hj, h.marks j hj⟩⟩
        cases r
        · rw [eq_comm, decide_eq_false_iff_not]
          intro h
          have := this.2 h
          cases this
        · rw [eq_comm, decide_eq_true_iff]
          exact this.1 rfl
      · refine ⟨1, ?_⟩
        rw [if_neg h1, if_neg h2, comfitref08_Valid.j0]
        rw [if_pos (by simp; omega)]
        exact bad fun h => by have := h.len; omega

theorem awake_at : PB.comfitlaw08_awake.f 3 = some true := by kernel_rfl

/-! what the calls come to -/
theorem Holds_bad {nx mk : List Int} (h : ¬ VW nx mk) (a : ByteArray) (k : Nat) : fixes_Holds.f k (nx.take 9) (mk.take 9) (txt a) = some (0, 2) := by
  unfold fixes_Holds.f
  rw [valid_false (fun g => h (VW_take.1 g))]
  rfl
theorem Holds_none {nx mk : List Int} (h : VW nx mk) {a : ByteArray} (ha : IsB a = false) (k : Nat) : fixes_Holds.f k (nx.take 9) (mk.take 9) (txt a) = some (0, 3) := by
  unfold fixes_Holds.f
  rw [valid_true (VW_take.2 h), txt_whole]
  unfold IsB at ha
  cases hw : wholeS 40 a with
  | none => rfl
  | some f => rw [hw] at ha; cases ha
theorem wholeS_some {a : ByteArray} (ha : IsB a = true) : ∃ f, wholeS 40 a = some f ∧ whole (cs a) = some f ∧ a.size ≤ 40 := by
  unfold IsB at ha
  cases hw : wholeS 40 a with
  | none => rw [hw] at ha; cases ha
  | some f =>
    refine ⟨f, rfl, ?_⟩
    unfold wholeS at hw
    split at hw
    · rename_i h
      exact ⟨hw, h⟩
    · cases hw
theorem Holds_some {nx mk : List Int} (h : VW nx mk) {a : ByteArray} {f : Fm} (ha : wholeS 40 a = some f) : ∃ k, fixes_Holds.f k (nx.take 9) (mk.take 9) (txt a) = some (V nx mk f (0, 0, 0), 0) ∧ ref_Holds.f k nx mk a = some (V nx mk f (0, 0, 0)) := by
  have hi : IsB a = true := by unfold IsB; rw [ha]; rfl
  obtain ⟨f2, h1, h2, h3⟩ := wholeS_some hi
  rw [ha] at h1
  injection h1 with h1
  subst h1
  obtain ⟨k, m, e1, e2⟩ := both_holds h h2
  refine ⟨k, ?_, ?_⟩
  · unfold fixes_Holds.f
    rw [(take_of h).1, (take_of h).2, valid_true h, txt_of hi, ha]
    simp only [Option.bind_some, if_true]
    rw [e2]
    rfl
  · unfold ref_Holds.f
    rw [if_pos (by omega), h2]
    exact e1
end Go.Proofs.Ytjffhhalmicodaa.L
