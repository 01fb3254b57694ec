import Derived.Test.YtjffhhalmicodaaLr
import Derived.Test.YtjffhhalmicodaaPCx1
set_option linter.unusedVariables false
set_option linter.unusedSimpArgs false
namespace Go.Proofs.Ytjffhhalmicodaa.L
open Go.RowKit Go.Proofs.YtjffhhalmicodaaW.PrintWords Go.Proofs.YtjffhhalmicodaaW.PrintLast Go.Proofs.YtjffhhalmicodaaW.PrintMore Go.Proofs.Ytjffhhalmicodaa.X
open Go.Proofs.Ytjffhhalmicodaa.PC (comfitref08_Not.f comfitref08_Not.l0 comfitref08_Not.j1 comfitref08_Not.l1 comfitlaw08_FixesNots.f)
open Go.Proofs.Ytjffhhalmicodaa.PA (comfitref08_digit.f comfitref08_letter.f)

def FROM : ByteArray := ⟨#[116, 102, 38, 124, 60, 91, 109, 103]⟩
def TO : ByteArray := ⟨#[102, 116, 124, 38, 91, 60, 103, 109]⟩
/-- what the loop over the pairs leaves -/
def inn (c : Int) (o : ByteArray) : Nat → ByteArray
  | 0 => o
  | j + 1 => if c = bt FROM (j : Int) then inn c o j ++ TO.extract j (j + 1) else inn c o j
theorem inn_size (c : Int) (o : ByteArray) : ∀ j, (inn c o j).size ≤ o.size + j
  | 0 => Nat.le_refl _
  | j + 1 => by
    have := inn_size c o j
    rw [inn]
    split
    · rw [ByteArray.size_append, ByteArray.size_extract]; omega
    · omega
theorem inner (a : ByteArray) (i c : Int) (o : ByteArray) (ho : o.size ≤ 1000000) (k : Nat) : ∀ d j, j + d = 8 → comfitref08_Not.l1 (k + d + 1) a (inn c o j) i c (j : Int) = comfitref08_Not.l1 (k + 1) a (inn c o 8) i c 8 := by
  intro d
  induction d with
  | zero => intro j hj; obtain rfl : j = 8 := by omega
            rfl
  | succ d ih =>
    intro j hj
    have hs := inn_size c o j
    have hw : wrap64 ((j : Int) + 1) = ((j + 1 : Nat) : Int) := by unfold wrap64; omega
    rw [comfitref08_Not.l1, if_pos (by omega), if_pos (by omega), hw, ← ih (j + 1) (by omega), inn]
    by_cases hc : c = bt FROM (j : Int)
    · rw [if_pos (show c = bt ⟨#[116, 102, 38, 124, 60, 91, 109, 103]⟩ (j : Int) from hc), if_pos hc, if_pos (by omega), if_pos (by omega), if_pos]
      · rfl
      · rw [ByteArray.size_extract]
        have : (⟨#[102, 116, 124, 38, 91, 60, 103, 109]⟩ : ByteArray).size = 8 := rfl
        omega
    · rw [if_neg (show ¬ c = bt ⟨#[116, 102, 38, 124, 60, 91, 109, 103]⟩ (j : Int) from hc), if_neg hc]
      rfl

theorem inn_n {c : Int} {o : ByteArray} {j : Nat} (h : ¬ c = bt FROM (j : Int)) : inn c o (j + 1) = inn c o j := if_neg h
theorem inn_p {c : Int} {o : ByteArray} {j : Nat} (h : c = bt FROM (j : Int)) : inn c o (j + 1) = inn c o j ++ TO.extract j (j + 1) := if_pos h
theorem from_0 : bt FROM ((0 : Nat) : Int) = 116 := rfl
theorem from_1 : bt FROM ((1 : Nat) : Int) = 102 := rfl
theorem from_2 : bt FROM ((2 : Nat) : Int) = 38 := rfl
theorem from_3 : bt FROM ((3 : Nat) : Int) = 124 := rfl
theorem from_4 : bt FROM ((4 : Nat) : Int) = 60 := rfl
theorem from_5 : bt FROM ((5 : Nat) : Int) = 91 := rfl
theorem from_6 : bt FROM ((6 : Nat) : Int) = 109 := rfl
theorem from_7 : bt FROM ((7 : Nat) : Int) = 103 := rfl
theorem inn_no {c : Nat} (h : ¬ IsOp c) (o : ByteArray) : inn (c : Int) o 8 = o := by
  unfold IsOp at h
  rw [inn_n (j := 7) (by rw [from_7]; omega)]
  rw [inn_n (j := 6) (by rw [from_6]; omega)]
  rw [inn_n (j := 5) (by rw [from_5]; omega)]
  rw [inn_n (j := 4) (by rw [from_4]; omega)]
  rw [inn_n (j := 3) (by rw [from_3]; omega)]
  rw [inn_n (j := 2) (by rw [from_2]; omega)]
  rw [inn_n (j := 1) (by rw [from_1]; omega)]
  rw [inn_n (j := 0) (by rw [from_0]; omega)]
  rfl
theorem inn_op_116 (o : ByteArray) : inn ((116 : Nat) : Int) o 8 = o ++ TO.extract 0 1 := by
  rw [inn_n (j := 7) (by rw [from_7]; omega)]
  rw [inn_n (j := 6) (by rw [from_6]; omega)]
  rw [inn_n (j := 5) (by rw [from_5]; omega)]
  rw [inn_n (j := 4) (by rw [from_4]; omega)]
  rw [inn_n (j := 3) (by rw [from_3]; omega)]
  rw [inn_n (j := 2) (by rw [from_2]; omega)]
  rw [inn_n (j := 1) (by rw [from_1]; omega)]
  rw [inn_p (j := 0) (by rw [from_0]; omega)]
  rfl
theorem inn_op_102 (o : ByteArray) : inn ((102 : Nat) : Int) o 8 = o ++ TO.extract 1 2 := by
  rw [inn_n (j := 7) (by rw [from_7]; omega)]
  rw [inn_n (j := 6) (by rw [from_6]; omega)]
  rw [inn_n (j := 5) (by rw [from_5]; omega)]
  rw [inn_n (j := 4) (by rw [from_4]; omega)]
  rw [inn_n (j := 3) (by rw [from_3]; omega)]
  rw [inn_n (j := 2) (by rw [from_2]; omega)]
  rw [inn_p (j := 1) (by rw [from_1]; omega)]
  rw [inn_n (j := 0) (by rw [from_0]; omega)]
  rfl
theorem inn_op_38 (o : ByteArray) : inn ((38 : Nat) : Int) o 8 = o ++ TO.extract 2 3 := by
  rw [inn_n (j := 7) (by rw [from_7]; omega)]
  rw [inn_n (j := 6) (by rw [from_6]; omega)]
  rw [inn_n (j := 5) (by rw [from_5]; omega)]
  rw [inn_n (j := 4) (by rw [from_4]; omega)]
  rw [inn_n (j := 3) (by rw [from_3]; omega)]
  rw [inn_p (j := 2) (by rw [from_2]; omega)]
  rw [inn_n (j := 1) (by rw [from_1]; omega)]
  rw [inn_n (j := 0) (by rw [from_0]; omega)]
  rfl
theorem inn_op_124 (o : ByteArray) : inn ((124 : Nat) : Int) o 8 = o ++ TO.extract 3 4 := by
  rw [inn_n (j := 7) (by rw [from_7]; omega)]
  rw [inn_n (j := 6) (by rw [from_6]; omega)]
  rw [inn_n (j := 5) (by rw [from_5]; omega)]
  rw [inn_n (j := 4) (by rw [from_4]; omega)]
  rw [inn_p (j := 3) (by rw [from_3]; omega)]
  rw [inn_n (j := 2) (by rw [from_2]; omega)]
  rw [inn_n (j := 1) (by rw [from_1]; omega)]
  rw [inn_n (j := 0) (by rw [from_0]; omega)]
  rfl
theorem inn_op_60 (o : ByteArray) : inn ((60 : Nat) : Int) o 8 = o ++ TO.extract 4 5 := by
  rw [inn_n (j := 7) (by rw [from_7]; omega)]
  rw [inn_n (j := 6) (by rw [from_6]; omega)]
  rw [inn_n (j := 5) (by rw [from_5]; omega)]
  rw [inn_p (j := 4) (by rw [from_4]; omega)]
  rw [inn_n (j := 3) (by rw [from_3]; omega)]
  rw [inn_n (j := 2) (by rw [from_2]; omega)]
  rw [inn_n (j := 1) (by rw [from_1]; omega)]
  rw [inn_n (j := 0) (by rw [from_0]; omega)]
  rfl
theorem inn_op_91 (o : ByteArray) : inn ((91 : Nat) : Int) o 8 = o ++ TO.extract 5 6 := by
  rw [inn_n (j := 7) (by rw [from_7]; omega)]
  rw [inn_n (j := 6) (by rw [from_6]; omega)]
  rw [inn_p (j := 5) (by rw [from_5]; omega)]
  rw [inn_n (j := 4) (by rw [from_4]; omega)]
  rw [inn_n (j := 3) (by rw [from_3]; omega)]
  rw [inn_n (j := 2) (by rw [from_2]; omega)]
  rw [inn_n (j := 1) (by rw [from_1]; omega)]
  rw [inn_n (j := 0) (by rw [from_0]; omega)]
  rfl
theorem inn_op_109 (o : ByteArray) : inn ((109 : Nat) : Int) o 8 = o ++ TO.extract 6 7 := by
  rw [inn_n (j := 7) (by rw [from_7]; omega)]
  rw [inn_p (j := 6) (by rw [from_6]; omega)]
  rw [inn_n (j := 5) (by rw [from_5]; omega)]
  rw [inn_n (j := 4) (by rw [from_4]; omega)]
  rw [inn_n (j := 3) (by rw [from_3]; omega)]
  rw [inn_n (j := 2) (by rw [from_2]; omega)]
  rw [inn_n (j := 1) (by rw [from_1]; omega)]
  rw [inn_n (j := 0) (by rw [from_0]; omega)]
  rfl
theorem inn_op_103 (o : ByteArray) : inn ((103 : Nat) : Int) o 8 = o ++ TO.extract 7 8 := by
  rw [inn_p (j := 7) (by rw [from_7]; omega)]
  rw [inn_n (j := 6) (by rw [from_6]; omega)]
  rw [inn_n (j := 5) (by rw [from_5]; omega)]
  rw [inn_n (j := 4) (by rw [from_4]; omega)]
  rw [inn_n (j := 3) (by rw [from_3]; omega)]
  rw [inn_n (j := 2) (by rw [from_2]; omega)]
  rw [inn_n (j := 1) (by rw [from_1]; omega)]
  rw [inn_n (j := 0) (by rw [from_0]; omega)]
  rfl
theorem inn_op {c : Nat} (h : IsOp c) (o : ByteArray) : cs (inn (c : Int) o 8) = cs o ++ [opp c] := by
  rcases h with rfl | rfl | rfl | rfl | rfl | rfl | rfl | rfl
  · rw [inn_op_116, cs_app]; rfl
  · rw [inn_op_102, cs_app]; rfl
  · rw [inn_op_38, cs_app]; rfl
  · rw [inn_op_124, cs_app]; rfl
  · rw [inn_op_60, cs_app]; rfl
  · rw [inn_op_91, cs_app]; rfl
  · rw [inn_op_109, cs_app]; rfl
  · rw [inn_op_103, cs_app]; rfl

theorem cs_cut {a : ByteArray} {i c : Nat} {l : List Nat} (h : (cs a).drop i = c :: l) : cs (a.extract i (i + 1)) = [c] := by
  have e : cs (a.extract i (i + 1)) = ((cs a).drop i).take 1 := by
    unfold cs
    simp
  rw [e, h]
  rfl

/-- where the loop comes to from a place on -/
def Goes (a : ByteArray) (i : Nat) (o : ByteArray) (i2 : Nat) (l : List Nat) : Prop := ∃ d o2, cs o2 = cs o ++ l ∧ ∀ k, comfitref08_Not.l0 (k + d) a o (i : Int) = comfitref08_Not.l0 k a o2 (i2 : Int)
theorem Goes.trans {a o : ByteArray} {i i2 i3 : Nat} {l l2 : List Nat} (h : Goes a i o i2 l) (g : ∀ o2, cs o2 = cs o ++ l → Goes a i2 o2 i3 l2) : Goes a i o i3 (l ++ l2) := by
  obtain ⟨d, o2, e, hk⟩ := h
  obtain ⟨d2, o3, e2, hk2⟩ := g o2 e
  exact ⟨d2 + d, o3, by rw [e2, e, List.append_assoc], fun k => by rw [← Nat.add_assoc, hk, hk2]⟩

theorem goes_op {a o : ByteArray} {i c : Nat} {l : List Nat} (hsz : a.size ≤ 1000) (ho : o.size ≤ 5000) (h : (cs a).drop i = c :: l) (hc : IsOp c) : Goes a i o (i + 1) [opp c] := by
  obtain ⟨h1, h2, h3, h4, h5⟩ := drop_bt h
  have hw : wrap64 ((i : Int) + 1) = ((i + 1 : Nat) : Int) := w1 (s := a) (by omega) (by omega)
  have hm : isMk c = false := by
    cases e : isMk c
    · rfl
    · have := isMk_iff.1 e
      unfold IsOp at hc; omega
  have hl : isLt c = false := by
    cases e : isLt c
    · rfl
    · have := isLt_iff.1 e
      unfold IsOp at hc; omega
  refine ⟨8 + 3, inn (c : Int) o 8, inn_op hc o, fun k => ?_⟩
  have hin := inner a (i : Int) (c : Int) o (by omega) k 8 0 (by omega)
  rw [show k + (8 + 3) = (k + 8 + 2) + 1 by omega, comfitref08_Not.l0, if_pos (by omega), if_pos (by omega), h2, if_neg (by unfold IsOp at hc; omega), digit_out hm]
  rw [Option.bind_some]
  rw [if_neg (by decide), comfitref08_Not.j1]
  refine hin.trans ?_
  rw [comfitref08_Not.l1, if_neg (by decide), digit_out hm]
  rw [Option.bind_some]
  rw [if_neg (by decide), letter_out hl]
  rw [Option.bind_some]
  rw [if_neg (by decide), hw]
theorem goes_let {a o : ByteArray} {i c : Nat} {l : List Nat} (hsz : a.size ≤ 1000) (ho : o.size ≤ 5000) (h : (cs a).drop i = c :: l) (hc : isLt c = true) : Goes a i o (i + 1) [c] := by
  obtain ⟨h1, h2, h3, h4, h5⟩ := drop_bt h
  have hw : wrap64 ((i : Int) + 1) = ((i + 1 : Nat) : Int) := w1 (s := a) (by omega) (by omega)
  have hlc := isLt_iff.1 hc
  have hm : isMk c = false := by
    cases e : isMk c
    · rfl
    · have := isMk_iff.1 e
      omega
  refine ⟨8 + 3, o ++ a.extract i (i + 1), by rw [cs_app, cs_cut h], fun k => ?_⟩
  have e8 := inn_no (c := c) (by unfold IsOp; omega) o
  have hin := inner a (i : Int) (c : Int) o (by omega) k 8 0 (by omega)
  rw [e8] at hin
  rw [show k + (8 + 3) = (k + 8 + 2) + 1 by omega, comfitref08_Not.l0, if_pos (by omega), if_pos (by omega), h2, if_neg (by omega), digit_out hm]
  rw [Option.bind_some]
  rw [if_neg (by decide), comfitref08_Not.j1]
  refine hin.trans ?_
  rw [comfitref08_Not.l1, if_neg (by decide), digit_out hm]
  rw [Option.bind_some]
  rw [if_neg (by decide), letter_in hc]
  rw [Option.bind_some]
  rw [if_pos (by omega), hw, if_pos (by omega), if_pos (by omega), if_pos (by omega), if_pos (by rw [ByteArray.size_extract]; omega), Int.toNat_natCast, Int.toNat_natCast]
theorem goes_dig {a o : ByteArray} {i c : Nat} {l : List Nat} (hsz : a.size ≤ 1000) (ho : o.size ≤ 5000) (h : (cs a).drop i = c :: l) (hc : isMk c = true) : Goes a i o (i + 1) [45, c] := by
  obtain ⟨h1, h2, h3, h4, h5⟩ := drop_bt h
  have hw : wrap64 ((i : Int) + 1) = ((i + 1 : Nat) : Int) := w1 (s := a) (by omega) (by omega)
  have hlc := isMk_iff.1 hc
  have e45 : cs (o ++ (⟨#[45]⟩ : ByteArray)) = cs o ++ [45] := by rw [cs_app]; rfl
  have s45 : (o ++ (⟨#[45]⟩ : ByteArray)).size = o.size + 1 := by rw [ByteArray.size_append]; rfl
  refine ⟨8 + 3, (o ++ (⟨#[45]⟩ : ByteArray)) ++ a.extract i (i + 1), by rw [cs_app, cs_cut h, e45, List.append_assoc]; rfl, fun k => ?_⟩
  have e8 := inn_no (c := c) (by unfold IsOp; omega) (o ++ (⟨#[45]⟩ : ByteArray))
  have hin := inner a (i : Int) (c : Int) (o ++ (⟨#[45]⟩ : ByteArray)) (by omega) k 8 0 (by omega)
  rw [e8] at hin
  rw [show k + (8 + 3) = (k + 8 + 2) + 1 by omega, comfitref08_Not.l0, if_pos (by omega), if_pos (by omega), h2, if_neg (by omega), digit_in hc]
  rw [Option.bind_some]
  rw [if_pos (by omega), if_pos (by omega), comfitref08_Not.j1]
  refine hin.trans ?_
  rw [comfitref08_Not.l1, if_neg (by decide), digit_in hc]
  rw [Option.bind_some]
  rw [if_pos (by omega), hw, if_pos (by omega), if_pos (by omega), if_pos (by omega), if_pos (by rw [ByteArray.size_extract]; omega), Int.toNat_natCast, Int.toNat_natCast]
theorem goes_dash {a o : ByteArray} {i c : Nat} {l : List Nat} (hsz : a.size ≤ 1000) (ho : o.size ≤ 5000) (h : (cs a).drop i = 45 :: c :: l) : Goes a i o (i + 2) [c] := by
  obtain ⟨h1, h2, h3, h4, h5⟩ := drop_bt h
  have H2 := Lib.hid h2
  clear h2
  obtain ⟨g1, g2, g3, g4, g5⟩ := drop_bt h3
  clear g2
  have hw : wrap64 ((i : Int) + 1) = ((i + 1 : Nat) : Int) := w1 (s := a) (by omega) (by omega)
  have hw2 : wrap64 (((i + 1 : Nat) : Int) + 1) = ((i + 2 : Nat) : Int) := w1 (s := a) (i := i + 1) (by omega) (by omega)
  refine ⟨1, o ++ a.extract (i + 1) (i + 1 + 1), by rw [cs_app, cs_cut h3], fun k => ?_⟩
  rw [comfitref08_Not.l0, if_pos (by omega), if_pos (by omega), H2.out, if_pos (by omega), hw, hw2, if_pos (by omega), if_pos (by omega), if_pos (by omega), if_pos (by rw [ByteArray.size_extract]; omega), Int.toNat_natCast, Int.toNat_natCast]

theorem cs_size {o o2 : ByteArray} {l : List Nat} (h : cs o2 = cs o ++ l) : o2.size = o.size + l.length := by
  rw [← cs_length, h, List.length_append, cs_length]

/-- the reference's loop over a formula -/
theorem goes_str (a : ByteArray) (hsz : a.size ≤ 1000) : ∀ f, WF f → ∀ (i : Nat) (o : ByteArray) (l : List Nat), (cs a).drop i = str f ++ l → o.size ≤ 2 * i → i ≤ a.size → Goes a i o (i + (str f).length) (str (dual f)) ∧ (str (dual f)).length ≤ 2 * (str f).length := by
  intro f
  induction f with
  | mark neg j =>
    intro hw i o l h ho hi
    have hj : j ≤ 3 := hw
    have hm : isMk (48 + j) = true := isMk_iff.2 (by omega)
    cases neg with
    | true => exact ⟨goes_dash hsz (by omega) (c := 48 + j) (l := l) h, by simp [dual, str]⟩
    | false => exact ⟨goes_dig hsz (by omega) (c := 48 + j) (l := l) h hm, by simp [dual, str]⟩
  | con c =>
    intro hw i o l h ho hi
    have hc : c = 116 ∨ c = 102 := hw
    exact ⟨goes_op hsz (by omega) (c := c) (l := l) h (by unfold IsOp; omega), by simp [dual, str]⟩
  | var c =>
    intro hw i o l h ho hi
    exact ⟨goes_let hsz (by omega) (c := c) (l := l) h (isLt_iff.2 hw), by simp [dual, str]⟩
  | two c p q ihp ihq =>
    intro hw i o l h ho hi
    have hc : c = 38 ∨ c = 124 := hw.1
    have h0 : (cs a).drop i = c :: (str p ++ (str q ++ l)) := by rw [h]; simp [str]
    obtain ⟨b1, b2, b3, b4, b5⟩ := drop_bt h0
    clear b2
    have hlen := congrArg List.length b3
    rw [List.length_drop, cs_length, List.length_append, List.length_append] at hlen
    have g0 := goes_op hsz (by omega) h0 (show IsOp c by unfold IsOp; omega) (o := o)
    have lp : (str (dual p)).length ≤ 2 * (str p).length := (ihp hw.2.1 (i + 1) ⟨#[]⟩ _ b3 (Nat.zero_le _) (by omega)).2
    have d2 : (cs a).drop (i + 1 + (str p).length) = str q ++ l := by rw [← List.drop_drop, b3, List.drop_left]
    have lq : (str (dual q)).length ≤ 2 * (str q).length := (ihq hw.2.2 (i + 1 + (str p).length) ⟨#[]⟩ _ d2 (Nat.zero_le _) (by omega)).2
    refine ⟨?_, by simp only [dual, str, List.length_cons, List.length_append]; omega⟩
    have key := g0.trans (i3 := i + (str (Fm.two c p q)).length) (l2 := str (dual p) ++ str (dual q)) (fun o2 e => by
      have s2 := cs_size e
      simp only [List.length_cons, List.length_nil] at s2
      have gp := (ihp hw.2.1 (i + 1) o2 _ b3 (by omega) (by omega)).1
      refine gp.trans (fun o3 e3 => ?_)
      have s3 := cs_size e3
      have gq := (ihq hw.2.2 (i + 1 + (str p).length) o3 _ d2 (by omega) (by omega)).1
      rw [show i + 1 + (str p).length + (str q).length = i + (str (Fm.two c p q)).length by simp only [str, List.length_cons, List.length_append]; omega] at gq
      exact gq)
    exact key
  | one c p ihp =>
    intro hw i o l h ho hi
    have hc : c = 60 ∨ c = 91 := hw.1
    have h0 : (cs a).drop i = c :: (str p ++ l) := by rw [h]; simp [str]
    obtain ⟨b1, b2, b3, b4, b5⟩ := drop_bt h0
    clear b2
    have g0 := goes_op hsz (by omega) h0 (show IsOp c by unfold IsOp; omega) (o := o)
    have lp : (str (dual p)).length ≤ 2 * (str p).length := (ihp hw.2 (i + 1) ⟨#[]⟩ _ b3 (Nat.zero_le _) (by omega)).2
    refine ⟨?_, by simp only [dual, str, List.length_cons]; omega⟩
    have key := g0.trans (i3 := i + (str (Fm.one c p)).length) (l2 := str (dual p)) (fun o2 e => by
      have s2 := cs_size e
      simp only [List.length_cons, List.length_nil] at s2
      have gp := (ihp hw.2 (i + 1) o2 _ b3 (by omega) (by omega)).1
      rw [show i + 1 + (str p).length = i + (str (Fm.one c p)).length by simp only [str, List.length_cons]; omega] at gp
      exact gp)
    exact key
  | fix c x p ihp =>
    intro hw i o l h ho hi
    have hc : c = 109 ∨ c = 103 := hw.1
    have hx : isLt x = true := isLt_iff.2 hw.2.1
    have h0 : (cs a).drop i = c :: (x :: (str p ++ l)) := by rw [h]; simp [str]
    obtain ⟨b1, b2, b3, b4, b5⟩ := drop_bt h0
    clear b2
    obtain ⟨c1, c2, c3, c4, c5⟩ := drop_bt b3
    clear c2
    have g0 := goes_op hsz (by omega) h0 (show IsOp c by unfold IsOp; omega) (o := o)
    have lp : (str (dual p)).length ≤ 2 * (str p).length := (ihp hw.2.2 (i + 1 + 1) ⟨#[]⟩ _ c3 (Nat.zero_le _) (by omega)).2
    refine ⟨?_, by simp only [dual, str, List.length_cons]; omega⟩
    have key := g0.trans (i3 := i + (str (Fm.fix c x p)).length) (l2 := [x] ++ str (dual p)) (fun o2 e => by
      have s2 := cs_size e
      simp only [List.length_cons, List.length_nil] at s2
      refine (goes_let hsz (by omega) b3 hx (o := o2)).trans (fun o3 e3 => ?_)
      have s3 := cs_size e3
      simp only [List.length_cons, List.length_nil] at s3
      have gp := (ihp hw.2.2 (i + 1 + 1) o3 _ c3 (by omega) (by omega)).1
      rw [show i + 1 + 1 + (str p).length = i + (str (Fm.fix c x p)).length by simp only [str, List.length_cons]; omega] at gp
      exact gp)
    exact key

theorem toList_cs {a b : ByteArray} (h : cs a = cs b) : a.toList = b.toList := by
  rw [ByteArray.toList_eq, ByteArray.toList_eq]
  unfold cs at h
  exact List.map_inj_right (fun x y e => UInt8.toNat_inj.1 e) |>.1 h

theorem ref_Not {a : ByteArray} {f : Fm} (h : whole (cs a) = some f) (hsz : a.size ≤ 40) : ∃ k o, cs o = str (dual f) ∧ comfitref08_Not.f k a = some (if o.size ≤ 40 then (o, 0) else (⟨#[]⟩, 3)) := by
  obtain ⟨hs, hw⟩ := whole_str h
  have h0 : (cs a).drop 0 = str f ++ [] := by rw [List.drop_zero, List.append_nil, hs]
  obtain ⟨d, o, e, hk⟩ := (goes_str a (by omega) f hw 0 ⟨#[]⟩ [] h0 (Nat.le_refl _) (Nat.zero_le _)).1
  have hl : 0 + (str f).length = a.size := by rw [← hs, cs_length, Nat.zero_add]
  refine ⟨1 + d, o, e, ?_⟩
  unfold comfitref08_Not.f
  have hk1 := hk 1
  rw [show ((0 : Nat) : Int) = 0 from rfl] at hk1
  rw [hk1, hl, comfitref08_Not.l0, if_neg (by omega)]
  by_cases hz : o.size ≤ 40
  · rw [if_neg (by omega), if_pos hz]
  · rw [if_pos (by omega), if_neg hz]

theorem Pure_FixesNots (a : ByteArray) : ∃ k, comfitlaw08_FixesNots.f k a = some true := by
  obtain ⟨k0, hk0⟩ := ready [] [] a
  have hn : fixes_Not.f (txt a) = fixes_Not.f a := by unfold fixes_Not.f; rw [txt_whole]
  cases hi : IsB a with
  | false =>
    refine ⟨k0, ?_⟩
    have hr := hk0 k0 (Nat.le_refl _)
    have e : fixes_Not.f a = some (⟨#[]⟩, 3) := by
      unfold fixes_Not.f
      unfold IsB at hi
      cases hw : wholeS 40 a with
      | none => rfl
      | some f => rw [hw] at hi; cases hi
    unfold comfitlaw08_FixesNots.f
    rw [text_eq]
    simp only [Option.bind_some, hn, e, hr.is, hi, hr.awake]
    rw [if_neg (by decide), if_pos (by rw [ByteArray.toList_eq]), if_pos trivial]
  | true =>
    obtain ⟨f, h1, h2, h3⟩ := wholeS_some hi
    obtain ⟨k1, o, e1, e2⟩ := ref_Not h2 h3
    have hnb := nb_str f (whole_str h2).2
    have hts := toList_cs (hnb.trans e1.symm)
    have hsz : (nb f).size = o.size := by rw [← cs_length, ← cs_length, hnb, e1]
    refine ⟨max k0 k1, ?_⟩
    have hr := hk0 (max k0 k1) (Nat.le_max_left _ _)
    have e3 := lift (fun k => PC.comfitref08_Not.mono a k) e2 (Nat.le_max_right k0 k1)
    have e4 : fixes_Not.f a = some (if o.size ≤ 40 then (nb f, 0) else (⟨#[]⟩, 3)) := by
      unfold fixes_Not.f
      rw [h1]
      simp only
      rw [hsz]
      split <;> rfl
    unfold comfitlaw08_FixesNots.f
    rw [text_eq]
    simp only [Option.bind_some, hn, e4, hr.is, hi, if_true, e3, hr.awake]
    by_cases hz : o.size ≤ 40
    · simp only [if_pos hz, hts, if_true]
    · simp only [if_neg hz, if_true]
end Go.Proofs.Ytjffhhalmicodaa.L
