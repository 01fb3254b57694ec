import Derived.Test.YtjffhhalmicodaaXk
set_option linter.unusedVariables false
set_option linter.unusedSimpArgs false
namespace Go.Proofs.Ytjffhhalmicodaa.X
open Go.RowKit Go.Proofs.YtjffhhalmicodaaW.PrintWords Go.Proofs.YtjffhhalmicodaaW.PrintLast Go.Proofs.YtjffhhalmicodaaW.PrintMore

theorem toList_nil {s : ByteArray} : s.toList = [] ↔ cs s = [] := by
  unfold cs
  rw [ByteArray.toList_eq]
  simp
theorem cs_length (s : ByteArray) : (cs s).length = s.size := by
  unfold cs
  rw [List.length_map, data_length]

set_option maxRecDepth 100000 in
set_option maxHeartbeats 2000000 in
theorem parse_long (s : ByteArray) (most : Int) (w : World) (h : most < (s.size : Int)) :
    Calls Try.prog 49 #[.string s, .int .i64 most] w (ParsePost none w) := by
  go_enter Try.func49, Try.ntmps49
  go_wp2
  go_ret
  exact ⟨Below.refl _ _, rfl⟩

set_option maxRecDepth 100000 in
set_option maxHeartbeats 2000000 in
theorem parse_short (s : ByteArray) (most : Int) (w : World) (h : (s.size : Int) ≤ most) (hsz : s.size ≤ 900000) :
    Calls Try.prog 49 #[.string s, .int .i64 most] w (ParsePost (whole (cs s)) w) := by
  have hB1 : Below w.heap.size w (w.alloc (.cells #[.string s, .string ⟨#[]⟩] 93)) := below_alloc (Below.refl _ _) _
  have hI : PA.IsS93 w (w.alloc (.cells #[.string s, .string ⟨#[]⟩] 93)) w.heap.size s ⟨#[]⟩ := PA.IsS93.new w w s ⟨#[]⟩ (Below.refl _ _)
  have hread := read_all ((cs s).length + 1) w.heap.size s ⟨#[]⟩ w (w.alloc (.cells #[.string s, .string ⟨#[]⟩] 93)) (by omega) (by rw [cs_length]; show 0 + s.size ≤ 1000000; omega) hI hB1
  have HREAD := Lib.hid hread
  clear hB1 hI hread
  cases hp : parse ((cs s).length + 1) (cs s) [] with
  | none =>
    have HW := Lib.hid (show whole (cs s) = none by unfold whole; rw [hp]; rfl)
    go_enter Try.func49, Try.ntmps49
    go_wp2_with fail
    refine HREAD.out.mono ?_
    rintro e w2 ⟨hB2, hK2, hres⟩
    rw [show cs ⟨#[]⟩ = [] from rfl, hp] at hres
    obtain ⟨rfl, s', b', hI2⟩ := hres
    have hcell := PA.cellS93_0 hI2.1
    have HB := Lib.hid hB2
    clear hI2 hB2 hK2 hp HREAD
    by_cases hs : s'.toList = ([] : List UInt8)
    · have e1 : (s'.toList == ([] : List UInt8)) = true := beq_iff_eq.mpr hs
      have e2 : (s'.toList != ([] : List UInt8)) = false := bne_eq_false_iff_eq.mpr hs
      clear hs
      go_wp2
      go_ret
      rw [HW.out]
      exact ⟨HB.out, rfl⟩
    · have e1 : (s'.toList == ([] : List UInt8)) = false := beq_eq_false_iff_ne.mpr hs
      have e2 : (s'.toList != ([] : List UInt8)) = true := bne_iff_ne.mpr hs
      go_wp2
      go_ret
      rw [HW.out]
      exact ⟨HB.out, rfl⟩
  | some p =>
    by_cases hrest : p.2 = []
    · have HW := Lib.hid (show whole (cs s) = some p.1 by unfold whole; rw [hp]; simp [hrest])
      go_enter Try.func49, Try.ntmps49
      go_wp2_with fail
      refine HREAD.out.mono ?_
      rintro e w2 ⟨hB2, hK2, hres⟩
      rw [show cs ⟨#[]⟩ = [] from rfl, hp] at hres
      obtain ⟨v, s', rfl, hT, hI2, hs'⟩ := hres
      have hcell := PA.cellS93_0 hI2.1
      have HB := Lib.hid hB2
      have hs : s'.toList = ([] : List UInt8) := toList_nil.2 (hs'.trans hrest)
      have e1 : (s'.toList == ([] : List UInt8)) = true := beq_iff_eq.mpr hs
      have e2 : (s'.toList != ([] : List UInt8)) = false := bne_eq_false_iff_eq.mpr hs
      have HT := Lib.hid hT
      clear hI2 hB2 hK2 hp HREAD hs hs' hrest hT
      go_wp2
      go_ret
      rw [HW.out]
      exact ⟨HB.out, v, rfl, Tree.same (fun _ _ _ hc _ => hc) (fun k _ hk => by simp at hk; omega) _ _ HT.out⟩
    · have HW := Lib.hid (show whole (cs s) = none by unfold whole; rw [hp]; simp [hrest])
      go_enter Try.func49, Try.ntmps49
      go_wp2_with fail
      refine HREAD.out.mono ?_
      rintro e w2 ⟨hB2, hK2, hres⟩
      rw [show cs ⟨#[]⟩ = [] from rfl, hp] at hres
      obtain ⟨v, s', rfl, hT, hI2, hs'⟩ := hres
      have hcell := PA.cellS93_0 hI2.1
      have HB := Lib.hid hB2
      have hs : ¬ s'.toList = ([] : List UInt8) := fun h => hrest (hs'.symm.trans (toList_nil.1 h))
      have e1 : (s'.toList == ([] : List UInt8)) = false := beq_eq_false_iff_ne.mpr hs
      have e2 : (s'.toList != ([] : List UInt8)) = true := bne_iff_ne.mpr hs
      clear hI2 hB2 hK2 hp HREAD hs' hrest hT
      go_wp2
      go_ret
      rw [HW.out]
      exact ⟨HB.out, rfl⟩

theorem parse_calls (s : ByteArray) (most : Int) (w : World) (hm : most ≤ 900000) :
    Calls Try.prog 49 #[.string s, .int .i64 most] w (ParsePost (if (s.size : Int) ≤ most then whole (cs s) else none) w) := by
  by_cases h : (s.size : Int) ≤ most
  · rw [if_pos h]
    exact parse_short s most w h (by omega)
  · rw [if_neg h]
    exact parse_long s most w (by omega)
end Go.Proofs.Ytjffhhalmicodaa.X
