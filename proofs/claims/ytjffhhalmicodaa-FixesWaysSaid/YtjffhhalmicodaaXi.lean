import Derived.Test.YtjffhhalmicodaaXh
set_option linter.unusedVariables false
set_option linter.unusedSimpArgs false
namespace Go.Proofs.Ytjffhhalmicodaa.X
open Go.RowKit Go.Proofs.YtjffhhalmicodaaW.PrintWords Go.Proofs.YtjffhhalmicodaaW.PrintLast Go.Proofs.YtjffhhalmicodaaW.PrintMore

theorem ReadPost.behind {o : Option (Fm × List Nat)} {w0 w w1 : World} {g : Nat} {s b : ByteArray} {e : Ending} {w' : World} (h : Rd w0 w g s b w1) (hp : ReadPost o w0 w1 g b e w') : ReadPost o w0 w g b e w' := by
  obtain ⟨h1, h2, h3⟩ := hp
  refine ⟨h1, h.keep.trans h2 (Or.inl rfl), ?_⟩
  cases o with
  | none => exact h3
  | some p =>
    obtain ⟨v, s', rfl, ht, hi, hs⟩ := h3
    exact ⟨v, s', rfl, Tree.same (fun a v _ hc _ => hc) (fun k _ hk => Nat.le_trans h.keep.1 hk) _ _ ht, hi, hs⟩
theorem ReadPost.returned {o : Option (Fm × List Nat)} {w0 w : World} {g : Nat} {b : ByteArray} {e : Ending} {w' : World} (hp : ReadPost o w0 w g b e w') : ∃ v, e = .returned v := by
  obtain ⟨h1, h2, h3⟩ := hp
  cases o with
  | none => exact ⟨_, h3.1⟩
  | some p => exact ⟨_, h3.choose_spec.choose_spec.1⟩

theorem fix_all (n c : Nat) (ih : ReadUpto n) (g : Nat) (s b : ByteArray) (w0 w : World) (hn : (cs s).length ≤ n) (hsz : b.size + (cs s).length ≤ 1000000) (hI : PA.IsS93 w0 w g s b) (hB : Below w0.heap.size w0 w) :
    Calls Try.prog 89 #[.pointer (some ⟨g, 0, none⟩), .int .u8 c] w (ReadPost (parseFix n c (cs s) (cs b)) w0 w g b) := by
  cases hs : cs s with
  | nil => exact fix_end g s b w0 w hI hB c hs
  | cons x r =>
    rw [hs] at hn hsz
    simp only [List.length_cons] at hn hsz
    by_cases hm : isLt x = true
    · by_cases hb : x ∈ cs b
      · have : parseFix n c (x :: r) (cs b) = none := by simp [parseFix, hb]
        rw [this]
        exact fix_in g s b w0 w hI hB c x r hs hm hb
      · have : parseFix n c (x :: r) (cs b) = (parse n r (cs b ++ [x])).bind fun p => some (.fix c x p.1, p.2) := by simp only [parseFix]; rw [if_pos ⟨hm, hb⟩]
        rw [this]
        cases ho : parse n r (cs b ++ [x]) with
        | none => exact fix_out_none g s b w0 w hI hB c x r hs hm hb n (by omega) (by omega) ih ho
        | some p => exact fix_out_some g s b w0 w hI hB c x r hs hm hb n (by omega) (by omega) ih p ho
    · have : parseFix n c (x :: r) (cs b) = none := by simp [parseFix, hm]
      rw [this]
      exact fix_no g s b w0 w hI hB c x r hs (by simpa using hm)

set_option maxRecDepth 100000 in
set_option maxHeartbeats 2000000 in
theorem read_fix109 (g : Nat) (s b : ByteArray) (w0 w : World) (hI : PA.IsS93 w0 w g s b) (hB : Below w0.heap.size w0 w) (r : List Nat) (hs : cs s = 109 :: r) (n : Nat) (hn : r.length ≤ n) (hsz : b.size + (r.length + 1) ≤ 1000000) (ih : ReadUpto n) :
    Calls Try.prog 75 #[.pointer (some ⟨g, 0, none⟩)] w (ReadPost (parseFix n 109 r (cs b)) w0 w g b) := by
  obtain ⟨ht, hr⟩ := take_cons (b := b) hs
  have HT := Lib.hid ht
  have HC := Lib.hid hr
  clear ht hr hs
  have IH := Lib.hid ih
  clear ih
  have HM := Lib.hid (show PA.fixes_isMark.f ((109 : Nat) : Int) = some false from mark_no rfl)
  have HL := Lib.hid (show PA.fixes_isLetter.f ((109 : Nat) : Int) = some false from letter_no rfl)
  have HR := Lib.hid (Rd.start hI hB)
  clear hI hB
  go_enter Try.func75, Try.ntmps75
  go_wp2_with fail
  refine (PA.fixes_reader_take.calls g s b ((109 : Nat) : Int) (s.extract 1 s.size) b w0 _ HR.out.is HR.out.below HT.out).mono ?_
  rintro e w101 ⟨rfl, hI, hB, hk⟩
  have n0_ := Lib.hid (HR.out.next hI hB hk)
  clear HR hI hB hk
  have HR := n0_
  clear n0_
  go_wp2_with fail
  refine (PA.fixes_isMark.calls ((109 : Nat) : Int) false _ HM.out).mono ?_
  rintro e w102 ⟨rfl, hd⟩
  have n0_ := Lib.hid (HR.out.drawn hd)
  clear HR hd
  have HR := n0_
  clear n0_
  go_wp2_with fail
  refine (PA.fixes_isLetter.calls ((109 : Nat) : Int) false _ HL.out).mono ?_
  rintro e w103 ⟨rfl, hd⟩
  have n0_ := Lib.hid (HR.out.drawn hd)
  clear HR hd
  have HR := n0_
  clear n0_
  go_wp2_with fail
  refine (fix_all n 109 IH.out g (s.extract 1 s.size) b w0 _ (by rw [HC.out]; exact hn) (by rw [HC.out]; omega) HR.out.is HR.out.below).mono ?_
  intro e w2 hp
  rw [HC.out] at hp
  obtain ⟨v, rfl⟩ := hp.returned
  have HP := Lib.hid (hp.behind HR.out)
  clear hp
  go_wp2
  go_ret
  exact HP.out

set_option maxRecDepth 100000 in
set_option maxHeartbeats 2000000 in
theorem read_fix103 (g : Nat) (s b : ByteArray) (w0 w : World) (hI : PA.IsS93 w0 w g s b) (hB : Below w0.heap.size w0 w) (r : List Nat) (hs : cs s = 103 :: r) (n : Nat) (hn : r.length ≤ n) (hsz : b.size + (r.length + 1) ≤ 1000000) (ih : ReadUpto n) :
    Calls Try.prog 75 #[.pointer (some ⟨g, 0, none⟩)] w (ReadPost (parseFix n 103 r (cs b)) w0 w g b) := by
  obtain ⟨ht, hr⟩ := take_cons (b := b) hs
  have HT := Lib.hid ht
  have HC := Lib.hid hr
  clear ht hr hs
  have IH := Lib.hid ih
  clear ih
  have HM := Lib.hid (show PA.fixes_isMark.f ((103 : Nat) : Int) = some false from mark_no rfl)
  have HL := Lib.hid (show PA.fixes_isLetter.f ((103 : Nat) : Int) = some false from letter_no rfl)
  have HR := Lib.hid (Rd.start hI hB)
  clear hI hB
  go_enter Try.func75, Try.ntmps75
  go_wp2_with fail
  refine (PA.fixes_reader_take.calls g s b ((103 : Nat) : Int) (s.extract 1 s.size) b w0 _ HR.out.is HR.out.below HT.out).mono ?_
  rintro e w104 ⟨rfl, hI, hB, hk⟩
  have n0_ := Lib.hid (HR.out.next hI hB hk)
  clear HR hI hB hk
  have HR := n0_
  clear n0_
  go_wp2_with fail
  refine (PA.fixes_isMark.calls ((103 : Nat) : Int) false _ HM.out).mono ?_
  rintro e w105 ⟨rfl, hd⟩
  have n0_ := Lib.hid (HR.out.drawn hd)
  clear HR hd
  have HR := n0_
  clear n0_
  go_wp2_with fail
  refine (PA.fixes_isLetter.calls ((103 : Nat) : Int) false _ HL.out).mono ?_
  rintro e w106 ⟨rfl, hd⟩
  have n0_ := Lib.hid (HR.out.drawn hd)
  clear HR hd
  have HR := n0_
  clear n0_
  go_wp2_with fail
  refine (fix_all n 103 IH.out g (s.extract 1 s.size) b w0 _ (by rw [HC.out]; exact hn) (by rw [HC.out]; omega) HR.out.is HR.out.below).mono ?_
  intro e w2 hp
  rw [HC.out] at hp
  obtain ⟨v, rfl⟩ := hp.returned
  have HP := Lib.hid (hp.behind HR.out)
  clear hp
  go_wp2
  go_ret
  exact HP.out

end Go.Proofs.Ytjffhhalmicodaa.X
