/- Texts of this claim, merged by a program (wip/tools/shake.py); what nothing names is left out. -/
import Derived.Test.YtjpfalanoifpbaaDoorShb
section
set_option linter.unusedVariables false
set_option linter.unusedSimpArgs false
namespace Go.Proofs.YtjpfalanoifpbaaDoor.X
open Go.RowKit Go.Proofs.YtjpfalanoifpbaaDoorW.PrintWords Go.Proofs.YtjpfalanoifpbaaDoorW.PrintLast Go.Proofs.YtjpfalanoifpbaaDoorW.PrintMore Go.Proofs.YtjpfalanoifpbaaDoor.T
theorem sta_same {L : Nat → Int} {R : Nat → ByteArray} {n : Nat} {o1 o2 : List (List It)} (h1 : StaI L R n o1 o1.length) (h2 : StaI L R n o2 o2.length) : o1 = o2 := by
  have a := h1.done
  rw [h2.done] at a
  injection a with a
  exact a.symm
theorem sta_not {L : Nat → Int} {R : Nat → ByteArray} {n : Nat} {o1 : List (List It)} (h1 : StaI L R n o1 o1.length) (h2 : stas L R n = none) : False := by
  have a := h1.done
  rw [h2] at a
  cases a
theorem sta_len {L : Nat → Int} {R : Nat → ByteArray} {n : Nat} {out : List (List It)} (h4 : R4 R n) (hn : n ≤ 8) (h : StaI L R n out out.length) : ∀ s ∈ out, s.length ≤ 1000 := fun s hs => Nat.le_trans (state_len h4 hn (h.fits s hs)) (by decide)
theorem str_nil (w : World) : StR w none 0 0 [] := ⟨rfl, .inl rfl⟩
set_option maxHeartbeats 8000000 in
set_option maxRecDepth 100000 in
theorem States_law_yes (A : Option Addr) (n c : Nat) (L : Nat → Int) (R : Nat → ByteArray) (w : World) (hA : Sr w A n c L R) (hn : n ≤ 9223372036854775807) (hR : ∀ k, k < n → (R k).size ≤ 9223372036854775807) (hg : Gram L R n) :
    Calls Tryd.prog 9 #[.slice A n c] w fun e w' => e = .returned (.bool true) ∧ Below w.heap.size w w' := by
  have HO := Lib.hid (fun (w : World) (h : Sr w A n c L R) => Of_yes A n c L R w h hn hR hg)
  have HG := Lib.hid (fun (w : World) (h : Sr w A n c L R) => Grammar_calls A n c L R w h hn true (by simp [hg]))
  have HS := Lib.hid (fun (A' : Option Addr) (c' : Nat) (w : World) h => States_yes A' n c' L R w h hg)
  have HRS := Lib.hid (fun (w : World) (h : Sr w A n c L R) => rStates_calls A n c L R w h hg.gr)
  have HA := Lib.hid hA
  have H4 : Hid (R4 R n) := Lib.hid hg.gr.sz
  have hn8 := hg.1.2
  clear hA hR hg
  go_enter Tryd.func9, Tryd.ntmps9
  go_wp2_with fail
  refine (HO.out w HA.out).mono ?_
  rintro e w1 ⟨⟨A1, c1, rfl, hS1⟩, hb1⟩
  have HB1 := Lib.hid hb1
  have HS1 := Lib.hid hS1
  clear hb1 hS1
  go_wp2_with fail
  refine (HS.out A1 c1 w1 HS1.out).mono ?_
  rintro e w2 ⟨h2, hb2⟩
  have HB2 := Lib.hid (HB1.out.trans (hb2.mono HB1.out.size))
  clear hb2 HB1 HS1 HS
  rcases h2 with ⟨A2, c2, out, rfl, hI, hSt⟩ | ⟨hno, rfl⟩
  · have HI := Lib.hid hI
    have HT2 := Lib.hid hSt
    have hol := hI.le
    clear hI hSt
    go_wp2_with fail
    refine (HG.out w2 (HA.out.later HB2.out)).mono ?_
    rintro e w3 ⟨rfl, hb3⟩
    have HB3 := Lib.hid (HB2.out.trans (hb3.mono HB2.out.size))
    have HT3 := Lib.hid (HT2.out.later hb3)
    clear hb3 HB2 HT2
    go_wp2_with fail
    refine (HRS.out w3 (HA.out.later HB3.out)).mono ?_
    rintro e w4 ⟨h4, hb4⟩
    have HB4 := Lib.hid (HB3.out.trans (hb4.mono HB3.out.size))
    have HT4 := Lib.hid (HT3.out.later hb4)
    clear hb4 HB3 HT3
    rcases h4 with ⟨v, out2, rfl, hI2, hR2⟩ | ⟨hno, rfl⟩
    · obtain rfl := sta_same hI2 HI.out
      obtain ⟨A5, c5, rfl, hS5⟩ := ks_read hR2
      have HS5 := Lib.hid hS5
      clear hI2 hR2 hS5
      go_wp2_with fail
      refine (items_calls HT4.out (by omega) (sta_len H4.out hn8 HI.out)).mono ?_
      rintro e w6 ⟨⟨v, rfl, hv⟩, hb6⟩
      obtain ⟨A6, c6, rfl, hS6⟩ := ks_read hv
      have HB6 := Lib.hid (HB4.out.trans (hb6.mono HB4.out.size))
      have HS6 := Lib.hid hS6
      have HS5 := Lib.hid (HS5.out.later hb6)
      clear hv hb6 hS6 HB4 HT4
      go_wp2_with fail
      refine (eqF_same HS6.out HS5.out (by omega) (sta_len H4.out hn8 HI.out)).mono ?_
      rintro e w7 ⟨rfl, hb7⟩
      have HB7 := Lib.hid (HB6.out.trans (hb7.mono HB6.out.size))
      clear hb7 HB6
      go_wp2_with fail
      refine (awake_calls w7).mono ?_
      rintro e w8 ⟨rfl, hb8⟩
      have HB8 := Lib.hid (HB7.out.trans (hb8.mono HB7.out.size))
      clear hb8 HB7
      go_wp2
      go_ret
      exact ⟨rfl, HB8.out⟩
    · exact absurd (sta_not HI.out hno) id
  · have HNO := Lib.hid hno
    clear hno
    go_wp2_with fail
    refine (HG.out w2 (HA.out.later HB2.out)).mono ?_
    rintro e w3 ⟨rfl, hb3⟩
    have HB3 := Lib.hid (HB2.out.trans (hb3.mono HB2.out.size))
    clear hb3 HB2
    go_wp2_with fail
    refine (HRS.out w3 (HA.out.later HB3.out)).mono ?_
    rintro e w4 ⟨h4, hb4⟩
    have HB4 := Lib.hid (HB3.out.trans (hb4.mono HB3.out.size))
    clear hb4 HB3
    rcases h4 with ⟨v, out2, rfl, hI2, hR2⟩ | ⟨hno, rfl⟩
    · exact absurd (sta_not hI2 HNO.out) id
    · go_wp2_with fail
      refine (items_calls (str_nil w4) (by omega) (fun s hs => by cases hs)).mono ?_
      rintro e w6 ⟨⟨v, rfl, hv⟩, hb6⟩
      obtain ⟨A6, c6, rfl, hS6⟩ := ks_read hv
      have HB6 := Lib.hid (HB4.out.trans (hb6.mono HB4.out.size))
      have HS6 := Lib.hid hS6
      clear hv hb6 hS6 HB4
      go_wp2_with fail
      refine (eqF_same (n := 0) HS6.out (str_nil w6) (by omega) (fun s hs => by cases hs)).mono ?_
      rintro e w7 ⟨rfl, hb7⟩
      have HB7 := Lib.hid (HB6.out.trans (hb7.mono HB6.out.size))
      clear hb7 HB6
      go_wp2_with fail
      refine (awake_calls w7).mono ?_
      rintro e w8 ⟨rfl, hb8⟩
      have HB8 := Lib.hid (HB7.out.trans (hb8.mono HB7.out.size))
      clear hb8 HB7
      go_wp2
      go_ret
      exact ⟨rfl, HB8.out⟩
set_option maxHeartbeats 8000000 in
set_option maxRecDepth 100000 in
theorem States_law_no (A : Option Addr) (n c : Nat) (L : Nat → Int) (R : Nat → ByteArray) (w : World) (hA : Sr w A n c L R) (hn : n ≤ 9223372036854775807) (hR : ∀ k, k < n → (R k).size ≤ 9223372036854775807) (hg : ¬ Gram L R n) :
    Calls Tryd.prog 9 #[.slice A n c] w fun e w' => e = .returned (.bool true) ∧ Below w.heap.size w w' := by
  have HO := Lib.hid (fun (w : World) (h : Sr w A n c L R) => Of_calls A n c L R w h hn hR)
  have HG := Lib.hid (fun (w : World) (h : Sr w A n c L R) => Grammar_calls A n c L R w h hn false (by simp [hg]))
  have hng : ¬ Gram L (fun k => cut12 (R k)) (mnN n 11) := fun q => hg (cut_gram q)
  have h11 := mnN_le n 11
  have HS := Lib.hid (fun (A' : Option Addr) (c' : Nat) (w : World) h => States_no A' (mnN n 11) c' L (fun k => cut12 (R k)) w h (by omega) (fun k _ => cut12_1000 _) hng)
  have HA := Lib.hid hA
  clear hA hR hg hng h11
  generalize mnN n 11 = m at HO HS
  go_enter Tryd.func9, Tryd.ntmps9
  go_wp2_with fail
  refine (HO.out w HA.out).mono ?_
  rintro e w1 ⟨⟨A1, c1, rfl, hS1⟩, hb1⟩
  have HB1 := Lib.hid hb1
  have HS1 := Lib.hid hS1
  clear hb1 hS1
  go_wp2_with fail
  refine (HS.out A1 c1 w1 HS1.out).mono ?_
  rintro e w2 ⟨rfl, hb2⟩
  have HB2 := Lib.hid (HB1.out.trans (hb2.mono HB1.out.size))
  clear hb2 HB1 HS1
  go_wp2_with fail
  refine (HG.out w2 (HA.out.later HB2.out)).mono ?_
  rintro e w3 ⟨rfl, hb3⟩
  have HB3 := Lib.hid (HB2.out.trans (hb3.mono HB2.out.size))
  clear hb3 HB2
  go_wp2_with fail
  refine (awake_calls w3).mono ?_
  rintro e w8 ⟨rfl, hb8⟩
  have HB8 := Lib.hid (HB3.out.trans (hb8.mono HB3.out.size))
  clear hb8 HB3
  go_wp2
  go_ret
  exact ⟨rfl, HB8.out⟩
theorem TablesStates.calls (A : Option Addr) (n c : Nat) (L : Nat → Int) (R : Nat → ByteArray) (w : World) (hA : Sr w A n c L R) (hR : ∀ k, k < n → (R k).size ≤ 9223372036854775807) (hn : n ≤ 9223372036854775807) (hc : c ≤ 9223372036854775807) :
    Calls Tryd.prog 9 #[.slice A n c] w fun e w' => e = .returned (.bool true) ∧ Below w.heap.size w w' := by
  by_cases hg : Gram L R n
  · exact States_law_yes A n c L R w hA hn hR hg
  · exact States_law_no A n c L R w hA hn hR hg
end Go.Proofs.YtjpfalanoifpbaaDoor.X
end
