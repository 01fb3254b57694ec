/- Texts of this claim, merged by a program (wip/tools/shake.py); what nothing names is left out. -/
import Derived.Lib.SliceRun
import Derived.Shelf.SlSortCmp.InsertionK
import Derived.Test.YtjpfalanoifpbaaDoorSma
section
set_option linter.unusedVariables false
set_option linter.unusedSimpArgs false
namespace Go.Proofs.YtjpfalanoifpbaaDoor.X
open Go.RowKit Go.Proofs.YtjpfalanoifpbaaDoorW.PrintWords Go.Proofs.YtjpfalanoifpbaaDoorW.PrintLast Go.Proofs.YtjpfalanoifpbaaDoorW.PrintMore Go.Proofs.YtjpfalanoifpbaaDoor.T
theorem bit_zero (e k : Nat) (he : e < 32) (h : e.testBit k = true) : (bits .and .i64 ((e : Int) / 2 ^ k) 1 == 0) = false := by
  have h1 := bit_at e k he
  rw [h, beq_iff_eq] at h1
  rw [h1]
  rfl
end Go.Proofs.YtjpfalanoifpbaaDoor.X
end

section
set_option linter.unusedVariables false
namespace Go.Proofs.YtjpfalanoifpbaaDoor.T
def allU (e : Nat) (s : ByteArray) : Bool := (List.range s.size).all fun i => !isP (ch s i) || e.testBit (pn (ch s i))
section
variable (L : Nat → Int) (R : Nat → ByteArray)
def uTo (e : Nat) : Nat → Nat
  | 0 => e
  | k + 1 => if allU (uTo e k) (R k) = true then uTo e k ||| 2 ^ pn (L k) else uTo e k
def usefulN (n : Nat) : Nat := rep (fun e => uTo L R e n) 5 0
variable {L R}
theorem uTo_lt {n : Nat} (h : okG L R n) {e : Nat} (he : e < 32) : ∀ k, k ≤ n → uTo L R e k < 32
  | 0, _ => he
  | k + 1, hk => by
    rw [uTo]
    split
    · exact or_lt (uTo_lt h he k (by omega)) (pp_lt (h k (by omega)).1)
    · exact uTo_lt h he k (by omega)
theorem uTo_up (e : Nat) : ∀ k, e ||| uTo L R e k = uTo L R e k
  | 0 => Nat.or_self _
  | k + 1 => by
    rw [uTo]
    split
    · rw [← Nat.or_assoc, uTo_up e k]
    · exact uTo_up e k
theorem uTo_stands {n : Nat} (h : okG L R n) {e : Nat} (he : e < 32) : uTo L R e n = e ∨ pc e < pc (uTo L R e n) := by
  have h1 := uTo_lt h he n (Nat.le_refl _)
  have h2 := uTo_up (L := L) (R := R) e n
  have h3 := pc_mono e (uTo L R e n)
  rw [h2] at h3
  by_cases hc : pc e = pc (uTo L R e n)
  · refine .inl ?_
    have := pc_eq he h1 (by rw [h2]; exact hc)
    rw [h2] at this
    exact this
  · exact .inr (by omega)
theorem useful_end {n : Nat} (h : okG L R n) {m : Nat} (hm : uTo L R (rep (fun e => uTo L R e n) m 0) n = rep (fun e => uTo L R e n) m 0) : rep (fun e => uTo L R e n) m 0 = usefulN L R n := by
  have h1 := rep_stands (fun e => uTo L R e n) (fun e => e < 32) pc 5 (fun e he => uTo_lt h he n (Nat.le_refl _)) (fun e he => uTo_stands h he) (fun e _ => pc_le e) (x := 0) (by decide) 5 (Nat.le_refl _)
  have a := rep_fix (T := fun e => uTo L R e n) (x := 0) (m := m) hm 5
  have b := rep_fix (T := fun e => uTo L R e n) (x := 0) (m := 5) h1 m
  rw [Nat.add_comm] at b
  exact a.symm.trans b
theorem useful_lt {n : Nat} (h : okG L R n) : ∀ m, rep (fun e => uTo L R e n) m 0 < 32
  | 0 => show (0 : Nat) < 32 by decide
  | m + 1 => uTo_lt h (useful_lt h m) n (Nat.le_refl _)
theorem uTo_up2 (e : Nat) {k : Nat} : ∀ {n}, k ≤ n → uTo L R e k ||| uTo L R e n = uTo L R e n
  | 0, h => by
    obtain rfl : k = 0 := by omega
    exact Nat.or_self _
  | n + 1, h => by
    by_cases e1 : k = n + 1
    · subst e1
      exact Nat.or_self _
    · have ih := uTo_up2 e (k := k) (n := n) (by omega)
      rw [uTo]
      split
      · rw [← Nat.or_assoc, ih]
      · exact ih
theorem useful_closed {n : Nat} (h : okG L R n) {m : Nat} (hm : m < n) (ha : allU (usefulN L R n) (R m) = true) : (usefulN L R n).testBit (pn (L m)) = true := by
  have h1 : uTo L R (usefulN L R n) n = usefulN L R n := rep_stands (fun e => uTo L R e n) (fun e => e < 32) pc 5 (fun e he => uTo_lt h he n (Nat.le_refl _)) (fun e he => uTo_stands h he) (fun e _ => pc_le e) (x := 0) (by decide) 5 (Nat.le_refl _)
  generalize usefulN L R n = E at h1 ha ⊢
  have key : ∀ k, k ≤ n → uTo L R E k = E := fun k hk => by
    have a := uTo_up2 (L := L) (R := R) E hk
    rw [h1] at a
    exact or_squeeze a (uTo_up (L := L) (R := R) E k)
  have h2 := key (m + 1) hm
  rw [uTo, key m (by omega), if_pos ha] at h2
  rw [← h2, Nat.testBit_or, Nat.testBit_two_pow_self, Bool.or_true]
end
end Go.Proofs.YtjpfalanoifpbaaDoor.T
end

section
set_option linter.unusedVariables false
set_option linter.unusedSimpArgs false
namespace Go.Proofs.YtjpfalanoifpbaaDoor.X
open Go.RowKit Go.Proofs.YtjpfalanoifpbaaDoorW.PrintWords Go.Proofs.YtjpfalanoifpbaaDoorW.PrintLast Go.Proofs.YtjpfalanoifpbaaDoorW.PrintMore Go.Proofs.YtjpfalanoifpbaaDoor.T
def outU (E : Nat) (x : Nat) : Bool := isP (IntKind.u8.wrap (x : Int)) && !(isP (IntKind.u8.wrap (x : Int)) && E.testBit (pn (IntKind.u8.wrap (x : Int))))
theorem idx_allU {s : ByteArray} (hs : okR s) (E : Nat) : decide (Lib.idxFunc (outU E) true s < 0) = allU E s := by
  rw [Bool.eq_iff_iff, decide_eq_true_eq]
  unfold Lib.idxFunc
  rw [idx_from hs _ _ _ (by omega)]
  unfold allU
  rw [List.all_eq_true]
  have key : ∀ i, outU E (ch s i).toNat = !(!isP (ch s i) || E.testBit (pn (ch s i))) := fun i => by
    have := ch_range s i
    unfold outU
    rw [show (((ch s i).toNat : Nat) : Int) = ch s i by omega, u8_small this.1 this.2]
    cases isP (ch s i) <;> cases E.testBit (pn (ch s i)) <;> rfl
  refine ⟨fun q i hi => ?_, fun q i _ hi => ?_⟩
  · have := q i (Nat.zero_le _) (List.mem_range.1 hi)
    rw [key] at this
    cases h : (!isP (ch s i) || E.testBit (pn (ch s i))) with
    | true => rfl
    | false =>
      rw [h] at this
      cases this
  · rw [key, q i (List.mem_range.2 hi)]
    rfl
set_option maxHeartbeats 1000000 in
set_option maxRecDepth 100000 in
theorem outU_calls (x E G : Nat) (w : World) (hE : E < 32) (hc : w.cell? ⟨G, 0, none⟩ = some (.int .i64 E)) :
    Calls Tryd.prog 103 #[.int .i32 x, .pointer (some ⟨G, 0, none⟩)] w fun e w' => e = .returned (.bool (outU E x)) ∧ w' = w := by
  have hw : IntKind.u8.wrap (x : Int) = (x : Int) % 256 := by
    unfold IntKind.wrap
    simp [IntKind.signed, IntKind.bits]
  unfold outU
  rw [hw]
  obtain ⟨c, hcc⟩ : ∃ c, (x : Int) % 256 = c := ⟨_, rfl⟩
  rw [hcc]
  go_enter Tryd.func103, Tryd.ntmps103
  go_wp2_with fail
  refine (isPart_calls c w).mono ?_
  rintro r w1 ⟨rfl, rfl⟩
  cases hp : isP c with
  | false =>
    go_wp2
    go_ret
    exact ⟨ret_bool (by rw [hp]; rfl), rfl⟩
  | true =>
    have HP := Lib.hid hp
    clear hp
    go_wp2_with fail
    refine (has_calls E c w1 hE).mono ?_
    rintro r w2 ⟨rfl, rfl⟩
    rw [HP.out]
    cases ht : E.testBit (pn c) with
    | true =>
      have HT := Lib.hid ht
      clear ht
      go_wp2
      go_ret
      exact ⟨ret_bool (by rw [HP.out, HT.out]; rfl), rfl⟩
    | false =>
      have HT := Lib.hid ht
      clear ht
      go_wp2
      go_ret
      exact ⟨ret_bool (by rw [HP.out, HT.out]; rfl), rfl⟩
set_option maxHeartbeats 1000000 in
set_option maxRecDepth 100000 in
theorem allU_calls (s : ByteArray) (E : Nat) (w : World) (hE : E < 32) (hs : okR s) :
    Calls Tryd.prog 102 #[.string s, .int .i64 E] w fun e w' => e = .returned (.bool (allU E s)) ∧ Below w.heap.size w w' := by
  have hi := idx_allU hs E
  go_enter Tryd.func102, Tryd.ntmps102
  go_wp2_with fail
  have hb := below_one (w := w) (.cells #[.int .i64 E] 3)
  have hc : (w.alloc (.cells #[.int .i64 E] 3)).cell? ⟨w.heap.size, 0, none⟩ = some (.int .i64 E) := by simp
  have hl : w.heap.size < (w.alloc (.cells #[.int .i64 E] 3)).heap.size := by simp
  have hp : PredAt Tryd.prog 103 #[.pointer (some ⟨w.heap.size, 0, none⟩)] encR (outU E) (w.alloc (.cells #[.int .i64 E] 3)) := fun W x hW => by
    refine (outU_calls x E w.heap.size W hE ((hW.cell (p := ⟨w.heap.size, 0, none⟩) hl).trans hc)).mono ?_
    rintro e w' ⟨rfl, rfl⟩
    exact ⟨rfl, 0, rfl⟩
  refine (Tryd.strings_IndexFunc 103 _ (fun args w => enters_ Tryd.func103 (by kernel_rfl) rfl args w) (outU E) s _ hp).mono ?_
  rintro e w1 ⟨rfl, hb1⟩
  have HB := Lib.hid (hb.trans (hb1.mono hb.size))
  clear hb hc hl hp hb1
  go_wp2
  go_ret
  first | exact ⟨rfl, HB.out⟩ | exact ⟨ret_bool hi, HB.out⟩
set_option maxHeartbeats 8000000 in
set_option maxRecDepth 100000 in
theorem grownU_calls (A : Option Addr) (n c : Nat) (L : Nat → Int) (R : Nat → ByteArray) (w : World) (hA : Sr w A n c L R) (hg : Gr L R n) :
    Calls Tryd.prog 96 #[.slice A n c, .func (.func 102) #[] #[]] w fun e w' => e = .returned (.int .i64 (usefulN L R n : Nat)) ∧ Below w.heap.size w w' := by
  obtain ⟨b, off, rfl, hnc, hP⟩ := hA.open hg.n1
  have HP := Lib.hid hP
  have HG := Lib.hid hg
  have hn8 := hg.n8
  clear hA hP hg
  go_enter Tryd.func96, Tryd.ntmps96
  go_wp2_with fail
  have HB := Lib.hid (Below.refl w.heap.size w)
  go_loopw [6, 5] (fun a v wr => ∃ (m : Nat) (g : Bool), a = .bool g ∧ v = .int .i64 (rep (fun e => uTo L R e n) m 0 : Nat) ∧ Hid (g = false → uTo L R (rep (fun e => uTo L R e n) m 0) n = rep (fun e => uTo L R e n) m 0) ∧ Hid (Below w.heap.size w wr)) (fun a v _ => lack a v)
  case atStart => exact ⟨0, true, rfl, rfl, Lib.hid (fun h => by cases h), HB⟩
  case round =>
    clear HB
    obtain ⟨m, g, rfl, rfl, HZ, HB⟩ := hrel
    obtain ⟨e0, he0⟩ : ∃ e0, rep (fun e => uTo L R e n) m 0 = e0 := ⟨_, rfl⟩
    have hel : e0 < 32 := by rw [← he0]; exact useful_lt HG.out.ok m
    cases g with
    | true =>
      rw [he0]
      have HE0 := Lib.hid he0
      clear he0 HZ
      go_wp2_with fail
      go_loopw [13, 6, 5] (fun i a v wr => ∃ (k : Nat) (g : Bool), k ≤ n ∧ i = .int .i64 k ∧ a = .bool g ∧ v = .int .i64 (uTo L R e0 k : Nat) ∧ Hid (if g = true then pc e0 < pc (uTo L R e0 k) else uTo L R e0 k = e0) ∧ Hid (Below w.heap.size w wr)) (fun i _ _ _ => n - (intOf i).toNat)
      case atStart => exact ⟨0, false, by omega, rfl, rfl, rfl, Lib.hid rfl, HB⟩
      case round =>
        clear HB
        obtain ⟨k, g, hk, rfl, rfl, rfl, HM, HB⟩ := hrel
        by_cases hkn : k < n
        · have c0 := (HP.out.later HB.out).c0 k hkn
          have c1 := (HP.out.later HB.out).c1 k hkn
          obtain ⟨e1, he1⟩ : ∃ e1, uTo L R e0 k = e1 := ⟨_, rfl⟩
          have he1l : e1 < 32 := by rw [← he1]; exact uTo_lt HG.out.ok hel k hk
          rw [he1] at HM ⊢
          obtain ⟨l, hl⟩ : ∃ l, L k = l := ⟨_, rfl⟩
          obtain ⟨s, hs⟩ : ∃ s, R k = s := ⟨_, rfl⟩
          have hlp : isP l = true := by rw [← hl]; exact (HG.out.ok k hkn).1
          have HOK : Hid (okR s) := Lib.hid (by rw [← hs]; exact (HG.out.ok k hkn).2)
          have HS1 : Hid (uTo L R e0 (k + 1) = if allU e1 s = true then e1 ||| 2 ^ pn l else e1) := Lib.hid (by rw [uTo, he1, hl, hs])
          rw [hl] at c0
          rw [hs] at c1
          have hkc : k < c := by omega
          have h5 := isP_iff.1 hlp
          obtain ⟨j, rfl⟩ : ∃ j : Nat, l = (j : Int) + 65 := ⟨(l - 65).toNat, by omega⟩
          have hj : j ≤ 4 := by omega
          rw [show pn ((j : Int) + 65) = j by unfold pn; omega] at HS1
          have HEND : Hid ((k + 1 ≤ n) ∧ n - (intOf (.int .i64 ((k : Int) + 1))).toNat < n - (intOf (.int .i64 (k : Int))).toNat) := Lib.hid ⟨by omega, by simp [intOf]; omega⟩
          have hu := u8_part hj
          have hbp := bit_pow he1l hj
          have ho := or_pow he1l hj
          have HPC := Lib.hid (pc_bit he1l hj)
          have HPM := Lib.hid (pc_mono e1 (2 ^ j))
          have HBA := Lib.hid (HB.out.trans ((below_one (w := wr) (.cells #[.int .u8 ((j : Int) + 65), .string s] 60)).mono HB.out.size))
          clear hl hs he1
          cases ht : e1.testBit j with
          | true =>
            have HS2 : Hid (uTo L R e0 (k + 1) = e1) := Lib.hid (by
              rw [HS1.out, or_bit ht]
              split <;> rfl)
            rw [ht, Bool.not_true] at hbp
            clear ht
            go_wp2_with fail
            refine ⟨⟨k + 1, g, HEND.out.1, by go_num, by first | rfl | trivial, ?_, ?_, HBA⟩, ?_⟩
            · rw [HS2.out]
            · rw [HS2.out]
              exact HM
            · simpa using HEND.out.2
          | false =>
            rw [ht, Bool.not_false] at hbp
            have HT := Lib.hid ht
            clear ht
            go_wp2_with fail
            refine (allU_calls s e1 _ he1l HOK.out).mono ?_
            rintro r w2 ⟨rfl, hb2⟩
            have HB2 := Lib.hid (HBA.out.trans (hb2.mono HBA.out.size))
            clear hb2
            cases ha : allU e1 s with
            | true =>
              have HS2 : Hid (uTo L R e0 (k + 1) = e1 ||| 2 ^ j) := Lib.hid (by rw [HS1.out, if_pos ha])
              clear ha
              go_wp2_with fail
              refine ⟨⟨k + 1, true, HEND.out.1, by go_num, by first | rfl | trivial, ?_, ?_, HB2⟩, ?_⟩
              · rw [HS2.out]
              · rw [HS2.out]
                refine Lib.hid ?_
                rw [if_pos rfl]
                have h1 := HM.out
                have h2 := HPC.out HT.out
                cases g with
                | true =>
                  rw [if_pos rfl] at h1
                  omega
                | false =>
                  rw [if_neg (by decide)] at h1
                  rw [h1] at h2
                  rw [h1]
                  exact h2
              · simpa using HEND.out.2
            | false =>
              have HS2 : Hid (uTo L R e0 (k + 1) = e1) := Lib.hid (by rw [HS1.out, if_neg (by rw [ha]; decide)])
              clear ha
              go_wp2_with fail
              refine ⟨⟨k + 1, g, HEND.out.1, by go_num, by first | rfl | trivial, ?_, ?_, HB2⟩, ?_⟩
              · rw [HS2.out]
              · rw [HS2.out]
                exact HM
              · simpa using HEND.out.2
        · obtain rfl : k = n := by omega
          have HLK : Hid (lack (.bool g) (.int .i64 (uTo L R e0 k : Nat)) < lack (.bool true) (.int .i64 (e0 : Nat))) := Lib.hid (by
            have h1 := HM.out
            have h2 := pc_le (uTo L R e0 k)
            have h3 := pc_le e0
            cases g with
            | true =>
              rw [if_pos rfl] at h1
              show 6 - pc ((uTo L R e0 k : Nat) : Int).toNat < 6 - pc ((e0 : Nat) : Int).toNat
              rw [Int.toNat_natCast, Int.toNat_natCast]
              omega
            | false =>
              show 0 < 6 - pc ((e0 : Nat) : Int).toNat
              rw [Int.toNat_natCast]
              omega)
          go_wp2_with fail
          refine ⟨⟨m + 1, g, rfl, ?_, Lib.hid (fun hg2 => ?_), HB⟩, HLK.out⟩
          · rw [rep, HE0.out]
          · have h1 := HM.out
            rw [hg2, if_neg (by decide)] at h1
            rw [rep, HE0.out, h1]
            exact h1
    | false =>
      have he := useful_end HG.out.ok (HZ.out rfl)
      rw [he]
      clear HZ he0
      go_wp2
      go_ret
      exact ⟨rfl, HB.out⟩
set_option maxHeartbeats 1000000 in
set_option maxRecDepth 100000 in
theorem useful_calls (A : Option Addr) (n c : Nat) (L : Nat → Int) (R : Nat → ByteArray) (w : World) (hA : Sr w A n c L R) (hg : Gr L R n) :
    Calls Tryd.prog 73 #[.slice A n c] w fun e w' => e = .returned (.int .i64 (usefulN L R n : Nat)) ∧ Below w.heap.size w w' := by
  have HC := Lib.hid (grownU_calls A n c L R w hA hg)
  clear hA hg
  go_enter Tryd.func73, Tryd.ntmps73
  go_wp2_with fail
  refine HC.out.mono ?_
  rintro e w1 ⟨rfl, hb⟩
  have HB := Lib.hid hb
  clear hb
  go_wp2
  go_ret
  exact ⟨rfl, HB.out⟩
set_option maxHeartbeats 8000000 in
set_option maxRecDepth 100000 in
theorem Useful_yes (A : Option Addr) (n c : Nat) (L : Nat → Int) (R : Nat → ByteArray) (w : World) (hA : Sr w A n c L R) (hg : Gram L R n) :
    Calls Tryd.prog 36 #[.slice A n c] w fun e w' => e = .returned (.tuple #[.int .i64 (usefulN L R n : Nat), .int .i64 0]) ∧ Below w.heap.size w w' := by
  have HA := Lib.hid hA
  have HG := Lib.hid hg
  have h8 := hg.1.2
  have h4 : ∀ k, k < n → (R k).size ≤ 1000 := fun k hk => Nat.le_trans (hg.2 k hk).sz (by decide)
  have HV := Lib.hid fun (w : World) (h : Sr w A n c L R) => valid_calls A n c L R w h (by omega) h4 true (by simp [hg])
  clear hA hg h4
  go_enter Tryd.func36, Tryd.ntmps36
  go_wp2_with fail
  refine (HV.out w HA.out).mono ?_
  rintro e w1 ⟨rfl, hb1⟩
  have HB := Lib.hid hb1
  clear hb1
  go_wp2_with fail
  refine (useful_calls A n c L R w1 (HA.out.later HB.out) HG.out.gr).mono ?_
  rintro e w2 ⟨rfl, hb2⟩
  have HB2 := Lib.hid (HB.out.trans (hb2.mono HB.out.size))
  clear hb2 HB
  go_wp2
  go_ret2
  exact ⟨rfl, HB2.out⟩
set_option maxHeartbeats 8000000 in
set_option maxRecDepth 100000 in
theorem Useful_no (A : Option Addr) (n c : Nat) (L : Nat → Int) (R : Nat → ByteArray) (w : World) (hA : Sr w A n c L R) (hn : n ≤ 1000) (hsz : ∀ k, k < n → (R k).size ≤ 1000) (hg : ¬ Gram L R n) :
    Calls Tryd.prog 36 #[.slice A n c] w fun e w' => e = .returned (.tuple #[.int .i64 0, .int .i64 2]) ∧ Below w.heap.size w w' := by
  have HA := Lib.hid hA
  have HV := Lib.hid fun (w : World) (h : Sr w A n c L R) => valid_calls A n c L R w h hn hsz false (by simp [hg])
  clear hA hg hsz
  go_enter Tryd.func36, Tryd.ntmps36
  go_wp2_with fail
  refine (HV.out w HA.out).mono ?_
  rintro e w1 ⟨rfl, hb1⟩
  have HB := Lib.hid hb1
  clear hb1
  go_wp2
  go_ret2
  exact ⟨rfl, HB.out⟩
end Go.Proofs.YtjpfalanoifpbaaDoor.X
end

section
set_option linter.unusedVariables false
namespace Go.Proofs.YtjpfalanoifpbaaDoor.T
abbrev Ru := Int × ByteArray
def bitsTo (s : ByteArray) : Nat → Nat
  | 0 => 0
  | j + 1 => if isP (ch s j) = true then bitsTo s j ||| 2 ^ pn (ch s j) else bitsTo s j
def bitsOf (s : ByteArray) : Nat := bitsTo s s.size
def rStep (e : Nat) (r : Ru) : Nat := if e.testBit (pn r.1) = true then e ||| bitsOf r.2 else e
def rTo (l : List Ru) (e : Nat) : Nat := l.foldl rStep e
def rch (b : Int) (l : List Ru) : Nat := rep (rTo l) 5 (2 ^ pn b)
def keepU (u : Nat) (l : List Ru) : List Ru := l.filter fun r => allU u r.2
def keepR (e : Nat) (l : List Ru) : List Ru := l.filter fun r => e.testBit (pn r.1)
def isB (b : Int) (r : Ru) : Bool := decide (r.1 = b)
def part (b : Int) (l : List Ru) : List Ru := l.filter (isB b) ++ l.filter fun r => !isB b r
def trimL (u : Nat) (b : Int) (l : List Ru) : List Ru := part b (keepR (rch b (keepU u l)) (keepU u l))
def rStepW (u e : Nat) (r : Ru) : Nat := if e.testBit (pn r.1) = true ∧ allU u r.2 = true then e ||| bitsOf r.2 else e
theorem fold_within (u : Nat) : ∀ (l : List Ru) (e : Nat), l.foldl (rStepW u) e = (keepU u l).foldl rStep e
  | [], e => rfl
  | r :: l, e => by
    unfold keepU
    rw [List.foldl_cons, List.filter_cons]
    by_cases h : allU u r.2 = true
    · rw [if_pos h, List.foldl_cons]
      have : rStepW u e r = rStep e r := by
        unfold rStepW rStep
        by_cases q : e.testBit (pn r.1) = true
        · rw [if_pos ⟨q, h⟩, if_pos q]
        · rw [if_neg (fun z => q z.1), if_neg q]
      rw [this]
      exact fold_within u l _
    · rw [if_neg h]
      have : rStepW u e r = e := by
        unfold rStepW
        rw [if_neg (fun z => h z.2)]
      rw [this]
      exact fold_within u l _
theorem bitsTo_lt {s : ByteArray} : ∀ j, bitsTo s j < 32
  | 0 => show (0 : Nat) < 32 by decide
  | j + 1 => by
    rw [bitsTo]
    split
    · rename_i h
      exact or_lt (bitsTo_lt j) (pp_lt h)
    · exact bitsTo_lt j
theorem rStep_lt {e : Nat} (h : e < 32) (r : Ru) : rStep e r < 32 := by
  unfold rStep
  split
  · exact or_lt h (bitsTo_lt _)
  · exact h
theorem foldl_lt {f : Nat → Ru → Nat} (hf : ∀ e r, e < 32 → f e r < 32) : ∀ (l : List Ru) {e : Nat}, e < 32 → l.foldl f e < 32
  | [], _, h => h
  | r :: l, e, h => foldl_lt hf l (hf e r h)
theorem rTo_lt (l : List Ru) {e : Nat} (h : e < 32) : rTo l e < 32 := foldl_lt (fun e r h => rStep_lt h r) l h
theorem rep_lt {f : Nat → Nat} (hf : ∀ e, e < 32 → f e < 32) : ∀ m {e : Nat}, e < 32 → rep f m e < 32
  | 0, _, h => h
  | m + 1, _, h => hf _ (rep_lt hf m h)
theorem part_snoc (b : Int) (l : List Ru) (x : Ru) : part b (l ++ [x]) = if isB b x = true then l.filter (isB b) ++ x :: l.filter (fun r => !isB b r) else part b l ++ [x] := by
  unfold part
  rw [List.filter_append, List.filter_append]
  by_cases h : isB b x = true
  · rw [if_pos h]
    simp [h]
  · rw [if_neg h]
    simp [h]
def swp (l : List Ru) (j : Nat) (x y : Ru) : List Ru := (l.set j y).set (j - 1) x
def nB (b : Int) (l : List Ru) : Nat := (l.filter (isB b)).length
theorem part_length (b : Int) (l : List Ru) : (part b l).length = l.length := by
  unfold part
  rw [List.length_append]
  induction l with
  | nil => rfl
  | cons a l ih =>
    rw [List.filter_cons, List.filter_cons]
    by_cases h : isB b a = true
    · simp [h] at ih ⊢
      omega
    · simp [h] at ih ⊢
      omega
theorem part_at {b : Int} {l : List Ru} {j : Nat} {y : Ru} (h : (part b l)[j]? = some y) : isB b y = decide (j < nB b l) := by
  unfold part at h
  unfold nB
  by_cases hj : j < (l.filter (isB b)).length
  · rw [List.getElem?_append_left hj] at h
    have := List.mem_of_getElem? h
    rw [List.mem_filter] at this
    rw [this.2, decide_eq_true hj]
  · rw [List.getElem?_append_right (by omega)] at h
    have := List.mem_of_getElem? h
    rw [List.mem_filter] at this
    rw [decide_eq_false hj]
    simpa using this.2
def down (p : List Ru) (x : Ru) (rest : List Ru) (j : Nat) : List Ru := p.take j ++ x :: (p.drop j ++ rest)
theorem down_at {p : List Ru} {x : Ru} {rest : List Ru} {j : Nat} (hj : j ≤ p.length) : (down p x rest j)[j]? = some x := by
  unfold down
  rw [List.getElem?_append_right (by rw [List.length_take]; omega)]
  simp [List.length_take, Nat.min_eq_left hj]
theorem down_before {p : List Ru} {x : Ru} {rest : List Ru} {j : Nat} (hj : j < p.length) : (down p x rest (j + 1))[j]? = p[j]? := by
  unfold down
  rw [List.getElem?_append_left (by rw [List.length_take]; omega), List.getElem?_take, if_pos (by omega)]
theorem down_swap {p : List Ru} {x y : Ru} {rest : List Ru} {j : Nat} (hy : p[j]? = some y) : swp (down p x rest (j + 1)) (j + 1) x y = down p x rest j := by
  obtain ⟨hj, hyj⟩ := List.getElem?_eq_some_iff.1 hy
  have hl : (p.take j).length = j := by rw [List.length_take]; omega
  have e1 : down p x rest (j + 1) = p.take j ++ y :: x :: (p.drop (j + 1) ++ rest) := by
    unfold down
    rw [take_succ_of hy]
    simp
  have e2 : down p x rest j = p.take j ++ x :: y :: (p.drop (j + 1) ++ rest) := by
    unfold down
    rw [List.drop_eq_getElem_cons hj, hyj]
    rfl
  unfold swp
  rw [e1, e2, Nat.add_sub_cancel, List.set_append_right _ _ (by omega), hl]
  simp only [Nat.add_sub_cancel_left, List.set_cons_succ, List.set_cons_zero]
  rw [List.set_append_right _ _ (by omega), hl]
  simp
theorem down_all {p : List Ru} {x : Ru} {rest : List Ru} : down p x rest p.length = p ++ x :: rest := by
  unfold down
  simp
theorem down_end {b : Int} {l : List Ru} {x : Ru} {rest : List Ru} (hx : isB b x = true) : down (part b l) x rest (nB b l) = part b (l ++ [x]) ++ rest := by
  rw [part_snoc, if_pos hx]
  unfold down part nB
  simp
theorem down_stay {b : Int} {l : List Ru} {x : Ru} {rest : List Ru} (hx : isB b x = false) : part b l ++ x :: rest = part b (l ++ [x]) ++ rest := by
  rw [part_snoc, if_neg (by rw [hx]; decide)]
  simp
end Go.Proofs.YtjpfalanoifpbaaDoor.T
end

section
set_option linter.unusedVariables false
set_option linter.unusedSimpArgs false
namespace Go.Proofs.YtjpfalanoifpbaaDoor.X
open Go.RowKit Go.Proofs.YtjpfalanoifpbaaDoorW.PrintWords Go.Proofs.YtjpfalanoifpbaaDoorW.PrintLast Go.Proofs.YtjpfalanoifpbaaDoorW.PrintMore Go.Proofs.YtjpfalanoifpbaaDoor.T
def okU (e : Nat) (c : Int) : Bool := !isP c || e.testBit (pn c)
theorem allU_true {e : Nat} {s : ByteArray} (h : ∀ j, j < s.size → okU e (ch s j) = true) : allU e s = true := by
  unfold allU
  rw [List.all_eq_true]
  exact fun j hj => h j (List.mem_range.1 hj)
theorem allU_false {e : Nat} {s : ByteArray} {j : Nat} (hj : j < s.size) (h : okU e (ch s j) = false) : allU e s = false := by
  rw [Bool.eq_false_iff]
  intro q
  unfold allU at q
  rw [List.all_eq_true] at q
  have := q j (List.mem_range.2 hj)
  unfold okU at h
  rw [h] at this
  cases this
theorem bit_zero2 (e k : Nat) (he : e < 32) : (bits .and .i64 ((e : Int) / 2 ^ k) 1 == 0) = !e.testBit k := by
  cases h : e.testBit k with
  | true => exact bit_zero e k he h
  | false =>
    have h1 : (e : Int) / 2 ^ k = ((e / 2 ^ k : Nat) : Int) := by simp
    have h2 : e / 2 ^ k < 32 := Nat.lt_of_le_of_lt (Nat.div_le_self _ _) he
    rw [h1, show (1 : Int) = ((1 : Nat) : Int) from rfl, and_nat (lt62 h2) (by decide), Nat.and_one_is_mod]
    rw [Nat.testBit_eq_decide_div_mod_eq] at h
    have h3 : ¬ e / 2 ^ k % 2 = 1 := of_decide_eq_false h
    have h4 : e / 2 ^ k % 2 = 0 := by omega
    rw [h4]
    rfl
set_option maxHeartbeats 4000000 in
set_option maxRecDepth 100000 in
theorem within_calls (l : Int) (s : ByteArray) (E : Nat) (w : World) (hE : E < 32) (hs : s.size ≤ 1000) :
    Calls Tryd.prog 83 #[.agg #[.int .u8 l, .string s], .int .i64 E] w fun e w' => e = .returned (.bool (allU E s)) ∧ Below w.heap.size w w' := by
  obtain ⟨X, hX⟩ : ∃ X, allU E s = X := ⟨_, rfl⟩
  rw [hX]
  have HX := Lib.hid hX
  clear hX
  go_enter Tryd.func83, Tryd.ntmps83
  go_wp2_with fail
  have hb := below_one (w := w) (.cells #[.int .u8 l, .string s] 44)
  obtain ⟨d0, d1⟩ := rule_new w 44 l s
  generalize w.alloc (.cells #[.int .u8 l, .string s] 44) = w1 at hb d0 d1 ⊢
  generalize hG : w.heap.size = G at d0 d1 ⊢
  have HB : Hid (Below w.heap.size w w1) := Lib.hid hb
  have HD := Lib.hid d1
  clear hb d0 d1
  go_loopw [9] (fun i wr => ∃ j : Nat, j ≤ s.size ∧ i = .int .i64 j ∧ wr = w1 ∧ Hid (∀ q, q < j → okU E (ch s q) = true)) (fun i _ => s.size - (intOf i).toNat)
  case atStart => exact ⟨0, by omega, rfl, rfl, Lib.hid (fun q hq => by omega)⟩
  case round =>
    obtain ⟨j, hj, rfl, rfl, HQ⟩ := hrel
    have d1 := HD.out
    by_cases hjs : j < s.size
    · have hbt : (((s[j]'hjs).toNat : Nat) : Int) = ch s j := ch_at s j hjs
      have HNX := Lib.hid (show okU E (ch s j) = true → ∀ q, q < j + 1 → okU E (ch s q) = true from fun h q hq => by
        by_cases e : q = j
        · rw [e]
          exact h
        · exact HQ.out q (by omega))
      have HNO := Lib.hid (fun h => HX.out.symm.trans (allU_false (e := E) hjs h))
      obtain ⟨x, hx⟩ : ∃ x, ch s j = x := ⟨_, rfl⟩
      rw [hx] at hbt HNX HNO
      clear hx
      go_wp2_with fail
      refine (part_calls x _).mono ?_
      rintro r w2 ⟨rfl, rfl⟩
      cases hp : isP x with
      | false =>
        have HO := Lib.hid (HNX.out (by unfold okU; rw [hp]; rfl))
        go_wp2_with fail
        refine ⟨⟨j + 1, by omega, by go_num, by trivial, HO⟩, by simp [intOf]; omega⟩
      | true =>
        have HP := Lib.hid hp
        have h5 := isP_iff.1 hp
        obtain ⟨q, rfl⟩ : ∃ q : Nat, x = (q : Int) + 65 := ⟨(x - 65).toNat, by omega⟩
        have hq : q ≤ 4 := by omega
        have e2 := u8_part hq
        have hb := bit_zero2 E q hE
        have HK : Hid (okU E ((q : Int) + 65) = E.testBit q) := Lib.hid (by
          unfold okU
          rw [HP.out, show pn ((q : Int) + 65) = q by unfold pn; omega]
          rfl)
        clear hp
        cases ht : E.testBit q with
        | true =>
          rw [ht] at hb
          have HO := Lib.hid (HNX.out (HK.out.trans ht))
          clear ht
          go_wp2_with fail
          refine ⟨⟨j + 1, by omega, by go_num, by trivial, HO⟩, by simp [intOf]; omega⟩
        | false =>
          rw [ht] at hb
          have HO := Lib.hid (HNO.out (HK.out.trans ht))
          clear ht
          go_wp2_with fail
          go_ret
          rw [HO.out]
          exact ⟨rfl, HB.out⟩
    · obtain rfl : j = s.size := by omega
      have HO := Lib.hid (HX.out.symm.trans (allU_true HQ.out))
      go_wp2
      go_ret
      rw [HO.out]
      exact ⟨rfl, HB.out⟩
set_option maxHeartbeats 8000000 in
set_option maxRecDepth 100000 in
theorem rUseful_calls (A : Option Addr) (n c : Nat) (L : Nat → Int) (R : Nat → ByteArray) (w : World) (hA : Sr w A n c L R) (hg : Gr L R n) :
    Calls Tryd.prog 39 #[.slice A n c] w fun e w' => e = .returned (.int .i64 (usefulN L R n : Nat)) ∧ Below w.heap.size w w' := by
  obtain ⟨b, off, rfl, hnc, hP⟩ := hA.open hg.n1
  have HP := Lib.hid hP
  have HG := Lib.hid hg
  have hn8 := hg.n8
  clear hA hP hg
  go_enter Tryd.func39, Tryd.ntmps39
  go_wp2_with fail
  have HB := Lib.hid (Below.refl w.heap.size w)
  go_loopw [6, 3] (fun i v wr => ∃ m : Nat, m ≤ 5 ∧ i = .int .i64 m ∧ v = .int .i64 (rep (fun e => uTo L R e n) m 0 : Nat) ∧ Hid (Below w.heap.size w wr)) (fun i _ _ => 5 - (intOf i).toNat)
  case atStart => exact ⟨0, by omega, rfl, rfl, HB⟩
  case round =>
    clear HB
    obtain ⟨m, hm, rfl, rfl, HB⟩ := hrel
    by_cases hlt : m < 5
    · obtain ⟨e0, he0⟩ : ∃ e0, rep (fun e => uTo L R e n) m 0 = e0 := ⟨_, rfl⟩
      have hel : e0 < 32 := by rw [← he0]; exact useful_lt HG.out.ok m
      rw [he0]
      have HE0 := Lib.hid he0
      have hltI : (m : Int) < 5 := by omega
      clear he0
      go_wp2_with fail
      go_loopw [10, 3] (fun i v wr => ∃ k : Nat, k ≤ n ∧ i = .int .i64 k ∧ v = .int .i64 (uTo L R e0 k : Nat) ∧ Hid (Below w.heap.size w wr)) (fun i _ _ => n - (intOf i).toNat)
      case atStart => exact ⟨0, by omega, rfl, rfl, HB⟩
      case round =>
        clear HB
        obtain ⟨k, hk, rfl, rfl, HB⟩ := hrel
        by_cases hkn : k < n
        · have hkI : (k : Int) < (n : Int) := by omega
          have c0 := (HP.out.later HB.out).c0 k hkn
          have c1 := (HP.out.later HB.out).c1 k hkn
          obtain ⟨e1, he1⟩ : ∃ e1, uTo L R e0 k = e1 := ⟨_, rfl⟩
          have he1l : e1 < 32 := by rw [← he1]; exact uTo_lt HG.out.ok hel k hk
          rw [he1]
          obtain ⟨l, hl⟩ : ∃ l, L k = l := ⟨_, rfl⟩
          obtain ⟨s, hs⟩ : ∃ s, R k = s := ⟨_, rfl⟩
          have hsz : s.size ≤ 4 := by rw [← hs]; exact HG.out.sz k hkn
          have hlp : isP l = true := by rw [← hl]; exact (HG.out.ok k hkn).1
          have HS1 : Hid (uTo L R e0 (k + 1) = if allU e1 s = true then e1 ||| 2 ^ pn l else e1) := Lib.hid (by rw [uTo, he1, hl, hs])
          rw [hl] at c0
          rw [hs] at c1
          have hkc : k < c := by omega
          have h5 := isP_iff.1 hlp
          obtain ⟨j, rfl⟩ : ∃ j : Nat, l = (j : Int) + 65 := ⟨(l - 65).toNat, by omega⟩
          have hj : j ≤ 4 := by omega
          rw [show pn ((j : Int) + 65) = j by unfold pn; omega] at HS1
          have hu := u8_part hj
          have ho := or_pow he1l hj
          clear hl hs he1
          go_wp2_with fail
          have hbA := below_one (w := wr) (.cells #[.int .u8 ((j : Int) + 65), .string s] 44)
          obtain ⟨d0, d1⟩ := rule_new wr 44 ((j : Int) + 65) s
          have HBA := Lib.hid (HB.out.trans (hbA.mono HB.out.size))
          obtain ⟨w1, hw1⟩ : ∃ w1, w1 = wr.alloc (.cells #[.int .u8 ((j : Int) + 65), .string s] 44) := ⟨_, rfl⟩
          have hlt1 : wr.heap.size < w1.heap.size := by rw [hw1]; simp
          rw [← hw1] at d0 d1 HBA ⊢
          have HD0 := Lib.hid d0
          have HLT := Lib.hid hlt1
          clear hw1 hbA c0 c1 HB d0 d1 hlt1
          generalize wr.heap.size = G at HD0 HLT ⊢
          refine (within_calls ((j : Int) + 65) s e1 w1 he1l (by omega)).mono ?_
          rintro r w2 ⟨rfl, hb2⟩
          have HB2 := Lib.hid (HBA.out.trans (hb2.mono HBA.out.size))
          have d0 := (hb2.cell (p := ⟨G, 0, none⟩) HLT.out).trans HD0.out
          clear hb2
          cases ha : allU e1 s with
          | true =>
            have HS2 := Lib.hid (HS1.out.trans (if_pos ha))
            clear ha
            go_wp2_with fail
            refine ⟨⟨k + 1, by omega, by go_num, by rw [HS2.out], HB2⟩, by simp [intOf]; omega⟩
          | false =>
            have HS2 := Lib.hid (HS1.out.trans (if_neg (by rw [ha]; decide)))
            clear ha
            go_wp2_with fail
            refine ⟨⟨k + 1, by omega, by go_num, by rw [HS2.out], HB2⟩, by simp [intOf]; omega⟩
        · obtain rfl : k = n := by omega
          go_wp2_with fail
          refine ⟨⟨m + 1, by omega, by go_num, by rw [rep, HE0.out], HB⟩, by simp [intOf]; omega⟩
    · obtain rfl : m = 5 := by omega
      go_wp2
      go_ret
      exact ⟨rfl, HB.out⟩
end Go.Proofs.YtjpfalanoifpbaaDoor.X
end

section
set_option linter.unusedVariables false
set_option linter.unusedSimpArgs false
namespace Go.Proofs.YtjpfalanoifpbaaDoor.X
open Go.RowKit Go.Proofs.YtjpfalanoifpbaaDoorW.PrintWords Go.Proofs.YtjpfalanoifpbaaDoorW.PrintLast Go.Proofs.YtjpfalanoifpbaaDoorW.PrintMore Go.Proofs.YtjpfalanoifpbaaDoor.T
abbrev KR : Kd Ru := Kd.pair (Kd.int .u8) Kd.string
def lL (l : List Ru) (i : Nat) : Int := (l.getD i (0, ByteArray.empty)).1
def lR (l : List Ru) (i : Nat) : ByteArray := (l.getD i (0, ByteArray.empty)).2
theorem kr_cells {w : World} {p : Ru} {c : List Value} (h : KR.K w p c) : c = [.int .u8 p.1, .string p.2] := by
  obtain ⟨c0, c1, rfl, h0, h1⟩ := h
  rw [show c0 = [.int .u8 p.1] from h0, show c1 = [.string p.2] from h1]
  rfl
theorem kr_sr {w : World} {A : Option Addr} {n c : Nat} {l : List Ru} (h : KR.C w A n l) (hc : n ≤ c) : Sr w A n c (lL l) (lR l) := by
  rcases Nat.eq_zero_or_pos n with h0 | h0
  · exact .inl h0
  · obtain ⟨ad, rfl, hr⟩ := h.2.2 h0
    have hl : l.length = n := h.1
    have key : ∀ j, j < n → w.cell? (ad.add (j * 2)) = some (.int .u8 (lL l j)) ∧ w.cell? (ad.add (j * 2 + 1)) = some (.string (lR l j)) := fun j hj => by
      have hp : l[j]? = some (l[j]'(by omega)) := List.getElem?_eq_getElem (by omega)
      obtain ⟨cs, hs, hk, hcell⟩ := hr j _ hp
      have e := kr_cells hk
      subst e
      unfold lL lR
      rw [List.getD_eq_getElem?_getD, hp]
      exact ⟨hcell 0 _ rfl, hcell 1 _ rfl⟩
    have hsp : ad.spot = none := by
      have := (key 0 h0).1
      rw [show ad.add (0 * 2) = ad by simp [Addr.add]] at this
      exact World.cell?_spot this
    have ha : ∀ j, ad.add j = ⟨ad.block, ad.off + j, none⟩ := fun j => by
      unfold Addr.add
      by_cases hj : j = 0
      · subst hj
        rw [if_pos rfl, ← hsp]
        simp
      · rw [if_neg hj]
    refine .inr ⟨ad.block, ad.off, by rw [← hsp], hc, fun i hi => ?_, fun i hi => ?_⟩
    · rw [← ha]; exact (key i hi).1
    · rw [Nat.add_assoc, ← ha]; exact (key i hi).2
def rulesL (L : Nat → Int) (R : Nat → ByteArray) (n : Nat) : List Ru := (List.range n).map fun k => (L k, R k)
theorem rulesL_len (L : Nat → Int) (R : Nat → ByteArray) (n : Nat) : (rulesL L R n).length = n := by simp [rulesL]
theorem rulesL_succ (L : Nat → Int) (R : Nat → ByteArray) (n : Nat) : rulesL L R (n + 1) = rulesL L R n ++ [(L n, R n)] := by
  unfold rulesL
  rw [List.range_succ, List.map_append]
  rfl
theorem rr_sr {ty B : Nat} {w : World} {ok : Nat → Prop} {v : Value} {l : List Ru} (h : Kd.R KR ty w B ok v l) : ∃ A c, v = .slice A l.length c ∧ Sr w A l.length c (lL l) (lR l) := by
  obtain ⟨A, c, rfl, hc, hC⟩ := Kd.R_reads h
  exact ⟨A, c, rfl, kr_sr hC hc⟩
end Go.Proofs.YtjpfalanoifpbaaDoor.X
end

section
set_option linter.unusedVariables false
set_option linter.unusedSimpArgs false
namespace Go.Proofs.YtjpfalanoifpbaaDoor.X
open Go.RowKit Go.Proofs.YtjpfalanoifpbaaDoorW.PrintWords Go.Proofs.YtjpfalanoifpbaaDoorW.PrintLast Go.Proofs.YtjpfalanoifpbaaDoorW.PrintMore Go.Proofs.YtjpfalanoifpbaaDoor.T
abbrev RR (ty B : Nat) (w : World) (v : Value) (l : List Ru) : Prop := Kd.R KR ty w B (fun _ => True) v l
theorem rr_self {ty B : Nat} {w : World} {ok : Nat → Prop} {v : Value} {l : List Ru} (h : Kd.R KR ty w B ok v l) : Kd.R KR ty w B (fun k => v.ownBlock = some k) v l := ⟨fun k hk => hk, h.2⟩
theorem rr_of {ty B : Nat} {w : World} {ok : Nat → Prop} {v : Value} {l : List Ru} (h : Kd.R KR ty w B ok v l) : RR ty B w v l := Kd.R_mono h (fun _ _ => trivial)
theorem rr_step {ty B : Nat} {w w1 : World} {v : Value} {l : List Ru} (h : RR ty B w v l) {row : Option Nat} (hg : w.grownBy w1 row) (hne : ∀ k, v.ownBlock = some k → some k ≠ row) : RR ty B w1 v l := rr_of (Kd.R_step (rr_self h) (fun k hk hlt => hg.block k hlt (hne k hk)))
theorem rr_below {ty B : Nat} {w w1 : World} {v : Value} {l : List Ru} (h : RR ty B w v l) (hb : Below w.heap.size w w1) : RR ty B w1 v l := Kd.R_below h hb
structure Br (ty : Nat) (w0 w : World) (v1 : Value) (l1 : List Ru) (v2 : Value) (l2 : List Ru) : Prop where
  a : RR ty w0.heap.size w v1 l1
  b : RR ty w0.heap.size w v2 l2
  ne : ∀ k, v1.ownBlock = some k → v2.ownBlock ≠ some k
  bl : Below w0.heap.size w0 w
theorem Br.later {ty : Nat} {w0 w w1 : World} {v1 v2 : Value} {l1 l2 : List Ru} (h : Br ty w0 w v1 l1 v2 l2) (hb : Below w.heap.size w w1) : Br ty w0 w1 v1 l1 v2 l2 :=
  ⟨rr_below h.a hb, rr_below h.b hb, h.ne, h.bl.trans (hb.mono h.bl.size)⟩
theorem Br.push2 {ty : Nat} {w0 w w1 : World} {v1 v2 v3 : Value} {l1 l2 l3 : List Ru} (h : Br ty w0 w v1 l1 v2 l2) (hv : RR ty w0.heap.size w1 v3 l3) (hb : Below w0.heap.size w0 w1) (hg : w.grownBy w1 v2.ownBlock) (hat : v3.ownBlock = v2.ownBlock ∨ ∃ b, v3.ownBlock = some b ∧ w.heap.size ≤ b) : Br ty w0 w1 v1 l1 v3 l3 := by
  refine ⟨rr_step h.a hg (fun k hk e => h.ne k hk e.symm), hv, fun k hk => ?_, hb⟩
  rcases hat with e | ⟨b, e, hle⟩
  · rw [e]
    exact h.ne k hk
  · rw [e]
    have := Kd.R_lt h.a k hk
    intro q
    injection q with q
    omega
theorem Br.push1 {ty : Nat} {w0 w w1 : World} {v1 v2 v3 : Value} {l1 l2 l3 : List Ru} (h : Br ty w0 w v1 l1 v2 l2) (hv : RR ty w0.heap.size w1 v3 l3) (hb : Below w0.heap.size w0 w1) (hg : w.grownBy w1 v1.ownBlock) (hat : v3.ownBlock = v1.ownBlock ∨ ∃ b, v3.ownBlock = some b ∧ w.heap.size ≤ b) : Br ty w0 w1 v3 l3 v2 l2 := by
  refine ⟨hv, rr_step h.b hg (fun k hk e => h.ne k e.symm hk), fun k hk => ?_, hb⟩
  rcases hat with e | ⟨b, e, hle⟩
  · rw [e] at hk
    exact h.ne k hk
  · rw [e] at hk
    injection hk with hk
    intro q
    have := Kd.R_lt h.b k q
    omega
theorem info44 : (Tryd.prog.info? 44).map (fun i => (i.zero, i.size, i.bytes)) = some (some (.agg #[.int .u8 0, .string ByteArray.empty]), 2, 24) := by kernel_rfl
def fW (L : Nat → Int) (R : Nat → ByteArray) (u e k : Nat) : Nat := (rulesL L R k).foldl (rStepW u) e
theorem fW_succ (L : Nat → Int) (R : Nat → ByteArray) (u e k : Nat) : fW L R u e (k + 1) = rStepW u (fW L R u e k) (L k, R k) := by
  unfold fW
  rw [rulesL_succ, List.foldl_append]
  rfl
theorem rStepW_lt {u e : Nat} (h : e < 32) (r : Ru) : rStepW u e r < 32 := by
  unfold rStepW
  split
  · exact or_lt h (bitsTo_lt _)
  · exact h
theorem fW_lt (L : Nat → Int) (R : Nat → ByteArray) (u : Nat) {e : Nat} (h : e < 32) : ∀ k, fW L R u e k < 32
  | 0 => h
  | k + 1 => by
    rw [fW_succ]
    exact rStepW_lt (fW_lt L R u h k) _
theorem fW_rTo (L : Nat → Int) (R : Nat → ByteArray) (u e n : Nat) : fW L R u e n = rTo (keepU u (rulesL L R n)) e := fold_within u _ e
def lW (u e : Nat) (l : Int) (s : ByteArray) (j : Nat) : Nat := if e.testBit (pn l) = true ∧ allU u s = true then e ||| bitsTo s j else e
theorem lW_end (u e : Nat) (l : Int) (s : ByteArray) : lW u e l s s.size = rStepW u e (l, s) := rfl
theorem lW_zero (u e : Nat) (l : Int) (s : ByteArray) : lW u e l s 0 = e := by
  unfold lW bitsTo
  split
  · exact Nat.or_zero _
  · rfl
theorem lW_lt {u e : Nat} (h : e < 32) (l : Int) (s : ByteArray) (j : Nat) : lW u e l s j < 32 := by
  unfold lW
  split
  · exact or_lt h (bitsTo_lt _)
  · exact h
theorem lW_bit (u e : Nat) (l : Int) (s : ByteArray) (j : Nat) : (lW u e l s j).testBit (pn l) = e.testBit (pn l) := by
  unfold lW
  split
  · rename_i h
    rw [Nat.testBit_or, h.1, Bool.true_or]
  · rfl
theorem lW_succ (u e : Nat) (l : Int) (s : ByteArray) (j : Nat) : lW u e l s (j + 1) = if e.testBit (pn l) = true ∧ allU u s = true ∧ isP (ch s j) = true then lW u e l s j ||| 2 ^ pn (ch s j) else lW u e l s j := by
  unfold lW
  by_cases h1 : e.testBit (pn l) = true ∧ allU u s = true
  · rw [if_pos h1, if_pos h1, bitsTo]
    by_cases h2 : isP (ch s j) = true
    · rw [if_pos h2, if_pos ⟨h1.1, h1.2, h2⟩, Nat.or_assoc]
    · rw [if_neg h2, if_neg (fun q => h2 q.2.2)]
  · rw [if_neg h1, if_neg h1, if_neg (fun q => h1 ⟨q.1, q.2.1⟩)]
def stays (u e : Nat) (r : Ru) : Bool := allU u r.2 && e.testBit (pn r.1)
theorem keep_both (u e : Nat) (l : List Ru) : keepR e (keepU u l) = l.filter (stays u e) := by
  unfold keepR keepU stays
  rw [List.filter_filter]
  congr 1
  funext r
  exact Bool.and_comm _ _
end Go.Proofs.YtjpfalanoifpbaaDoor.X
end

section
set_option linter.unusedVariables false
set_option linter.unusedSimpArgs false
namespace Go.Proofs.YtjpfalanoifpbaaDoor.X
open Go.RowKit Go.Proofs.YtjpfalanoifpbaaDoorW.PrintWords Go.Proofs.YtjpfalanoifpbaaDoorW.PrintLast Go.Proofs.YtjpfalanoifpbaaDoorW.PrintMore Go.Proofs.YtjpfalanoifpbaaDoor.T
set_option maxHeartbeats 4000000 in
set_option maxRecDepth 100000 in
theorem rTrim_none (A : Option Addr) (n c : Nat) (L : Nat → Int) (R : Nat → ByteArray) (w : World) (hA : Sr w A n c L R) (hg : Gr L R n) (hu : (usefulN L R n).testBit (pn (L 0)) = false) :
    Calls Tryd.prog 38 #[.slice A n c] w fun e w' => e = .returned (.tuple #[.slice none 0 0, .int .i64 4]) ∧ Below w.heap.size w w' := by
  obtain ⟨b, off, rfl, hnc, hP⟩ := hA.open hg.n1
  have HP := Lib.hid hP
  have hn1 := hg.n1
  have HC := Lib.hid (rUseful_calls _ n c L R w hA hg)
  have h32 := useful_lt hg.ok 5
  have hl := isP_iff.1 (hg.ok 0 hg.n1).1
  obtain ⟨l0, hl0e⟩ : ∃ l0, L 0 = l0 := ⟨_, rfl⟩
  rw [hl0e] at hl hu
  obtain ⟨u, hue⟩ : ∃ u, usefulN L R n = u := ⟨_, rfl⟩
  have h32u : u < 32 := by rw [← hue]; exact h32
  rw [hue] at HC hu
  have HL0 := Lib.hid hl0e
  clear hA hP hg h32 hue hl0e
  obtain ⟨p, rfl⟩ : ∃ p : Nat, l0 = (p : Int) + 65 := ⟨(l0 - 65).toNat, by omega⟩
  have hp4 : p ≤ 4 := by omega
  have e2 := u8_part hp4
  rw [show pn ((p : Int) + 65) = p by unfold pn; omega] at hu
  have hb := bit_zero2 u p h32u
  rw [hu] at hb
  have hc1 : 0 < c := by omega
  clear hu
  go_enter Tryd.func38, Tryd.ntmps38
  go_wp2_with fail
  refine HC.out.mono ?_
  rintro e w1 ⟨rfl, hb1⟩
  have HB := Lib.hid hb1
  have c0 := (HP.out.later hb1).c0 0 hn1
  rw [HL0.out] at c0
  simp only [Nat.zero_mul, Nat.add_zero] at c0
  clear hb1
  go_wp2
  go_ret2
  exact ⟨rfl, HB.out⟩
set_option maxHeartbeats 16000000 in
set_option maxRecDepth 100000 in
theorem rTrim_some (A : Option Addr) (n c : Nat) (L : Nat → Int) (R : Nat → ByteArray) (w : World) (hA : Sr w A n c L R) (hg : Gr L R n) (hu : (usefulN L R n).testBit (pn (L 0)) = true) :
    Calls Tryd.prog 38 #[.slice A n c] w fun e w' => (∃ v, e = .returned (.tuple #[v, .int .i64 0]) ∧ RR 44 w.heap.size w' v (trimL (usefulN L R n) (L 0) (rulesL L R n))) ∧ Below w.heap.size w w' := by
  obtain ⟨b, off, rfl, hnc, hP⟩ := hA.open hg.n1
  have HP := Lib.hid hP
  have HG := Lib.hid hg
  have hn1 := hg.n1
  have hn8 := hg.n8
  have HC := Lib.hid (rUseful_calls _ n c L R w hA hg)
  have h32 := useful_lt hg.ok 5
  have hl := isP_iff.1 (hg.ok 0 hg.n1).1
  obtain ⟨X, hX⟩ : ∃ X, trimL (usefulN L R n) (L 0) (rulesL L R n) = X := ⟨_, rfl⟩
  rw [hX]
  obtain ⟨l0, hl0e⟩ : ∃ l0, L 0 = l0 := ⟨_, rfl⟩
  rw [hl0e] at hl hu hX
  obtain ⟨u, hue⟩ : ∃ u, usefulN L R n = u := ⟨_, rfl⟩
  have h32u : u < 32 := by rw [← hue]; exact h32
  rw [hue] at HC hu hX
  have HL0 := Lib.hid hl0e
  have hbP : isP l0 = true := isP_iff.2 hl
  have HX : Hid (T.part l0 ((rulesL L R n).filter (stays u (rep (fun e => fW L R u e n) 5 (2 ^ pn l0)))) = X) := Lib.hid (by
    rw [← hX]
    unfold trimL rch
    rw [← keep_both]
    have : (fun e => fW L R u e n) = rTo (keepU u (rulesL L R n)) := funext fun e => fW_rTo L R u e n
    rw [this])
  have HPB := Lib.hid (pp_lt hbP)
  clear hA hP hg h32 hue hl0e hX
  obtain ⟨p, rfl⟩ : ∃ p : Nat, l0 = (p : Int) + 65 := ⟨(l0 - 65).toNat, by omega⟩
  have hp4 : p ≤ 4 := by omega
  have e2 := u8_part hp4
  have hpn : pn ((p : Int) + 65) = p := by unfold pn; omega
  rw [hpn] at hu HX HPB
  have hb := bit_zero2 u p h32u
  rw [hu] at hb
  have hc1 : 0 < c := by omega
  have HPS := Lib.hid (pow_small hp4)
  clear hu hpn hbP
  go_enter Tryd.func38, Tryd.ntmps38
  go_wp2_with fail
  refine HC.out.mono ?_
  rintro e w1 ⟨rfl, hb1⟩
  have HB := Lib.hid hb1
  have c0 := (HP.out.later hb1).c0 0 hn1
  rw [HL0.out] at c0
  simp only [Nat.zero_mul, Nat.add_zero] at c0
  clear hb1
  go_wp2_with fail
  clear c0
  go_loopw [30, 5] (fun i v wr => ∃ m : Nat, m ≤ 5 ∧ i = .int .i64 m ∧ v = .int .i64 (rep (fun e => fW L R u e n) m (2 ^ p) : Nat) ∧ Hid (Below w.heap.size w wr)) (fun i _ _ => 5 - (intOf i).toNat)
  case atStart => exact ⟨0, by omega, rfl, by show Value.int .i64 (wrap64 (2 ^ p)) = Value.int .i64 ((2 ^ p : Nat) : Int); rw [HPS.out], HB⟩
  case round =>
    clear HB
    obtain ⟨m, hm, rfl, rfl, HB⟩ := hrel
    obtain ⟨e0, he0⟩ : ∃ e0, rep (fun e => fW L R u e n) m (2 ^ p) = e0 := ⟨_, rfl⟩
    have hel : e0 < 32 := by rw [← he0]; exact rep_lt (fun e h => fW_lt L R u h n) m HPB.out
    rw [he0]
    have HE0 := Lib.hid he0
    clear he0
    by_cases hlt : m < 5
    · have hltI : (m : Int) < 5 := by omega
      go_wp2_with fail
      go_loopw [34, 5] (fun i v wr => ∃ k : Nat, k ≤ n ∧ i = .int .i64 k ∧ v = .int .i64 (fW L R u e0 k : Nat) ∧ Hid (Below w.heap.size w wr)) (fun i _ _ => n - (intOf i).toNat)
      case atStart => exact ⟨0, by omega, rfl, rfl, HB⟩
      case round =>
        clear HB
        obtain ⟨k, hk, rfl, rfl, HB⟩ := hrel
        by_cases hkn : k < n
        · have hkI : (k : Int) < (n : Int) := by omega
          have c0 := (HP.out.later HB.out).c0 k hkn
          have c1 := (HP.out.later HB.out).c1 k hkn
          obtain ⟨e1, he1⟩ : ∃ e1, fW L R u e0 k = e1 := ⟨_, rfl⟩
          have he1l : e1 < 32 := by rw [← he1]; exact fW_lt L R u hel k
          rw [he1]
          obtain ⟨l, hl⟩ : ∃ l, L k = l := ⟨_, rfl⟩
          obtain ⟨s, hs⟩ : ∃ s, R k = s := ⟨_, rfl⟩
          have hsz : s.size ≤ 4 := by rw [← hs]; exact HG.out.sz k hkn
          have hlp : isP l = true := by rw [← hl]; exact (HG.out.ok k hkn).1
          have HS1 : Hid (fW L R u e0 (k + 1) = lW u e1 l s s.size) := Lib.hid (by rw [fW_succ, he1, hl, hs, lW_end])
          rw [hl] at c0
          rw [hs] at c1
          have hkc : k < c := by omega
          have h5 := isP_iff.1 hlp
          obtain ⟨j0, rfl⟩ : ∃ j0 : Nat, l = (j0 : Int) + 65 := ⟨(l - 65).toNat, by omega⟩
          have hj0 : j0 ≤ 4 := by omega
          have hu0 := u8_part hj0
          have HPN := Lib.hid (show pn ((j0 : Int) + 65) = j0 by unfold pn; omega)
          clear hl hs he1
          go_wp2_with fail
          have hbA := below_one (w := wr) (.cells #[.int .u8 ((j0 : Int) + 65), .string s] 44)
          obtain ⟨d0, d1⟩ := rule_new wr 44 ((j0 : Int) + 65) s
          have HBA := Lib.hid (HB.out.trans (hbA.mono HB.out.size))
          obtain ⟨w1, hw1⟩ : ∃ w1, w1 = wr.alloc (.cells #[.int .u8 ((j0 : Int) + 65), .string s] 44) := ⟨_, rfl⟩
          have hlt1 : wr.heap.size < w1.heap.size := by rw [hw1]; simp
          rw [← hw1] at d0 d1 HBA ⊢
          have HD := Lib.hid (And.intro d0 d1)
          clear hw1 hbA c0 c1 HB d0 d1 hlt1
          generalize wr.heap.size = G at HD ⊢
          go_loopw [41, 5] (fun i v wr => ∃ j : Nat, j ≤ s.size ∧ i = .int .i64 j ∧ v = .int .i64 (lW u e1 ((j0 : Int) + 65) s j : Nat) ∧ Hid (Below w.heap.size w wr) ∧ Hid (wr.cell? ⟨G, 0, none⟩ = some (.int .u8 ((j0 : Int) + 65)) ∧ wr.cell? ⟨G, 1, none⟩ = some (.string s))) (fun i _ _ => s.size - (intOf i).toNat)
          case atStart => exact ⟨0, by omega, rfl, by rw [lW_zero], HBA, HD⟩
          case round =>
            clear HBA HD
            obtain ⟨j, hj, rfl, rfl, HB, HD⟩ := hrel
            obtain ⟨d0, d1⟩ := HD.out
            by_cases hjs : j < s.size
            · have hjI : (j : Int) < (s.size : Int) := by omega
              have hbt : (((s[j]'hjs).toNat : Nat) : Int) = ch s j := ch_at s j hjs
              have hsu := lW_succ u e1 ((j0 : Int) + 65) s j
              obtain ⟨q, hq⟩ : ∃ q, lW u e1 ((j0 : Int) + 65) s j = q := ⟨_, rfl⟩
              have hql : q < 32 := by rw [← hq]; exact lW_lt he1l _ _ _
              have hqb := bit_at q j0 hql
              have hqe : q.testBit j0 = e1.testBit j0 := by
                have := lW_bit u e1 ((j0 : Int) + 65) s j
                rw [hq, HPN.out] at this
                exact this
              rw [hqe] at hqb
              rw [hq] at hsu ⊢
              rw [HPN.out] at hsu
              obtain ⟨x, hx⟩ : ∃ x, ch s j = x := ⟨_, rfl⟩
              rw [hx] at hbt hsu
              have HSU := Lib.hid hsu
              have HEND : Hid (j + 1 ≤ s.size ∧ s.size - (intOf (.int .i64 ((j : Int) + 1))).toNat < s.size - (intOf (.int .i64 (j : Int))).toNat) := Lib.hid ⟨by omega, by simp [intOf]; omega⟩
              clear hq hqe hx hsu
              cases ht : e1.testBit j0 with
              | false =>
                rw [ht] at hqb
                have HS2 := Lib.hid (HSU.out.trans (if_neg (fun z => by rw [ht] at z; cases z.1)))
                clear ht
                go_wp2_with fail
                refine ⟨⟨j + 1, HEND.out.1, by go_num, by rw [HS2.out], HB, HD⟩, HEND.out.2⟩
              | true =>
                rw [ht] at hqb
                have HT := Lib.hid ht
                clear ht
                go_wp2_with fail
                refine (within_calls ((j0 : Int) + 65) s u wr h32u (by omega)).mono ?_
                rintro r w2 ⟨rfl, hb2⟩
                have HB2 := Lib.hid (HB.out.trans (hb2.mono HB.out.size))
                have f0 := (hb2.cell (p := ⟨G, 0, none⟩) (World.block_lt_of_cell? _ _ d0)).trans d0
                have f1 := (hb2.cell (p := ⟨G, 1, none⟩) (World.block_lt_of_cell? _ _ d1)).trans d1
                have HD2 := Lib.hid (And.intro f0 f1)
                clear hb2 d0 d1 HD
                cases ha : allU u s with
                | false =>
                  have HS2 := Lib.hid (HSU.out.trans (if_neg (fun z => by rw [ha] at z; cases z.2.1)))
                  clear ha
                  go_wp2_with fail
                  refine ⟨⟨j + 1, HEND.out.1, by go_num, by rw [HS2.out], HB2, HD2⟩, HEND.out.2⟩
                | true =>
                  have HAA := Lib.hid ha
                  clear ha
                  go_wp2_with fail
                  refine (part_calls x w2).mono ?_
                  rintro r w3 ⟨rfl, rfl⟩
                  cases hp : isP x with
                  | false =>
                    have HS2 := Lib.hid (HSU.out.trans (if_neg (fun z => by rw [hp] at z; cases z.2.2)))
                    clear hp
                    go_wp2_with fail
                    refine ⟨⟨j + 1, HEND.out.1, by go_num, by rw [HS2.out], HB2, HD2⟩, HEND.out.2⟩
                  | true =>
                    have HS2 := Lib.hid (HSU.out.trans (if_pos ⟨HT.out, HAA.out, hp⟩))
                    have hx5 := isP_iff.1 hp
                    obtain ⟨y, rfl⟩ : ∃ y : Nat, x = (y : Int) + 65 := ⟨(x - 65).toNat, by omega⟩
                    have hy4 : y ≤ 4 := by omega
                    have ey := u8_part hy4
                    have hor := or_pow hql hy4
                    rw [show pn ((y : Int) + 65) = y by unfold pn; omega] at HS2
                    clear hp
                    go_wp2_with fail
                    refine ⟨⟨j + 1, HEND.out.1, by go_num, by rw [HS2.out], HB2, HD2⟩, HEND.out.2⟩
            · obtain rfl : j = s.size := by omega
              go_wp2_with fail
              refine ⟨⟨k + 1, by omega, by go_num, by rw [HS1.out], HB⟩, by simp [intOf]; omega⟩
        · obtain rfl : k = n := by omega
          go_wp2_with fail
          refine ⟨⟨m + 1, by omega, by go_num, by rw [rep, HE0.out], HB⟩, by simp [intOf]; omega⟩
    · have hm5 : m = 5 := by omega
      have HE5 : Hid (rep (fun e => fW L R u e n) 5 (2 ^ p) = e0) := Lib.hid (by rw [← hm5]; exact HE0.out)
      rw [HE5.out] at HX
      have hltI : ¬ (m : Int) < 5 := by omega
      clear hm5
      go_wp2_with fail
      have HBR : Hid (Br 44 w wr (.slice none 0 0) (((rulesL L R 0).filter (stays u e0)).filter (isB ((p : Int) + 65))) (.slice none 0 0) (((rulesL L R 0).filter (stays u e0)).filter fun r => !isB ((p : Int) + 65) r)) := Lib.hid ⟨Kd.R_nil _ _ _ _ _, Kd.R_nil _ _ _ _ _, fun k _ => by simp [Value.ownBlock], HB.out⟩
      clear HB
      go_loopw [76, 9, 10] (fun i v9 v10 wr => ∃ k : Nat, k ≤ n ∧ i = .int .i64 k ∧ Hid (Br 44 w wr v9 (((rulesL L R k).filter (stays u e0)).filter (isB ((p : Int) + 65))) v10 (((rulesL L R k).filter (stays u e0)).filter fun r => !isB ((p : Int) + 65) r))) (fun i _ _ _ => n - (intOf i).toNat)
      case atStart => exact ⟨0, by omega, rfl, HBR⟩
      case round =>
        clear HBR
        obtain ⟨k, hk, rfl, HBR⟩ := hrel
        by_cases hkn : k < n
        · have hkI : (k : Int) < (n : Int) := by omega
          have hl1 := rulesL_len L R k
          have c0 := (HP.out.later HBR.out.bl).c0 k hkn
          have c1 := (HP.out.later HBR.out.bl).c1 k hkn
          obtain ⟨l, hl⟩ : ∃ l, L k = l := ⟨_, rfl⟩
          obtain ⟨s, hs⟩ : ∃ s, R k = s := ⟨_, rfl⟩
          have hsz : s.size ≤ 4 := by rw [← hs]; exact HG.out.sz k hkn
          have hlp : isP l = true := by rw [← hl]; exact (HG.out.ok k hkn).1
          obtain ⟨xs, hxs⟩ : ∃ xs, (rulesL L R k).filter (stays u e0) = xs := ⟨_, rfl⟩
          have hxl : xs.length ≤ 8 := by
            have := List.length_filter_le (stays u e0) (rulesL L R k)
            rw [← hxs]
            omega
          have HSU : Hid ((rulesL L R (k + 1)).filter (stays u e0) = xs ++ [(l, s)].filter (stays u e0)) := Lib.hid (by rw [rulesL_succ, List.filter_append, hxs, hl, hs])
          rw [hxs] at HBR
          rw [hl] at c0
          rw [hs] at c1
          have hkc : k < c := by omega
          have h5 := isP_iff.1 hlp
          obtain ⟨j0, rfl⟩ : ∃ j0 : Nat, l = (j0 : Int) + 65 := ⟨(l - 65).toNat, by omega⟩
          have hj0 : j0 ≤ 4 := by omega
          have hu0 := u8_part hj0
          have hzb := bit_zero2 e0 j0 hel
          have HPN := Lib.hid (show pn ((j0 : Int) + 65) = j0 by unfold pn; omega)
          have HST := Lib.hid (show stays u e0 ((j0 : Int) + 65, s) = (allU u s && e0.testBit j0) by unfold stays; rw [HPN.out])
          have HF1 := Lib.hid (Nat.le_trans (List.length_filter_le (isB ((p : Int) + 65)) xs) hxl)
          have HF2 := Lib.hid (Nat.le_trans (List.length_filter_le (fun r => !isB ((p : Int) + 65) r) xs) hxl)
          have HEND : Hid (k + 1 ≤ n ∧ n - (intOf (.int .i64 ((k : Int) + 1))).toNat < n - (intOf (.int .i64 (k : Int))).toNat) := Lib.hid ⟨by omega, by simp [intOf]; omega⟩
          clear hl hs hxs hl1 hxl
          go_wp2_with fail
          have hbA := below_one (w := wr) (.cells #[.int .u8 ((j0 : Int) + 65), .string s] 44)
          obtain ⟨d0, d1⟩ := rule_new wr 44 ((j0 : Int) + 65) s
          have HBA := Lib.hid (HBR.out.later hbA)
          obtain ⟨w1, hw1⟩ : ∃ w1, w1 = wr.alloc (.cells #[.int .u8 ((j0 : Int) + 65), .string s] 44) := ⟨_, rfl⟩
          rw [← hw1] at d0 d1 HBA ⊢
          clear hw1 hbA c0 c1 HBR
          generalize wr.heap.size = G at d0 d1 ⊢
          refine (within_calls ((j0 : Int) + 65) s u w1 h32u (by omega)).mono ?_
          rintro r w2 ⟨rfl, hb2⟩
          have HB2 := Lib.hid (HBA.out.later hb2)
          have f0 := (hb2.cell (p := ⟨G, 0, none⟩) (World.block_lt_of_cell? _ _ d0)).trans d0
          have f1 := (hb2.cell (p := ⟨G, 1, none⟩) (World.block_lt_of_cell? _ _ d1)).trans d1
          clear hb2 d0 d1 HBA
          cases ha : allU u s with
          | false =>
            have HS2 : Hid ((rulesL L R (k + 1)).filter (stays u e0) = xs) := Lib.hid (by rw [HSU.out]; simp [HST.out, ha])
            clear ha
            go_wp2_with fail
            refine ⟨⟨k + 1, HEND.out.1, by go_num, by rw [HS2.out]; exact HB2⟩, HEND.out.2⟩
          | true =>
            have HAA := Lib.hid ha
            clear ha
            cases ht : e0.testBit j0 with
            | false =>
              rw [ht] at hzb
              have HS2 : Hid ((rulesL L R (k + 1)).filter (stays u e0) = xs) := Lib.hid (by rw [HSU.out]; simp [HST.out, ht])
              clear ht
              go_wp2_with fail
              refine ⟨⟨k + 1, HEND.out.1, by go_num, by rw [HS2.out]; exact HB2⟩, HEND.out.2⟩
            | true =>
              rw [ht, Bool.not_true] at hzb
              have HS2 : Hid ((rulesL L R (k + 1)).filter (stays u e0) = xs ++ [((j0 : Int) + 65, s)]) := Lib.hid (by rw [HSU.out]; simp [HST.out, ht, HAA.out])
              have b0 := (HP.out.later HB2.out.bl).c0 0 hn1
              rw [HL0.out] at b0
              simp only [Nat.zero_mul, Nat.add_zero] at b0
              clear ht
              by_cases hjp : j0 = p
              · subst hjp
                have HSB : Hid ((xs ++ [((j0 : Int) + 65, s)]).filter (isB ((j0 : Int) + 65)) = xs.filter (isB ((j0 : Int) + 65)) ++ [((j0 : Int) + 65, s)] ∧ ((xs ++ [((j0 : Int) + 65, s)]).filter fun r => !isB ((j0 : Int) + 65) r) = xs.filter fun r => !isB ((j0 : Int) + 65) r) := Lib.hid (by
                  have : isB ((j0 : Int) + 65) ((j0 : Int) + 65, s) = true := decide_eq_true rfl
                  rw [List.filter_append, List.filter_append]
                  simp [this])
                go_wp2_with fail
                go_quiet (fail)
                have hbq := pw_below_drewN (Below.refl w2.heap.size w2) nq
                have HB3 := Lib.hid (HB2.out.later hbq)
                have g0 := (hbq.cell (p := ⟨G, 0, none⟩) (World.block_lt_of_cell? _ _ f0)).trans f0
                have g1 := (hbq.cell (p := ⟨G, 1, none⟩) (World.block_lt_of_cell? _ _ f1)).trans f1
                clear hbq f0 f1 b0 HB2
                generalize w2.drewN nq = w3 at g0 g1 HB3 ⊢
                obtain ⟨ys, hys⟩ : ∃ ys, xs.filter (isB ((j0 : Int) + 65)) = ys := ⟨_, rfl⟩
                rw [hys] at HB3 HF1 HSB
                clear hys
                obtain ⟨A5, c5, h5'⟩ := Kd.R_slice HB3.out.a
                subst h5'
                have HXL := Lib.hid (show (ys.length + 1) * 24 ≤ 140737488355328 by have := HF1.out; omega)
                go_wp2_with (at_builtin; refine Kd.R_append KR (w0 := w) w.heap.size rfl (.tmp 106) (.tmp 108) 22 44 (.agg #[.int .u8 0, .string ByteArray.empty]) 24 rfl Tryd.underlying22 info44 rfl (by decide) (by decide) (.slice A5 ys.length c5) ys ((j0 : Int) + 65, s) [.int .u8 ((j0 : Int) + 65), .string s] (fun _ => True) (fun _ => False) rfl rfl ⟨[.int .u8 ((j0 : Int) + 65)], [.string s], rfl, rfl, rfl⟩ (fun _ h => h.elim) (fun _ _ => trivial) HB3.out.a HB3.out.bl HB3.out.bl.size HXL.out ?_; intro v1 w4 hv hb hg hat; have HB4 := Lib.hid (HB3.out.push1 hv hb hg hat); clear hv hb hg hat)
                refine ⟨⟨k + 1, HEND.out.1, by go_num, by rw [HS2.out, HSB.out.1, HSB.out.2]; exact HB4⟩, HEND.out.2⟩
              · have hjpI : ¬ (j0 : Int) = (p : Int) := by omega
                have HSB : Hid ((xs ++ [((j0 : Int) + 65, s)]).filter (isB ((p : Int) + 65)) = xs.filter (isB ((p : Int) + 65)) ∧ ((xs ++ [((j0 : Int) + 65, s)]).filter fun r => !isB ((p : Int) + 65) r) = (xs.filter fun r => !isB ((p : Int) + 65) r) ++ [((j0 : Int) + 65, s)]) := Lib.hid (by
                  have : isB ((p : Int) + 65) ((j0 : Int) + 65, s) = false := decide_eq_false (by show ¬ (j0 : Int) + 65 = (p : Int) + 65; omega)
                  rw [List.filter_append, List.filter_append]
                  simp [this])
                go_wp2_with fail
                go_quiet (fail)
                have hbq := pw_below_drewN (Below.refl w2.heap.size w2) nq
                have HB3 := Lib.hid (HB2.out.later hbq)
                have g0 := (hbq.cell (p := ⟨G, 0, none⟩) (World.block_lt_of_cell? _ _ f0)).trans f0
                have g1 := (hbq.cell (p := ⟨G, 1, none⟩) (World.block_lt_of_cell? _ _ f1)).trans f1
                clear hbq f0 f1 b0 HB2
                generalize w2.drewN nq = w3 at g0 g1 HB3 ⊢
                obtain ⟨ys, hys⟩ : ∃ ys, (xs.filter fun r => !isB ((p : Int) + 65) r) = ys := ⟨_, rfl⟩
                rw [hys] at HB3 HF2 HSB
                clear hys
                obtain ⟨A5, c5, h5'⟩ := Kd.R_slice HB3.out.b
                subst h5'
                have HXL := Lib.hid (show (ys.length + 1) * 24 ≤ 140737488355328 by have := HF2.out; omega)
                go_wp2_with (at_builtin; refine Kd.R_append KR (w0 := w) w.heap.size rfl (.tmp 80) (.tmp 82) 22 44 (.agg #[.int .u8 0, .string ByteArray.empty]) 24 rfl Tryd.underlying22 info44 rfl (by decide) (by decide) (.slice A5 ys.length c5) ys ((j0 : Int) + 65, s) [.int .u8 ((j0 : Int) + 65), .string s] (fun _ => True) (fun _ => False) rfl rfl ⟨[.int .u8 ((j0 : Int) + 65)], [.string s], rfl, rfl, rfl⟩ (fun _ h => h.elim) (fun _ _ => trivial) HB3.out.b HB3.out.bl HB3.out.bl.size HXL.out ?_; intro v1 w4 hv hb hg hat; have HB4 := Lib.hid (HB3.out.push2 hv hb hg hat); clear hv hb hg hat)
                refine ⟨⟨k + 1, HEND.out.1, by go_num, by rw [HS2.out, HSB.out.1, HSB.out.2]; exact HB4⟩, HEND.out.2⟩
        · have hkI : ¬ (k : Int) < (n : Int) := by omega
          have hkn2 : k = n := by omega
          have hl1 := List.length_filter_le (stays u e0) (rulesL L R n)
          rw [rulesL_len] at hl1
          rw [hkn2] at HBR
          obtain ⟨xs, hxs⟩ : ∃ xs, (rulesL L R n).filter (stays u e0) = xs := ⟨_, rfl⟩
          rw [hxs] at HBR HX hl1
          have HX2 : Hid (xs.filter (isB ((p : Int) + 65)) ++ (xs.filter fun r => !isB ((p : Int) + 65) r) = X) := HX
          have hf1 := List.length_filter_le (isB ((p : Int) + 65)) xs
          have hf2 := List.length_filter_le (fun r => !isB ((p : Int) + 65) r) xs
          obtain ⟨ys, hys⟩ : ∃ ys, xs.filter (isB ((p : Int) + 65)) = ys := ⟨_, rfl⟩
          obtain ⟨zs, hzs⟩ : ∃ zs, (xs.filter fun r => !isB ((p : Int) + 65) r) = zs := ⟨_, rfl⟩
          rw [hys] at hf1
          rw [hzs] at hf2
          rw [hys, hzs] at HBR HX2
          have HXL := Lib.hid (show (ys.length + zs.length) * 24 ≤ 140737488355328 by omega)
          clear hys hzs hxs hf1 hf2 hl1 hkn2
          obtain ⟨A5, c5, h5'⟩ := Kd.R_slice HBR.out.a
          subst h5'
          obtain ⟨A6, c6, h6'⟩ := Kd.R_slice HBR.out.b
          subst h6'
          go_wp2_with ((with_reducible refine gate_dst (N := 113) rfl ?_); go_loud (refine Kd.R_append_rows KR (Rr := KR.K wr) (w0 := w) w.heap.size rfl (.tmp 111) (.tmp 112) 22 44 (.agg #[.int .u8 0, .string ByteArray.empty]) 24 rfl Tryd.underlying22 info44 rfl (by decide) (by decide) (.slice A5 ys.length c5) ys zs A6 zs.length c6 (fun _ => True) (fun _ => False) rfl rfl HBR.out.a (Kd.R_reads' HBR.out.b).2.2 (fun x cs h => h) (fun _ h => h.elim) (fun _ _ => trivial) HBR.out.bl HBR.out.bl.size HXL.out ?_; intro v1 w4 hv hb hg hat; have HV := Lib.hid hv; have HBV := Lib.hid hb; clear hv hb hg hat))
          obtain ⟨A7, c7, h7⟩ := Kd.R_slice HV.out
          subst h7
          go_ret2
          refine ⟨⟨_, rfl, ?_⟩, HBV.out⟩
          rw [← HX2.out]
          exact HV.out
end Go.Proofs.YtjpfalanoifpbaaDoor.X
end

section
set_option linter.unusedVariables false
set_option linter.unusedSimpArgs false
namespace Go.Proofs.YtjpfalanoifpbaaDoor.X
open Go.RowKit Go.Proofs.YtjpfalanoifpbaaDoorW.PrintWords Go.Proofs.YtjpfalanoifpbaaDoorW.PrintLast Go.Proofs.YtjpfalanoifpbaaDoorW.PrintMore Go.Proofs.YtjpfalanoifpbaaDoor.T
theorem kr_rep {w : World} {B : Nat} {ok : Nat → Prop} (l : Int) (s : ByteArray) : KR.M w B ok (l, s) [.int .u8 l, .string s] := ⟨[.int .u8 l], [.string s], rfl, rfl, rfl⟩
set_option maxHeartbeats 8000000 in
set_option maxRecDepth 100000 in
theorem own_calls (A : Option Addr) (n c : Nat) (L : Nat → Int) (R : Nat → ByteArray) (w : World) (hA : Sr w A n c L R) (hn : n ≤ 1000) :
    Calls Tryd.prog 41 #[.slice A n c] w fun e w' => (∃ v, e = .returned v ∧ RR 44 w.heap.size w' v (rulesL L R n)) ∧ Below w.heap.size w w' := by
  have HA := Lib.hid hA
  clear hA
  go_enter Tryd.func41, Tryd.ntmps41
  go_wp2_with fail
  have HR : Hid (RR 44 w.heap.size w (.slice none 0 0) (rulesL L R 0)) := Lib.hid (Kd.R_nil _ _ _ _ _)
  have HB := Lib.hid (Below.refl w.heap.size w)
  go_loopw [8, 3] (fun i v wr => ∃ k : Nat, k ≤ n ∧ i = .int .i64 k ∧ Hid (RR 44 w.heap.size wr v (rulesL L R k)) ∧ Hid (Below w.heap.size w wr)) (fun i _ _ => n - (intOf i).toNat)
  case atStart => exact ⟨0, by omega, rfl, HR, HB⟩
  case round =>
    clear HR HB
    obtain ⟨k, hk, rfl, HR, HB⟩ := hrel
    by_cases hkn : k < n
    · have hkI : (k : Int) < (n : Int) := by omega
      obtain ⟨b, off, hAe, hnc, hP⟩ := HA.out.open (by omega)
      subst hAe
      have c0 := (hP.later HB.out).c0 k hkn
      have c1 := (hP.later HB.out).c1 k hkn
      have HRS := Lib.hid (rulesL_succ L R k)
      have hxl : (rulesL L R k).length = k := rulesL_len L R k
      obtain ⟨l, hl⟩ : ∃ l, L k = l := ⟨_, rfl⟩
      obtain ⟨s, hs⟩ : ∃ s, R k = s := ⟨_, rfl⟩
      rw [hl] at c0
      rw [hs] at c1
      rw [hl, hs] at HRS
      have hkc : k < c := by omega
      obtain ⟨xs, hxs⟩ : ∃ xs, rulesL L R k = xs := ⟨_, rfl⟩
      rw [hxs] at HR HRS hxl
      obtain ⟨A5, c5, h5⟩ := Kd.R_slice HR.out
      subst h5
      have HXL := Lib.hid (show (xs.length + 1) * 24 ≤ 140737488355328 by omega)
      clear hl hs hxs hP
      go_upto_region 5 with fail
      have hba := below_one (w := wr) (.cells #[.int .u8 l, .string s] 60)
      obtain ⟨d0, d1⟩ := rule_new wr 60 l s
      have HR2 := Lib.hid (rr_below HR.out hba)
      have HB2 := Lib.hid (HB.out.trans (hba.mono HB.out.size))
      generalize wr.alloc (.cells #[.int .u8 l, .string s] 60) = wa at d0 d1 HR2 HB2 ⊢
      generalize wr.heap.size = G at d0 d1 ⊢
      clear hba HR HB c0 c1
      go_wp2_with (at_builtin; refine Kd.R_append KR (w0 := w) w.heap.size rfl (.tmp 12) (.tmp 18) 22 44 (.agg #[.int .u8 0, .string ByteArray.empty]) 24 rfl Tryd.underlying22 info44 rfl (by decide) (by decide) (.slice A5 xs.length c5) xs (l, s) [.int .u8 l, .string s] (fun _ => True) (fun _ => False) rfl rfl (kr_rep l s) (fun _ h => h.elim) (fun _ _ => trivial) HR2.out HB2.out HB2.out.size HXL.out ?_; intro v1 w3 hv hb hg hat; have HR3 := Lib.hid hv; have HB3 := Lib.hid hb; clear hv hb hg hat)
      refine ⟨⟨k + 1, by omega, by go_num, by rw [HRS.out]; exact HR3, HB3⟩, by simp [intOf]; omega⟩
    · obtain rfl : k = n := by omega
      obtain ⟨A5, c5, h5⟩ := Kd.R_slice HR.out
      subst h5
      go_wp2
      go_ret
      exact ⟨⟨_, rfl, HR.out⟩, HB.out⟩
set_option maxHeartbeats 8000000 in
set_option maxRecDepth 100000 in
theorem eqRules_same {A1 A2 : Option Addr} {n c1 c2 : Nat} {l : List Ru} {w : World} (h1 : Sr w A1 n c1 (lL l) (lR l)) (h2 : Sr w A2 n c2 (lL l) (lR l)) (hn : n ≤ 1000) :
    Calls Tryd.prog 40 #[.slice A1 n c1, .slice A2 n c2] w fun e w' => e = .returned (.bool true) ∧ Below w.heap.size w w' := by
  have H1 := Lib.hid h1
  have H2 := Lib.hid h2
  clear h1 h2
  go_enter Tryd.func40, Tryd.ntmps40
  go_wp2_with fail
  have HB := Lib.hid (Below.refl w.heap.size w)
  go_loopw [13] (fun i wr => ∃ x : Nat, x ≤ n ∧ i = .int .i64 x ∧ Hid (Below w.heap.size w wr)) (fun i _ => n - (intOf i).toNat)
  case atStart => exact ⟨0, by omega, rfl, HB⟩
  case round =>
    clear HB
    obtain ⟨x, hx, rfl, HB⟩ := hrel
    by_cases hxl : x < n
    · have hxI : (x : Int) < (n : Int) := by omega
      obtain ⟨b1, o1, e1, hn1, hP1⟩ := H1.out.open (by omega)
      obtain ⟨b2, o2, e2, hn2, hP2⟩ := H2.out.open (by omega)
      subst e1 e2
      have f0 := (hP1.later HB.out).c0 x hxl
      have f1 := (hP1.later HB.out).c1 x hxl
      have g0 := (hP2.later HB.out).c0 x hxl
      have g1 := (hP2.later HB.out).c1 x hxl
      obtain ⟨a, ha⟩ : ∃ a, lL l x = a := ⟨_, rfl⟩
      obtain ⟨s, hs⟩ : ∃ s, lR l x = s := ⟨_, rfl⟩
      rw [ha] at f0 g0
      rw [hs] at f1 g1
      have hx1 : x < c1 := by omega
      have hx2 : x < c2 := by omega
      have hm44 : Tryd.prog.eqGuardType Tryd.prog.depth 44 = false := by kernel_rfl
      have he : ∀ w, (Op.equalIn 10000 44 (.agg #[.int .u8 a, .string s]) (.agg #[.int .u8 a, .string s])).run Tryd.prog w = .ok true w := fun w => by
        rw [rule_eq44]
        unfold sameR
        simp
      clear ha hs hP1 hP2
      go_wp2_with fail
      go_quiet (fail)
      have hbq := pw_below_drewN (Below.refl wr.heap.size wr) nq
      have HB3 := Lib.hid (HB.out.trans (hbq.mono HB.out.size))
      clear hbq f0 f1 g0 g1
      generalize wr.drewN nq = w3 at HB3 ⊢
      go_wp2_with fail
      refine ⟨⟨x + 1, by omega, by go_num, HB3⟩, by simp [intOf]; omega⟩
    · obtain rfl : x = n := by omega
      go_wp2
      go_ret
      exact ⟨rfl, HB.out⟩
end Go.Proofs.YtjpfalanoifpbaaDoor.X
end

section
set_option linter.unusedVariables false
set_option linter.unusedSimpArgs false
namespace Go.Proofs.YtjpfalanoifpbaaDoor.X
open Go.RowKit Go.Proofs.YtjpfalanoifpbaaDoorW.PrintWords Go.Proofs.YtjpfalanoifpbaaDoorW.PrintLast Go.Proofs.YtjpfalanoifpbaaDoorW.PrintMore Go.Proofs.YtjpfalanoifpbaaDoor.T
set_option maxHeartbeats 1000000 in
set_option maxRecDepth 100000 in
theorem outU78_calls (x E G : Nat) (w : World) (hE : E < 32) (hc : w.cell? ⟨G, 0, none⟩ = some (.int .i64 E)) :
    Calls Tryd.prog 78 #[.int .i32 x, .pointer (some ⟨G, 0, none⟩)] w fun e w' => e = .returned (.bool (outU E x)) ∧ w' = w := by
  have hw : IntKind.u8.wrap (x : Int) = (x : Int) % 256 := by
    unfold IntKind.wrap
    simp [IntKind.signed, IntKind.bits]
  unfold outU
  rw [hw]
  obtain ⟨c, hcc⟩ : ∃ c, (x : Int) % 256 = c := ⟨_, rfl⟩
  rw [hcc]
  go_enter Tryd.func78, Tryd.ntmps78
  go_wp2_with fail
  refine (isPart_calls c w).mono ?_
  rintro r w1 ⟨rfl, rfl⟩
  cases hp : isP c with
  | false =>
    go_wp2
    go_ret
    exact ⟨ret_bool (by rw [hp]; rfl), rfl⟩
  | true =>
    have HP := Lib.hid hp
    clear hp
    go_wp2_with fail
    refine (has_calls E c w1 hE).mono ?_
    rintro r w2 ⟨rfl, rfl⟩
    rw [HP.out]
    cases ht : E.testBit (pn c) with
    | true =>
      have HT := Lib.hid ht
      clear ht
      go_wp2
      go_ret
      exact ⟨ret_bool (by rw [HP.out, HT.out]; rfl), rfl⟩
    | false =>
      have HT := Lib.hid ht
      clear ht
      go_wp2
      go_ret
      exact ⟨ret_bool (by rw [HP.out, HT.out]; rfl), rfl⟩
def inS (e : Nat) (l : Int) : Bool := isP l && e.testBit (pn l)
set_option maxHeartbeats 2000000 in
set_option maxRecDepth 100000 in
theorem trim1_calls (l : Int) (s : ByteArray) (u G : Nat) (w : World) (hu : u < 32) (hs : okR s) (hc : w.cell? ⟨G, 0, none⟩ = some (.int .i64 u)) :
    Calls Tryd.prog 76 #[.agg #[.int .u8 l, .string s], .pointer (some ⟨G, 0, none⟩)] w fun e w' => e = .returned (.bool (!(inS u l && allU u s))) ∧ Below w.heap.size w w' := by
  have hi := idx_allU hs u
  have hGlt := World.block_lt_of_cell? _ _ hc
  go_enter Tryd.func76, Tryd.ntmps76
  go_wp2_with fail
  have hb := below_one (w := w) (.cells #[.int .u8 l, .string s] 60)
  obtain ⟨d0, d1⟩ := rule_new w 60 l s
  have hc1 := (hb.cell (p := ⟨G, 0, none⟩) hGlt).trans hc
  generalize w.alloc (.cells #[.int .u8 l, .string s] 60) = w1 at hb d0 d1 hc1 ⊢
  generalize hG : w.heap.size = H at d0 d1 ⊢
  have HB : Hid (Below w.heap.size w w1) := Lib.hid hb
  clear hb hc
  refine (has_calls u l w1 hu).mono ?_
  rintro r w2 ⟨rfl, rfl⟩
  have hin : (isP l && u.testBit (pn l)) = inS u l := rfl
  rw [hin]
  cases hx : inS u l with
  | false =>
    have HX := Lib.hid hx
    clear hx hin hi
    go_wp2
    go_ret
    exact ⟨ret_bool (by rw [HX.out]; rfl), HB.out⟩
  | true =>
    have HX := Lib.hid hx
    have hp : PredAt Tryd.prog 78 #[.pointer (some ⟨G, 0, none⟩)] encR (outU u) w2 := fun W x hW => by
      refine (outU78_calls x u G W hu ((hW.cell (p := ⟨G, 0, none⟩) (World.block_lt_of_cell? _ _ hc1)).trans hc1)).mono ?_
      rintro e w' ⟨rfl, rfl⟩
      exact ⟨rfl, 0, rfl⟩
    have HC := Lib.hid (Tryd.strings_IndexFunc 78 _ (fun args w => enters_ Tryd.func78 (by kernel_rfl) rfl args w) (outU u) s w2 hp)
    clear hx hin hp hc1
    go_wp2_with fail
    refine HC.out.mono ?_
    rintro e w3 ⟨rfl, hb3⟩
    have HB3 := Lib.hid (HB.out.trans (hb3.mono HB.out.size))
    clear hb3 HC d0 d1
    generalize Lib.idxFunc (outU u) true s = i at hi ⊢
    cases ha : allU u s with
    | true =>
      rw [ha] at hi
      have hlt : ¬ 0 ≤ i := by have := of_decide_eq_true hi; omega
      have hlt2 : decide (0 ≤ i) = false := decide_eq_false hlt
      have HAL := Lib.hid ha
      clear ha hi
      go_wp2
      go_ret
      exact ⟨ret_bool (by rw [HX.out, HAL.out]; rfl), HB3.out⟩
    | false =>
      rw [ha] at hi
      have hlt : 0 ≤ i := by have := of_decide_eq_false hi; omega
      have HAL := Lib.hid ha
      clear ha hi
      go_wp2
      go_ret
      exact ⟨ret_bool (by rw [HX.out, HAL.out]; rfl), HB3.out⟩
set_option maxHeartbeats 2000000 in
set_option maxRecDepth 100000 in
theorem trim2_calls (l : Int) (s : ByteArray) (u G : Nat) (w : World) (hu : u < 32) (hc : w.cell? ⟨G, 0, none⟩ = some (.int .i64 u)) :
    Calls Tryd.prog 80 #[.agg #[.int .u8 l, .string s], .pointer (some ⟨G, 0, none⟩)] w fun e w' => e = .returned (.bool (!inS u l)) ∧ Below w.heap.size w w' := by
  have hGlt := World.block_lt_of_cell? _ _ hc
  go_enter Tryd.func80, Tryd.ntmps80
  go_wp2_with fail
  have hb := below_one (w := w) (.cells #[.int .u8 l, .string s] 60)
  have HB := Lib.hid hb
  generalize w.alloc (.cells #[.int .u8 l, .string s] 60) = w1 at HB ⊢
  clear hb
  refine (has_calls u l w1 hu).mono ?_
  rintro r w2 ⟨rfl, rfl⟩
  go_wp2
  go_ret
  first | exact ⟨rfl, HB.out⟩ | exact ⟨ret_bool (by unfold inS; simp), HB.out⟩
def cmpB (b l m : Int) : Int := if l = b ∧ ¬ m = b then -1 else if ¬ l = b ∧ m = b then 1 else 0
end Go.Proofs.YtjpfalanoifpbaaDoor.X
end

section
set_option linter.unusedVariables false
set_option linter.unusedSimpArgs false
namespace Go.Proofs.YtjpfalanoifpbaaDoor.X
open Go.RowKit Go.Proofs.YtjpfalanoifpbaaDoorW.PrintWords Go.Proofs.YtjpfalanoifpbaaDoorW.PrintLast Go.Proofs.YtjpfalanoifpbaaDoorW.PrintMore Go.Proofs.YtjpfalanoifpbaaDoor.T
structure RowB (w : World) (g c : Nat) (l : List Ru) : Prop where
  blk : ∃ cur, w.heap[g]? = some (.cells cur 60 (0, 0)) ∧ c * 2 ≤ cur.size ∧ ∀ (j : Nat) r, l[j]? = some r → cur[j * 2]? = some (.int .u8 r.1) ∧ cur[j * 2 + 1]? = some (.string r.2)
  le : l.length ≤ c
theorem RowB.c0 {w : World} {g c : Nat} {l : List Ru} (h : RowB w g c l) {j : Nat} {r : Ru} (hr : l[j]? = some r) : w.cell? ⟨g, j * 2, none⟩ = some (.int .u8 r.1) := by
  obtain ⟨cur, hb, -, hc⟩ := h.blk
  rw [blk_cell hb]
  exact (hc j r hr).1
theorem RowB.c1 {w : World} {g c : Nat} {l : List Ru} (h : RowB w g c l) {j : Nat} {r : Ru} (hr : l[j]? = some r) : w.cell? ⟨g, j * 2 + 1, none⟩ = some (.string r.2) := by
  obtain ⟨cur, hb, -, hc⟩ := h.blk
  rw [blk_cell hb]
  exact (hc j r hr).2
theorem RowB.fz {w : World} {g c : Nat} {l : List Ru} (h : RowB w g c l) (i : Nat) : w.frozen? ⟨g, i, none⟩ = false := by
  obtain ⟨cur, hb, -⟩ := h.blk
  exact blk_frozen hb i
theorem RowB.lt {w : World} {g c : Nat} {l : List Ru} (h : RowB w g c l) : g < w.heap.size := by
  obtain ⟨cur, hb, -⟩ := h.blk
  exact (Array.getElem?_eq_some_iff.1 hb).1
theorem RowB.later {w w' : World} {g c : Nat} {l : List Ru} (h : RowB w g c l) (hb : Below w.heap.size w w') : RowB w' g c l := by
  obtain ⟨cur, h1, h2⟩ := h.blk
  exact ⟨⟨cur, (hb.block _ (Array.getElem?_eq_some_iff.1 h1).1).trans h1, h2⟩, h.le⟩
theorem RowB.set {w : World} {g c : Nat} {l : List Ru} (h : RowB w g c l) {i : Nat} (hi : i < l.length) (r : Ru) : RowB ((w.setCell ⟨g, i * 2, none⟩ (.int .u8 r.1)).setCell ⟨g, i * 2 + 1, none⟩ (.string r.2)) g c (l.set i r) := by
  obtain ⟨cur, h1, h2, h3⟩ := h.blk
  have hle := h.le
  have k1 := blk_set (blk_set h1 (i * 2) (.int .u8 r.1)) (i * 2 + 1) (.string r.2)
  refine ⟨⟨_, k1, by simpa using h2, fun j q hq => ?_⟩, by simpa using h.le⟩
  by_cases e : i = j
  · subst e
    have : q = r := by
      rw [List.getElem?_set_self hi] at hq
      injection hq with hq
      exact hq.symm
    subst this
    constructor
    · rw [Array.getElem?_setIfInBounds_ne (by omega), Array.getElem?_setIfInBounds_self_of_lt (by omega)]
    · rw [Array.getElem?_setIfInBounds_self_of_lt (by simp; omega)]
  · rw [List.getElem?_set_ne e] at hq
    have := h3 j q hq
    constructor
    · rw [Array.getElem?_setIfInBounds_ne (by omega), Array.getElem?_setIfInBounds_ne (by omega)]
      exact this.1
    · rw [Array.getElem?_setIfInBounds_ne (by omega), Array.getElem?_setIfInBounds_ne (by omega)]
      exact this.2
theorem set2_grown (w : World) (g i j : Nat) (u v : Value) : w.grownBy ((w.setCell ⟨g, i, none⟩ u).setCell ⟨g, j, none⟩ v) (some g) :=
  ⟨rfl, rfl, rfl, by simp [World.setCell], fun k hk hne => by
    have : k ≠ g := fun e => hne (by rw [e])
    exact (Below.heap_setCell _ ⟨g, j, none⟩ v k this).trans (Below.heap_setCell w ⟨g, i, none⟩ u k this)⟩
def PredR (f : Nat) (lb : Array Value) (w : World) (g : Nat) (p : Ru → Bool) (l0 : List Ru) : Prop :=
  ∀ (W : World) (r : Ru), r ∈ l0 → w.grownBy W (some g) → Calls Tryd.prog f (#[.agg #[.int .u8 r.1, .string r.2]] ++ lb) W fun e w' => e = .returned (.bool (p r)) ∧ Below W.heap.size W w'
theorem grown_below {w W W' : World} {g : Nat} (h : w.grownBy W (some g)) (hb : Below W.heap.size W W') : w.grownBy W' (some g) :=
  ⟨hb.os.trans h.os, hb.tape.trans h.tape, hb.output.trans h.output, Nat.le_trans h.size hb.size, fun k hk hne => (hb.block k (Nat.lt_of_lt_of_le hk h.size)).trans (h.block k hk hne)⟩
theorem grown_refl (w : World) (g : Nat) : w.grownBy w (some g) := ⟨rfl, rfl, rfl, Nat.le_refl _, fun _ _ _ => rfl⟩
set_option maxHeartbeats 8000000 in
set_option maxRecDepth 100000 in
theorem idxF_calls {f : Nat} {lb : Array Value} (eg : ∀ args w, (callFunc f args).run Tryd.prog w = .ok (.enter f args) w) {w : World} {g c : Nat} {p : Ru → Bool} {l : List Ru} (hR : RowB w g c l) (hp : PredR f lb w g p l) (hl : l.length ≤ 1000) :
    Calls Tryd.prog 104 #[.slice (some ⟨g, 0, none⟩) l.length c, .func (.func f) #[] lb] w fun e w' => (∃ r : Int, e = .returned (.int .i64 r) ∧ ((r = -1 ∧ ∀ x ∈ l, p x = false) ∨ ∃ (k : Nat) (x : Ru), r = k ∧ l[k]? = some x ∧ p x = true ∧ ∀ y ∈ l.take k, p y = false)) ∧ Below w.heap.size w w' := by
  have HR := Lib.hid hR
  have HP := Lib.hid hp
  have hlc := hR.le
  clear hR hp
  go_enter Tryd.func104, Tryd.ntmps104
  go_wp2_with fail
  have HB := Lib.hid (Below.refl w.heap.size w)
  go_loopw [8] (fun i wr => ∃ k : Nat, k ≤ l.length ∧ i = .int .i64 k ∧ Hid (Below w.heap.size w wr) ∧ Hid (∀ y ∈ l.take k, p y = false)) (fun i _ => l.length - (intOf i).toNat)
  case atStart => exact ⟨0, by omega, rfl, HB, Lib.hid (fun y hy => by simp at hy)⟩
  case round =>
    clear HB
    obtain ⟨k, hk, rfl, HB, HN⟩ := hrel
    by_cases hkl : k < l.length
    · have hkI : (k : Int) < (l.length : Int) := by omega
      obtain ⟨r, hr⟩ : ∃ r, l[k]? = some r := ⟨_, List.getElem?_eq_getElem hkl⟩
      obtain ⟨a, s⟩ := r
      have c0 := (HR.out.later HB.out).c0 hr
      have c1 := (HR.out.later HB.out).c1 hr
      have hkc : k < c := by omega
      have HRR := Lib.hid hr
      have HC := Lib.hid (HP.out wr (a, s) (List.mem_of_getElem? hr) (grown_below (grown_refl w g) HB.out))
      clear hr
      simp only at c0 c1
      go_wp2_with fail
      refine HC.out.mono ?_
      rintro e w2 ⟨rfl, hb2⟩
      have HB2 := Lib.hid (HB.out.trans (hb2.mono HB.out.size))
      clear hb2 HC c0 c1
      cases hpx : p (a, s) with
      | true =>
        have HPX := Lib.hid hpx
        clear hpx
        go_wp2
        go_ret
        exact ⟨⟨_, rfl, .inr ⟨k, (a, s), rfl, HRR.out, HPX.out, HN.out⟩⟩, HB2.out⟩
      | false =>
        have HPX := Lib.hid hpx
        clear hpx
        go_wp2_with fail
        refine ⟨⟨k + 1, by omega, by go_num, HB2, Lib.hid (fun y hy => ?_)⟩, by simp [intOf]; omega⟩
        rw [take_succ_of HRR.out] at hy
        rcases List.mem_append.1 hy with q | q
        · exact HN.out y q
        · rw [List.mem_singleton] at q
          rw [q]
          exact HPX.out
    · obtain rfl : k = l.length := by omega
      rw [List.take_length] at HN
      go_wp2
      go_ret
      exact ⟨⟨_, rfl, .inl ⟨rfl, HN.out⟩⟩, HB.out⟩
end Go.Proofs.YtjpfalanoifpbaaDoor.X
end

section
set_option linter.unusedVariables false
set_option linter.unusedSimpArgs false
namespace Go.Proofs.YtjpfalanoifpbaaDoor.X
open Go.RowKit Go.Proofs.YtjpfalanoifpbaaDoorW.PrintWords Go.Proofs.YtjpfalanoifpbaaDoorW.PrintLast Go.Proofs.YtjpfalanoifpbaaDoorW.PrintMore Go.Proofs.YtjpfalanoifpbaaDoor.T
theorem grown_trans {a b c : World} {g : Nat} (h : a.grownBy b (some g)) (k : b.grownBy c (some g)) : a.grownBy c (some g) :=
  ⟨k.os.trans h.os, k.tape.trans h.tape, k.output.trans h.output, Nat.le_trans h.size k.size, fun i hi hne => (k.block i (Nat.lt_of_lt_of_le hi h.size) hne).trans (h.block i hi hne)⟩
theorem zero_rule : ∀ w, (zeroValue 60).run Tryd.prog w = .ok (.agg #[.int .u8 0, .string ⟨#[]⟩]) w := fun _ => by kernel_rfl
theorem zero_one (n : Nat) : ∀ v ∈ (Builtin.zeroCells #[.int .u8 0, .string ⟨#[]⟩] n).toList, v.oneCell' = true := by
  intro v hv
  unfold Builtin.zeroCells at hv
  rw [Array.toList_map, List.mem_map] at hv
  obtain ⟨i, -, rfl⟩ := hv
  have : i % 2 = 0 ∨ i % 2 = 1 := by omega
  show (#[Value.int IntKind.u8 0, Value.string ⟨#[]⟩][i % 2]!).oneCell' = true
  rcases this with e | e <;> rw [e] <;> rfl
theorem clear_run {w : World} {g c : Nat} {l : List Ru} (h : RowB w g c l) {i n cc : Nat} (h0 : 0 < n) (hn : i + n ≤ c) (ty : TypeId) :
    ∃ w1, (Builtin.clear_ #[27] ty #[.slice (some ⟨g, i * 2, none⟩) n cc]).run Tryd.prog w = .ok (.tuple #[]) w1 ∧ RowB w1 g c (l.take i) ∧ w.grownBy w1 (some g) := by
  obtain ⟨cur, hb, hsz, hc⟩ := h.blk
  obtain ⟨vs, hvs⟩ : ∃ vs, (Builtin.zeroCells #[.int .u8 0, .string ⟨#[]⟩] n).toList = vs := ⟨_, rfl⟩
  have hlen : vs.length = n * 2 := by
    rw [← hvs, Array.length_toList, size_zeroCells]
    rfl
  have hst := run_storeCells_at (P := Tryd.prog) g (i * 2) 60 vs 0 cur w hb (by rw [hlen]; omega) (by rw [← hvs]; exact zero_one n)
  simp only [Nat.add_zero] at hst
  obtain ⟨nc, hnc⟩ : ∃ nc, (cur.toList.take (i * 2) ++ vs ++ cur.toList.drop (i * 2 + vs.length)).toArray = nc := ⟨_, rfl⟩
  rw [hnc] at hst
  have hnb : (w.setRow g nc).heap[g]? = some (.cells nc 60 (0, 0)) := setRow_heap w g cur nc 60 _ hb
  have hns : nc.size = cur.size := by
    rw [← hnc]
    simp [hlen]
    omega
  refine ⟨w.setRow g nc, ?_, ?_, ?_⟩
  rotate_left
  · refine RowB.mk ⟨nc, hnb, by omega, fun j r hj => ?_⟩ ?_
    rotate_left
    · rw [List.length_take]
      have := h.le
      omega
    have hji : j < i := by
      have := (List.getElem?_eq_some_iff.1 hj).1
      rw [List.length_take] at this
      omega
    rw [List.getElem?_take, if_pos hji] at hj
    have h1 := hc j r hj
    have hl1 : (cur.toList.take (i * 2)).length = i * 2 := by
      rw [List.length_take, Array.length_toList]
      omega
    have key : ∀ q, q < i * 2 → nc[q]? = cur[q]? := fun q hq => by
      rw [← hnc, List.getElem?_toArray, List.append_assoc, List.getElem?_append_left (by omega), List.getElem?_take, if_pos hq, Array.getElem?_toList]
    rw [key _ (by omega), key _ (by omega)]
    exact h1
  · exact ⟨rfl, rfl, rfl, by simp [World.setRow], fun k hk hne => by
      have : k ≠ g := fun e => hne (by rw [e])
      unfold World.setRow
      simp only [Array.getElem?_modify]
      rw [if_neg (Ne.symm this)]⟩
  · obtain ⟨m, rfl⟩ : ∃ m, n = m + 1 := ⟨n - 1, by omega⟩
    simp only [Builtin.clear_, run_underlying Tryd.underlying27]
    simp [Sem.run_bind, run_underlying Tryd.underlying27, zero_rule, Value.cells, hvs, hst, Result.andThen]
section
variable {ops : Array Oper} {rest : List Oper} {o : Oper} {a : Act} {Q : Exit → Act → World → Prop} {W : World}
theorem clear_event (hgd : o.guard = none) (m : Operand) (ho : o.op = .call { callee := .builtin .clear, args := #[m], argTypes := #[27] }) {g c i n cc : Nat} {l : List Ru} (hm : a.eval m = .slice (some ⟨g, i * 2, none⟩) n cc) (h0 : 0 < n) (hR : RowB W g c l) (hn : i + n ≤ c)
    (h : ∀ w1, RowB w1 g c (l.take i) → W.grownBy w1 (some g) → wpList Tryd.prog ops Q rest (a.put o.dst (.tuple #[])) w1) : wpList Tryd.prog ops Q (o :: rest) a W := by
  obtain ⟨w1, h1, h2, h3⟩ := clear_run hR h0 hn (cc := cc) o.type
  refine Kd.event_run hgd ?_ (h w1 h2 h3)
  simp [execOp, ho, resolve, invoke, builtin, hm, h1, Result.andThen]
end
def keptR (p : Ru → Bool) (l : List Ru) : List Ru := l.filter fun r => !p r
theorem kept_all {p : Ru → Bool} {l : List Ru} (h : ∀ x ∈ l, p x = false) : keptR p l = l := by
  unfold keptR
  rw [List.filter_eq_self]
  intro x hx
  rw [h x hx]
  rfl
theorem kept_succ {p : Ru → Bool} {l : List Ru} {j : Nat} {r : Ru} (h : l[j]? = some r) : keptR p (l.take (j + 1)) = keptR p (l.take j) ++ (if p r = true then [] else [r]) := by
  unfold keptR
  rw [take_succ_of h, List.filter_append]
  congr 1
  cases hp : p r with
  | true => simp [hp]
  | false => simp [hp]
theorem take_set_end {m : List Ru} {i : Nat} (hi : i < m.length) (r : Ru) : (m.set i r).take (i + 1) = m.take i ++ [r] := by
  rw [take_succ_of (List.getElem?_set_self hi), List.take_set_of_le (Nat.le_refl _)]
structure Dl (w0 : World) (g c : Nat) (p : Ru → Bool) (l : List Ru) (i j : Nat) (w : World) : Prop where
  row : ∃ m, RowB w g c m ∧ m.length = l.length ∧ m.take i = keptR p (l.take j) ∧ ∀ q, j ≤ q → m[q]? = l[q]?
  lt : i < j
  gr : w0.grownBy w (some g)
set_option maxHeartbeats 8000000 in
set_option maxRecDepth 100000 in
theorem delF_calls {f : Nat} {lb : Array Value} (eg : ∀ args w, (callFunc f args).run Tryd.prog w = .ok (.enter f args) w) {w : World} {g c : Nat} {p : Ru → Bool} {l : List Ru} (hR : RowB w g c l) (hp : PredR f lb w g p l) (hl : l.length ≤ 1000) :
    Calls Tryd.prog 75 #[.slice (some ⟨g, 0, none⟩) l.length c, .func (.func f) #[] lb] w fun e w' => e = .returned (.slice (some ⟨g, 0, none⟩) (keptR p l).length c) ∧ RowB w' g c (keptR p l) ∧ w.grownBy w' (some g) := by
  have HI := Lib.hid (idxF_calls eg hR hp hl)
  have HR := Lib.hid hR
  have HP := Lib.hid hp
  have hlc := hR.le
  clear hR hp
  go_enter Tryd.func75, Tryd.ntmps75
  go_wp2_with fail
  refine HI.out.mono ?_
  rintro e w1 ⟨⟨r0, rfl, hr⟩, hb1⟩
  have HR1 := Lib.hid (HR.out.later hb1)
  have HG1 := Lib.hid (grown_below (grown_refl w g) hb1)
  clear hb1 HI
  rcases hr with ⟨rfl, hno⟩ | ⟨k0, x0, rfl, hx0, hpx0, hno⟩
  · have HK := Lib.hid (kept_all hno)
    clear hno
    go_wp2
    go_ret
    rw [HK.out]
    exact ⟨rfl, HR1.out, HG1.out⟩
  · have hk0 : k0 < l.length := (List.getElem?_eq_some_iff.1 hx0).1
    have HD : Hid (Dl w g c p l k0 (k0 + 1) w1) := Lib.hid ⟨⟨l, HR1.out, rfl, by
      rw [kept_succ hx0, hpx0, if_pos rfl, List.append_nil, kept_all hno], fun _ _ => rfl⟩, by omega, HG1.out⟩
    have hki : ¬ (k0 : Int) = -1 := by omega
    clear hx0 hpx0 hno HR1 HG1
    have hke : ((k0 : Int) == -1) = false := by simp
    go_wp2_with fail
    go_loopw [5, 6] (fun i j wr => ∃ a b : Nat, b ≤ l.length ∧ i = .int .i64 a ∧ j = .int .i64 b ∧ Hid (Dl w g c p l a b wr)) (fun _ j _ => l.length - (intOf j).toNat)
    case atStart => exact ⟨k0, k0 + 1, by omega, rfl, by go_num, HD⟩
    case round =>
      clear HD
      obtain ⟨a, b, hb, rfl, rfl, HD⟩ := hrel
      obtain ⟨m, hm, hml, hmt, hmd⟩ := HD.out.row
      have HM := Lib.hid hm
      have HMT := Lib.hid hmt
      have HMD := Lib.hid hmd
      have hab := HD.out.lt
      clear hm hmt hmd
      by_cases hbl : b < l.length
      · have hbI : (b : Int) < (l.length : Int) := by omega
        obtain ⟨r, hr⟩ : ∃ r, l[b]? = some r := ⟨_, List.getElem?_eq_getElem hbl⟩
        have hmr : m[b]? = some r := (HMD.out b (Nat.le_refl _)).trans hr
        obtain ⟨y, hy⟩ : ∃ y, m[a]? = some y := ⟨_, List.getElem?_eq_getElem (by omega)⟩
        have c0 := HM.out.c0 hmr
        have c1 := HM.out.c1 hmr
        have HRR := Lib.hid hr
        have HKS := Lib.hid (kept_succ (p := p) hr)
        have HPW := Lib.hid (fun W hW => HP.out W r (List.mem_of_getElem? hr) hW)
        have HYA := Lib.hid hy
        obtain ⟨x, s⟩ := r
        simp only at c0 c1
        have hbc : b < c := by omega
        have hac : a < c := by omega
        have hal : a < l.length := by omega
        clear hr hmr hy
        go_wp2_with fail
        have hba := below_one (w := wr) (.cells #[.int .u8 x, .string s] 60)
        obtain ⟨d0, d1⟩ := rule_new wr 60 x s
        have HMA := Lib.hid (HM.out.later hba)
        have HGA := Lib.hid (grown_below HD.out.gr hba)
        have hgl : g < wr.heap.size := HM.out.lt
        obtain ⟨w2, hw2⟩ : ∃ w2, w2 = wr.alloc (.cells #[.int .u8 x, .string s] 60) := ⟨_, rfl⟩
        rw [← hw2] at d0 d1 HMA HGA ⊢
        have HGN := Lib.hid (show g ≠ wr.heap.size by omega)
        clear hba hw2 c0 c1 hgl
        generalize wr.heap.size = G at d0 d1 HGN ⊢
        refine (HPW.out w2 HGA.out).mono ?_
        rintro e w3 ⟨rfl, hb3⟩
        have HM3 := Lib.hid (HMA.out.later hb3)
        have HG3 := Lib.hid (grown_below HGA.out hb3)
        have f0 := (hb3.cell (p := ⟨G, 0, none⟩) (World.block_lt_of_cell? _ _ d0)).trans d0
        have f1 := (hb3.cell (p := ⟨G, 1, none⟩) (World.block_lt_of_cell? _ _ d1)).trans d1
        clear hb3 HMA HGA d0 d1 HPW HM
        have HEND : Hid (b + 1 ≤ l.length ∧ l.length - (intOf (.int .i64 ((b : Int) + 1))).toNat < l.length - (intOf (.int .i64 (b : Int))).toNat) := Lib.hid ⟨by omega, by simp [intOf]; omega⟩
        cases hpx : p (x, s) with
        | true =>
          have HD4 : Hid (Dl w g c p l a (b + 1) w3) := Lib.hid ⟨⟨m, HM3.out, hml, by rw [HKS.out, if_pos hpx, List.append_nil, HMT.out], fun q hq => HMD.out q (by omega)⟩, by omega, HG3.out⟩
          clear hpx
          go_wp2_with fail
          refine ⟨⟨a, b + 1, HEND.out.1, rfl, by go_num, HD4⟩, HEND.out.2⟩
        | false =>
          have g0 := HM3.out.c0 HYA.out
          have g1 := HM3.out.c1 HYA.out
          have z0 := HM3.out.fz (a * 2)
          have z1 := HM3.out.fz (a * 2 + 1)
          have HM4 := Lib.hid (HM3.out.set (show a < m.length by omega) (x, s))
          have HG4 := Lib.hid (grown_trans HG3.out (set2_grown w3 g (a * 2) (a * 2 + 1) (.int .u8 x) (.string s)))
          have HD4 : Hid (Dl w g c p l (a + 1) (b + 1) ((w3.setCell ⟨g, a * 2, none⟩ (.int .u8 x)).setCell ⟨g, a * 2 + 1, none⟩ (.string s))) := Lib.hid ⟨⟨m.set a (x, s), HM4.out, by simpa using hml, by rw [take_set_end (by omega), HKS.out, if_neg (by rw [hpx]; decide), HMT.out], fun q hq => by
            rw [List.getElem?_set_ne (by omega)]
            exact HMD.out q (by omega)⟩, by omega, HG4.out⟩
          clear hpx
          go_wp2_with fail
          refine ⟨⟨a + 1, b + 1, HEND.out.1, by go_num, by go_num, HD4⟩, HEND.out.2⟩
      · obtain rfl : b = l.length := by omega
        have hbI : ¬ ((l.length : Nat) : Int) < (l.length : Int) := by omega
        have HRES : Hid (m.take a = keptR p l) := Lib.hid (by
          have := HMT.out
          rw [List.take_length] at this
          exact this)
        have hal : a < l.length := by omega
        have hac : a ≤ c := by omega
        have hlen : (keptR p l).length = a := by
          rw [← HRES.out, List.length_take]
          omega
        have HLEN := Lib.hid hlen
        clear hlen
        go_wp2_with ((with_reducible refine gate_op (op := .call { callee := .builtin .clear, args := #[.tmp 38], argTypes := #[27] }) rfl ?_); go_loud (refine clear_event rfl (.tmp 38) rfl (l := m) (i := a) rfl (by omega) HM.out (by omega) ?_; intro w4 hr4 hg4; have HR4 := Lib.hid hr4; have HG4 := Lib.hid (grown_trans HD.out.gr hg4); clear hr4 hg4))
        go_ret
        have HR5 := HR4.out
        rw [HRES.out] at HR5
        rw [HLEN.out]
        exact ⟨rfl, HR5, HG4.out⟩
end Go.Proofs.YtjpfalanoifpbaaDoor.X
end

section
set_option linter.unusedVariables false
set_option linter.unusedSimpArgs false
namespace Go.Proofs.YtjpfalanoifpbaaDoor.X
open Go.RowKit Go.Proofs.YtjpfalanoifpbaaDoorW.PrintWords Go.Proofs.YtjpfalanoifpbaaDoorW.PrintLast Go.Proofs.YtjpfalanoifpbaaDoorW.PrintMore Go.Proofs.YtjpfalanoifpbaaDoor.T
theorem rulesL_get (L : Nat → Int) (R : Nat → ByteArray) {n j : Nat} {p : Ru} (h : (rulesL L R n)[j]? = some p) : j < n ∧ p = (L j, R j) := by
  unfold rulesL at h
  rw [List.getElem?_map] at h
  obtain ⟨i, hi, hp⟩ := Option.map_eq_some_iff.1 h
  obtain ⟨hj, e⟩ := List.getElem?_eq_some_iff.1 hi
  rw [List.length_range] at hj
  rw [List.getElem_range] at e
  subst e
  exact ⟨hj, hp.symm⟩
theorem rls_kr {w : World} {b off n : Nat} {L : Nat → Int} {R : Nat → ByteArray} (h : Rls w b off n L R) (hn : n ≤ 1000) : KR.C w (some ⟨b, off, none⟩) n (rulesL L R n) := by
  refine ⟨rulesL_len L R n, by omega, fun h0 => ⟨_, rfl, fun j p hj => ?_⟩⟩
  obtain ⟨hjn, rfl⟩ := rulesL_get L R hj
  refine ⟨[.int .u8 (L j), .string (R j)], rfl, ⟨[.int .u8 (L j)], [.string (R j)], rfl, rfl, rfl⟩, fun i u hu => ?_⟩
  have h0 := h.c0 j hjn
  have h1 := h.c1 j hjn
  have ha : ∀ q, (⟨b, off, none⟩ : Addr).add q = ⟨b, off + q, none⟩ := fun q => by
    unfold Addr.add
    by_cases hq : q = 0
    · subst hq; simp
    · rw [if_neg hq]
  rw [ha]
  match i, hu with
  | 0, hu =>
    have e : Value.int .u8 (L j) = u := by simpa using hu
    rw [← e]
    exact h0
  | 1, hu =>
    have e : Value.string (R j) = u := by simpa using hu
    rw [← e]
    exact h1
theorem rr_rowB {w : World} {B : Nat} {ok : Nat → Prop} {v : Value} {l : List Ru} (h : Kd.R KR 60 w B ok v l) (h0 : 0 < l.length) : ∃ g c, v = .slice (some ⟨g, 0, none⟩) l.length c ∧ B ≤ g ∧ RowB w g c l := by
  obtain ⟨A, c, e1, hcc, hC⟩ := Kd.R_reads h
  obtain ⟨-, inner, ho, -⟩ := h
  rcases ho.2 with ⟨e, e2⟩ | ⟨g, cap, cur, e, hg, hb, hle, -, hsz, -⟩
  · omega
  · rw [e] at e1
    injection e1 with q1 q2 q3
    subst q1
    subst q3
    obtain ⟨ad, hA, hr⟩ := hC.2.2 h0
    injection hA with hA
    subst hA
    refine ⟨g, cap, e, hg, ⟨⟨cur, hb, Nat.le_of_eq hsz.symm, fun j r hj => ?_⟩, hcc⟩⟩
    obtain ⟨cs, hs, hk, hcell⟩ := hr j r hj
    have e := kr_cells hk
    subst e
    have ha : ∀ q, (⟨g, 0, none⟩ : Addr).add q = ⟨g, q, none⟩ := fun q => by
      unfold Addr.add
      by_cases hq : q = 0
      · subst hq; simp
      · rw [if_neg hq]; simp
    have k0 := hcell 0 _ rfl
    have k1 := hcell 1 _ rfl
    rw [ha, blk_cell hb] at k0 k1
    exact ⟨k0, k1⟩
theorem rr_new60 (w : World) : RR 60 w.heap.size (w.alloc (.cells #[] 60)) (.slice (some ⟨w.heap.size, 0, none⟩) 0 0) [] :=
  ⟨fun _ _ => trivial, OwnRow.lit (ps := ([] : List Ru)) (inner := []) w w.heap.size (Reps.none _ _) (Nat.le_refl _) (by simp)⟩
set_option maxHeartbeats 8000000 in
set_option maxRecDepth 100000 in
theorem clone_calls (b off n c : Nat) (L : Nat → Int) (R : Nat → ByteArray) (w : World) (hP : Rls w b off n L R) (h0 : 0 < n) (hn : n ≤ 1000) :
    Calls Tryd.prog 42 #[.slice (some ⟨b, off, none⟩) n c] w fun e w' => (∃ g c, e = .returned (.slice (some ⟨g, 0, none⟩) n c) ∧ w.heap.size ≤ g ∧ RowB w' g c (rulesL L R n)) ∧ Below w.heap.size w w' := by
  have HC := Lib.hid (rls_kr hP hn)
  clear hP
  have hx := fun w : World => Lib.run_eql_slice_nil (P := Tryd.prog) w 27 60 (some ⟨b, off, none⟩) n c 0 0 Tryd.underlying27
  have hbl := below_alloc (Below.refl w.heap.size w) (.cells #[] 60)
  have HBL := Lib.hid hbl
  clear hbl
  have HL := Lib.hid (rulesL_len L R n)
  go_enter Tryd.func42, Tryd.ntmps42
  go_wp2_with (at_builtin; refine Kd.R_append_rows KR (Rr := KR.K w) (w0 := w) w.heap.size rfl (.tmp 5) (.tmp 6) 27 60 (.agg #[.int .u8 0, .string ByteArray.empty]) 24 rfl Tryd.underlying27 info60 rfl (by decide) (by decide) (.slice (some ⟨w.heap.size, 0, none⟩) 0 0) [] (rulesL L R n) (some ⟨b, off, none⟩) n c (fun _ => True) (fun _ => False) rfl rfl (rr_new60 w) (Kd.C_below HC.out HBL.out) (fun x cs h => h) (fun _ h => h.elim) (fun _ _ => trivial) HBL.out HBL.out.size (by simp; omega) ?_; intro v1 w4 hv hb hg hat; have HV := Lib.hid hv; have HB := Lib.hid hb; clear hv hb hg hat)
  obtain ⟨g, c2, rfl, hg, hr⟩ := rr_rowB HV.out (by rw [List.nil_append, HL.out]; omega)
  rw [List.nil_append, HL.out]
  rw [List.nil_append] at hr
  go_ret
  exact ⟨⟨g, c2, rfl, hg, hr⟩, HB.out⟩
end Go.Proofs.YtjpfalanoifpbaaDoor.X
end

section
set_option linter.unusedVariables false
set_option linter.unusedSimpArgs false
namespace Go.Proofs.YtjpfalanoifpbaaDoor.X
open Go.RowKit Go.Proofs.YtjpfalanoifpbaaDoorW.PrintWords Go.Proofs.YtjpfalanoifpbaaDoorW.PrintLast Go.Proofs.YtjpfalanoifpbaaDoorW.PrintMore Go.Proofs.YtjpfalanoifpbaaDoor.T
theorem row_put {α : Type} [Inhabited α] (enc : α → Value) (w : World) (m g : Nat) (d : Array α) (os : Array Obj) {cur : Array Value} {e : TypeId} (hb : w.heap[g]? = some (.cells cur e (0, 0))) (hd : d.size ≤ cur.size) :
    (∃ cur', (Go.Sort.grow (Go.Sort.putRow enc (Go.Sort.ahead w m) g 0 d) os).heap[g]? = some (.cells cur' e (0, 0)) ∧ cur'.size = cur.size ∧ cur'.toList.take d.size = d.toList.map enc) ∧
      w.grownBy (Go.Sort.grow (Go.Sort.putRow enc (Go.Sort.ahead w m) g 0 d) os) (some g) := by
  have hg := (Array.getElem?_eq_some_iff.1 hb).1
  have hs : (Go.Sort.putRow enc (Go.Sort.ahead w m) g 0 d).heap.size = w.heap.size := by
    unfold Go.Sort.putRow Go.Sort.mapBlock Go.Sort.ahead
    simp
  refine ⟨⟨Go.Sort.putCells enc 0 d cur, ?_, ?_, ?_⟩, ⟨rfl, rfl, rfl, ?_, ?_⟩⟩
  · unfold Go.Sort.grow
    rw [Array.getElem?_append_left (by rw [hs]; exact hg)]
    unfold Go.Sort.putRow Go.Sort.mapBlock Go.Sort.ahead
    rw [Array.getElem?_modify, if_pos rfl, hb]
    rfl
  · unfold Go.Sort.putCells; simp
  · apply List.ext_getElem
    · unfold Go.Sort.putCells; simp; omega
    · intro i h1 h2
      have hi : i < d.size := by simpa using h2
      unfold Go.Sort.putCells
      simp only [List.getElem_take, Array.getElem_toList, Array.getElem_mapIdx, List.getElem_map, Nat.zero_le, Nat.zero_add, true_and, Nat.sub_zero, if_pos hi]
      rw [getElem!_pos d i hi]
  · unfold Go.Sort.grow
    simp only [Array.size_append]
    rw [hs]
    omega
  · intro k hk hne
    have hne' : g ≠ k := fun e => hne (by rw [e])
    unfold Go.Sort.grow
    rw [Array.getElem?_append_left (by rw [hs]; exact hk)]
    unfold Go.Sort.putRow Go.Sort.mapBlock Go.Sort.ahead
    rw [Array.getElem?_modify, if_neg hne']
def encU (r : Ru) : List Value := [.int .u8 r.1, .string r.2]
def cfB (b : Int) (r s : Ru) : Int := cmpB b r.1 s.1
theorem lt_cfB (b : Int) (r s : Ru) : ltOf (cfB b) r s = (isB b r && !isB b s) := by
  unfold ltOf cfB cmpB isB
  by_cases h1 : r.1 = b <;> by_cases h2 : s.1 = b <;> simp [h1, h2]
theorem arr_at {d : Array Ru} {i : Nat} {x : Ru} (h : d.toList[i]? = some x) : d[i]! = x := by
  obtain ⟨hi, e⟩ := List.getElem?_eq_some_iff.1 h
  have hi' : i < d.size := by simpa using hi
  rw [getElem!_pos d i hi']
  simpa using e
theorem inner_part {b : Int} {l : List Ru} {x : Ru} {rest : List Ru} : ∀ (j : Nat) (d : Array Ru), d.toList = down (T.part b l) x rest j → j ≤ l.length → (isB b x = true → nB b l ≤ j) → (isB b x = false → j = l.length) →
    (Go.Sort.insInner (ltOf (cfB b)) 0 j d).toList = T.part b (l ++ [x]) ++ rest
  | 0, d, hd, hj, h1, h2 => by
    rw [Go.Proofs.insInner_stop _ _ _ _ (.inl (Nat.le_refl 0)), hd]
    cases hx : isB b x with
    | true =>
      have h0 := h1 hx
      rw [← down_end hx, show nB b l = 0 by omega]
    | false =>
      have h0 := h2 hx
      rw [← down_stay hx]
      have : T.part b l = [] := List.eq_nil_of_length_eq_zero (by rw [part_length]; omega)
      unfold down
      rw [this]
      rfl
  | j + 1, d, hd, hj, h1, h2 => by
    have hpl := part_length b l
    obtain ⟨y, hy⟩ : ∃ y, (T.part b l)[j]? = some y := ⟨_, List.getElem?_eq_getElem (by omega)⟩
    have a1 : d[j + 1]! = x := arr_at (by rw [hd]; exact down_at (by omega))
    have a2 : d[j]! = y := arr_at (by rw [hd, down_before (by omega)]; exact hy)
    have hyB := part_at hy
    have hlt : ltOf (cfB b) d[j + 1]! d[j + 1 - 1]! = (isB b x && !decide (j < nB b l)) := by
      rw [Nat.add_sub_cancel, a1, a2, lt_cfB, hyB]
    by_cases hc : isB b x = true ∧ nB b l ≤ j
    · have hn : ¬ j < nB b l := by omega
      rw [Go.Proofs.insInner_go _ _ _ _ (by omega) (by rw [hlt]; simp [hc.1, hn]), Nat.add_sub_cancel]
      refine inner_part j _ ?_ (by omega) (fun _ => hc.2) (fun q => by rw [hc.1] at q; cases q)
      unfold Go.Sort.swp
      rw [Array.toList_setIfInBounds, Array.toList_setIfInBounds, hd, a1, a2]
      exact down_swap (rest := rest) hy
    · rw [Go.Proofs.insInner_stop _ _ _ _ (.inr (by
        rw [hlt]
        cases hx : isB b x with
        | false => rfl
        | true =>
          have : j < nB b l := by
            have : ¬ nB b l ≤ j := fun q => hc ⟨hx, q⟩
            omega
          simp [this])), hd]
      cases hx : isB b x with
      | true =>
        have h0 := h1 hx
        have : nB b l = j + 1 := by
          have : ¬ nB b l ≤ j := fun q => hc ⟨hx, q⟩
          omega
        rw [← down_end hx, this]
      | false =>
        have h0 := h2 hx
        rw [← down_stay hx, ← down_all, hpl, h0]
theorem outer_part {b : Int} {l : List Ru} : ∀ (m k : Nat) (d : Array Ru), l.length - k = m → d.toList = T.part b (l.take k) ++ l.drop k → (Go.Sort.insOuter (ltOf (cfB b)) 0 l.length k d).toList = T.part b l
  | 0, k, d, hm, hd => by
    rw [Go.Proofs.insOuter_stop _ _ _ _ _ (by omega), hd, List.take_of_length_le (by omega), List.drop_eq_nil_of_le (by omega), List.append_nil]
  | m + 1, k, d, hm, hd => by
    have hk : k < l.length := by omega
    rw [Go.Proofs.insOuter_go _ _ _ _ _ hk]
    refine outer_part m (k + 1) _ (by omega) ?_
    have htl : (l.take k).length = k := by rw [List.length_take]; omega
    have e : l.take (k + 1) = l.take k ++ [l[k]] := take_succ_of (List.getElem?_eq_getElem hk)
    rw [e]
    refine inner_part k d ?_ (by omega) (fun _ => ?_) (fun _ => htl.symm)
    · rw [hd, List.drop_eq_getElem_cons hk]
      have := down_all (p := T.part b (l.take k)) (x := l[k]) (rest := l.drop (k + 1))
      rw [part_length, htl] at this
      rw [this]
    · unfold nB
      have := List.length_filter_le (isB b) (l.take k)
      omega
theorem sort_part (b : Int) (l : List Ru) : (Go.Sort.insertionSort (ltOf (cfB b)) l.toArray 0 l.length).toList = T.part b l := by
  unfold Go.Sort.insertionSort
  refine outer_part (l.length - 1) 1 _ rfl ?_
  cases l with
  | nil => rfl
  | cons x l =>
    show x :: l = T.part b [x] ++ l
    unfold T.part
    cases h : isB b x <;> simp [h]
theorem flatU_get {d : Array Ru} {j : Nat} {r : Ru} (h : d.toList[j]? = some r) : (Go.Sort.flatK encU 2 d)[j * 2]? = some (.int .u8 r.1) ∧ (Go.Sort.flatK encU 2 d)[j * 2 + 1]? = some (.string r.2) := by
  have hj : j < d.size := by
    have := (List.getElem?_eq_some_iff.1 h).1
    simpa using this
  have hs := Go.Sort.size_flatK encU 2 d
  have a0 := Go.Sort.get_flatK encU 2 d (j * 2) (by omega)
  have a1 := Go.Sort.get_flatK encU 2 d (j * 2 + 1) (by omega)
  rw [show j * 2 / 2 = j by omega, show j * 2 % 2 = 0 by omega, arr_at h, getElem!_pos _ (j * 2) (by omega)] at a0
  rw [show (j * 2 + 1) / 2 = j by omega, show (j * 2 + 1) % 2 = 1 by omega, arr_at h, getElem!_pos _ (j * 2 + 1) (by omega)] at a1
  rw [Array.getElem?_eq_getElem (by omega), Array.getElem?_eq_getElem (by omega), a0, a1]
  exact ⟨rfl, rfl⟩
theorem rowB_holds {w : World} {g c : Nat} {l : List Ru} (h : RowB w g c l) : Go.Sort.HoldsK encU 2 w g 0 l.toArray := by
  intro t ht
  have ht2 : t < l.length * 2 := by simpa using ht
  obtain ⟨r, hr⟩ : ∃ r, l[t / 2]? = some r := ⟨_, List.getElem?_eq_getElem (by omega)⟩
  have c0 := h.c0 hr
  have c1 := h.c1 hr
  have hf := h.fz t
  rw [Nat.zero_add]
  refine ⟨?_, hf⟩
  have a := Go.Sort.get_flatK encU 2 l.toArray t (by simpa using ht2)
  rw [arr_at (d := l.toArray) hr] at a
  rw [a]
  rcases Nat.mod_two_eq_zero_or_one t with e | e
  · rw [e]
    rw [show t = t / 2 * 2 by omega]
    exact c0
  · rw [e]
    rw [show t = t / 2 * 2 + 1 by omega]
    exact c1
def sortR_ren : Go.Shelf.Ren := ⟨fun | 20 => 125 | n => n, fun | 0 => 0 | 3 => 3 | 4 => 4 | 22 => 27 | 24 => 60 | 25 => 109 | n => n, fun | n => n⟩
theorem sortR : Go.Proofs.SlLaysF0.n20 Tryd.prog sortR_ren := {
  mixed := by kernel_rfl
  f20 := ⟨Tryd.f125.name, by decide, Tryd.func125.trans (congrArg some (by kernel_rfl))⟩
  t0 := Tryd.underlying0
  a0 := Tryd.isAgg0
  z0 := Tryd.sizeOf0
  v0 := Tryd.zeroValue0
  t3 := Tryd.underlying3
  a3 := Tryd.isAgg3
  z3 := Tryd.sizeOf3
  v3 := Tryd.zeroValue3
  t4 := Tryd.underlying4
  a4 := Tryd.isAgg4
  z4 := Tryd.sizeOf4
  v4 := Tryd.zeroValue4
  t22 := Tryd.underlying27
  a22 := Tryd.isAgg27
  z22 := Tryd.sizeOf27
  v22 := Tryd.zeroValue27
  t25 := Tryd.underlying109
  a25 := Tryd.isAgg109
  z25 := Tryd.sizeOf109
  v25 := Tryd.zeroValue109 }
set_option maxHeartbeats 2000000 in
set_option maxRecDepth 100000 in
theorem trim3_grown (b l m : Int) (s t : ByteArray) (G : Nat) (w : World) (hc : w.cell? ⟨G, 0, none⟩ = some (.int .u8 b)) :
    Calls Tryd.prog 82 #[.agg #[.int .u8 l, .string s], .agg #[.int .u8 m, .string t], .pointer (some ⟨G, 0, none⟩)] w fun e w' => e = .returned (.int .i64 (cmpB b l m)) ∧ ∃ q os', w' = Go.Sort.grow (w.drewN q) os' := by
  have hGlt := World.block_lt_of_cell? _ _ hc
  have HB : Hid (∃ q os', (w.alloc (.cells #[.int .u8 l, .string s] 60)).alloc (.cells #[.int .u8 m, .string t] 60) = Go.Sort.grow (w.drewN q) os') := Lib.hid ⟨0, #[.cells #[.int .u8 l, .string s] 60, .cells #[.int .u8 m, .string t] 60], by
    unfold Go.Sort.grow World.drewN World.alloc
    simp only [World.mk.injEq, and_true, true_and]
    refine ⟨?_, ?_⟩
    · apply Array.ext'
      simp
    · rfl⟩
  unfold cmpB
  by_cases h1 : l = b
  · by_cases h2 : m = b
    · have h1t : (l == b) = true := by rw [h1]; exact beq_self_eq_true _
      rw [if_neg (fun q => q.2 h2), if_neg (fun q => q.1 h1)]
      subst h1 h2
      go_enter Tryd.func82, Tryd.ntmps82
      go_wp2
      go_ret
      exact ⟨rfl, HB.out⟩
    · rw [if_pos ⟨h1, h2⟩]
      subst h1
      go_enter Tryd.func82, Tryd.ntmps82
      go_wp2
      go_ret
      exact ⟨rfl, HB.out⟩
  · by_cases h2 : m = b
    · rw [if_neg (fun q => h1 q.1), if_pos ⟨h1, h2⟩]
      subst h2
      go_enter Tryd.func82, Tryd.ntmps82
      go_wp2
      go_ret
      exact ⟨rfl, HB.out⟩
    · rw [if_neg (fun q => h1 q.1), if_neg (fun q => h2 q.2)]
      have h2b : (m == b) = false := by rw [beq_eq_false_iff_ne]; exact h2
      have h1b : (l == b) = false := by rw [beq_eq_false_iff_ne]; exact h1
      go_enter Tryd.func82, Tryd.ntmps82
      go_wp2
      go_ret
      exact ⟨rfl, HB.out⟩
theorem cmpU {w : World} {g H : Nat} {b : Int} (size : Nat) (hne : H ≠ g) (hc : w.cell? ⟨H, 0, none⟩ = some (.int .u8 b)) : CmpLays Tryd.prog 82 #[.pointer (some ⟨H, 0, none⟩)] encU 2 (cfB b) g 0 size w := by
  intro m os dk hs x y
  have hlt := World.block_lt_of_cell? _ _ hc
  refine trim3_grown b x.1 y.1 x.2 y.2 H _ ?_
  unfold Go.Proofs.sortWorldK
  rw [Go.Sort.cell?_grow _ _ _ (by rw [Go.Sort.size_putRowK]; exact hlt), Go.Sort.cell?_putRowK_other _ _ _ _ _ _ _ hne]
  exact hc
theorem sortU_calls {w : World} {g c H : Nat} {b : Int} {l : List Ru} (hR : RowB w g c l) (hl : l.length ≤ 1000) (hne : H ≠ g) (hc : w.cell? ⟨H, 0, none⟩ = some (.int .u8 b)) :
    Calls Tryd.prog 125 #[.slice (some ⟨g, 0, none⟩) l.length c, .int .i64 0, .int .i64 l.length, .func (.func 82) #[] #[.pointer (some ⟨H, 0, none⟩)]] w fun e w' => e = .returned (.tuple #[]) ∧ RowB w' g c (T.part b l) ∧ w.grownBy w' (some g) := by
  have h := AnyQ.insertionSortCmpFunc sortR 2 Tryd.isAgg60 Tryd.sizeOf60 encU (fun _ => rfl) (fun x v hv => by simp [encU] at hv; rcases hv with rfl | rfl <;> rfl) (cfB b) 82 #[.pointer (some ⟨H, 0, none⟩)] g 0 c 0 l.length l.toArray w (fun args w => enters_ Tryd.func82 (by kernel_rfl) rfl args w) (cmpU l.toArray.size hne hc) (rowB_holds hR) hR.lt (Nat.zero_le _) (by simp) (by simp; omega)
  change Calls Tryd.prog 125 _ _ _ at h
  rw [show l.toArray.size = l.length by simp] at h
  refine h.mono ?_
  rintro e w' ⟨rfl, n, os, rfl⟩
  have hp := sort_part b l
  generalize Go.Sort.insertionSort (ltOf (cfB b)) l.toArray 0 l.length = d at hp
  obtain ⟨cur, hb, hsz, -⟩ := hR.blk
  have hds : d.size = l.length := by
    have := congrArg List.length hp
    rw [part_length] at this
    simpa using this
  have hk : (Go.Sort.flatK encU 2 d).size = l.length * 2 := by rw [Go.Sort.size_flatK, hds]
  have hle := hR.le
  obtain ⟨⟨cur', c1, c2, c3⟩, hg⟩ := row_put id w n g (Go.Sort.flatK encU 2 d) os hb (by rw [hk]; omega)
  refine ⟨rfl, ⟨⟨cur', c1, by omega, fun j r hj => ?_⟩, by rw [part_length]; exact hle⟩, hg⟩
  rw [← hp] at hj
  obtain ⟨k0, k1⟩ := flatU_get hj
  have hjl : j < l.length := by
    have := (List.getElem?_eq_some_iff.1 hj).1
    simp at this
    omega
  have key : ∀ t, t < l.length * 2 → cur'[t]? = (Go.Sort.flatK encU 2 d)[t]? := fun t ht => by
    have := congrArg (fun q => q[t]?) c3
    simp only [List.map_id] at this
    rw [List.getElem?_take, if_pos (by omega), Array.getElem?_toList, Array.getElem?_toList] at this
    exact this
  rw [key _ (by omega), key _ (by omega)]
  exact ⟨k0, k1⟩
end Go.Proofs.YtjpfalanoifpbaaDoor.X
end

section
set_option linter.unusedVariables false
set_option linter.unusedSimpArgs false
namespace Go.Proofs.YtjpfalanoifpbaaDoor.X
open Go.RowKit Go.Proofs.YtjpfalanoifpbaaDoorW.PrintWords Go.Proofs.YtjpfalanoifpbaaDoorW.PrintLast Go.Proofs.YtjpfalanoifpbaaDoorW.PrintMore Go.Proofs.YtjpfalanoifpbaaDoor.T
set_option maxHeartbeats 2000000 in
set_option maxRecDepth 100000 in
theorem stable_calls {w : World} {g c H : Nat} {b : Int} {l : List Ru} (hR : RowB w g c l) (hl : l.length < 20) (hne : H ≠ g) (hc : w.cell? ⟨H, 0, none⟩ = some (.int .u8 b)) :
    Calls Tryd.prog 106 #[.slice (some ⟨g, 0, none⟩) l.length c, .int .i64 l.length, .func (.func 82) #[] #[.pointer (some ⟨H, 0, none⟩)]] w fun e w' => e = .returned (.tuple #[]) ∧ RowB w' g c (T.part b l) ∧ w.grownBy w' (some g) := by
  have HS := Lib.hid (sortU_calls hR (by omega) hne hc)
  have hlI : (l.length : Int) < 20 := by omega
  have hlI2 : ¬ (20 : Int) ≤ (l.length : Int) := by omega
  have hlI3 : ¬ (20 : Int) < (l.length : Int) := by omega
  clear hR hc
  go_enter Tryd.func106, Tryd.ntmps106
  go_wp2_with fail
  refine wp_loop_rounds 1 ?_
  rw [rounds_succ]
  go_wp2_with fail
  refine HS.out.mono ?_
  rintro e w1 ⟨rfl, hr1, hg1⟩
  have HR1 := Lib.hid (And.intro hr1 hg1)
  clear hr1 hg1 HS
  go_wp2_with fail
  refine wp_loop_rounds 1 ?_
  rw [rounds_succ]
  go_wp2_with fail
  go_end0
  exact ⟨rfl, HR1.out⟩
set_option maxHeartbeats 2000000 in
set_option maxRecDepth 100000 in
theorem sorted_calls {w : World} {g c H : Nat} {b : Int} {l : List Ru} (hR : RowB w g c l) (hl : l.length < 20) (hne : H ≠ g) (hc : w.cell? ⟨H, 0, none⟩ = some (.int .u8 b)) :
    Calls Tryd.prog 81 #[.slice (some ⟨g, 0, none⟩) l.length c, .func (.func 82) #[] #[.pointer (some ⟨H, 0, none⟩)]] w fun e w' => e = .returned (.tuple #[]) ∧ RowB w' g c (T.part b l) ∧ w.grownBy w' (some g) := by
  have HS := Lib.hid (stable_calls hR hl hne hc)
  clear hR hc
  go_enter Tryd.func81, Tryd.ntmps81
  go_wp2_with fail
  refine HS.out.mono ?_
  rintro e w1 ⟨rfl, hr1, hg1⟩
  have HR1 := Lib.hid (And.intro hr1 hg1)
  clear hr1 hg1 HS
  go_wp2_with fail
  go_end0
  exact ⟨rfl, HR1.out⟩
end Go.Proofs.YtjpfalanoifpbaaDoor.X
end

section
set_option linter.unusedVariables false
set_option linter.unusedSimpArgs false
namespace Go.Proofs.YtjpfalanoifpbaaDoor.X
open Go.RowKit Go.Proofs.YtjpfalanoifpbaaDoorW.PrintWords Go.Proofs.YtjpfalanoifpbaaDoorW.PrintLast Go.Proofs.YtjpfalanoifpbaaDoorW.PrintMore Go.Proofs.YtjpfalanoifpbaaDoor.T
theorem below_grown {w0 w w' : World} {g : Nat} (h : Below w0.heap.size w0 w) (hg : w.grownBy w' (some g)) (hge : w0.heap.size ≤ g) : Below w0.heap.size w0 w' :=
  ⟨hg.os.trans h.os, hg.tape.trans h.tape, hg.output.trans h.output, Nat.le_trans h.size hg.size, fun k hk => (hg.block k (Nat.lt_of_lt_of_le hk h.size) (fun e => by injection e with e; omega)).trans (h.block k hk)⟩
theorem grown_cell {w w' : World} {g H i : Nat} {v : Value} (hg : w.grownBy w' (some g)) (hne : H ≠ g) (hc : w.cell? ⟨H, i, none⟩ = some v) : w'.cell? ⟨H, i, none⟩ = some v := by
  have hlt := World.block_lt_of_cell? _ _ hc
  have := hg.block H hlt (fun e => by injection e with e; exact hne e)
  unfold World.cell? at hc ⊢
  simp only at hc ⊢
  rw [this]
  exact hc
theorem rules_ok {L : Nat → Int} {R : Nat → ByteArray} {n : Nat} (hg : Gr L R n) {r : Ru} (h : r ∈ rulesL L R n) : isP r.1 = true ∧ okR r.2 ∧ r.2.size ≤ 4 := by
  obtain ⟨j, hj⟩ := List.getElem?_of_mem h
  obtain ⟨hjn, rfl⟩ := rulesL_get L R hj
  exact ⟨(hg.ok j hjn).1, (hg.ok j hjn).2, hg.sz j hjn⟩
def p1 (u : Nat) (r : Ru) : Bool := !(inS u r.1 && allU u r.2)
def p2 (e : Nat) (r : Ru) : Bool := !inS e r.1
theorem kept_useful {L : Nat → Int} {R : Nat → ByteArray} {n : Nat} (hg : Gr L R n) : keptR (p1 (usefulN L R n)) (rulesL L R n) = keepU (usefulN L R n) (rulesL L R n) := by
  unfold keptR keepU
  apply List.filter_congr
  intro r hr
  obtain ⟨j, hj⟩ := List.getElem?_of_mem hr
  obtain ⟨hjn, rfl⟩ := rulesL_get L R hj
  unfold p1 inS
  rw [Bool.not_not, (hg.ok j hjn).1, Bool.true_and]
  cases ha : allU (usefulN L R n) (R j) with
  | false => simp only [ha, Bool.and_false]
  | true => simp only [ha, useful_closed hg.ok hjn ha, Bool.and_true]
theorem kept_reached {e : Nat} {K : List Ru} (h : ∀ r ∈ K, isP r.1 = true) : keptR (p2 e) K = keepR e K := by
  unfold keptR keepR
  apply List.filter_congr
  intro r hr
  unfold p2 inS
  rw [Bool.not_not, h r hr, Bool.true_and]
theorem pred1 {w : World} {g GU u : Nat} {l : List Ru} (hu : u < 32) (hl : ∀ r ∈ l, okR r.2) (hne : GU ≠ g) (hc : w.cell? ⟨GU, 0, none⟩ = some (.int .i64 u)) : PredR 76 #[.pointer (some ⟨GU, 0, none⟩)] w g (p1 u) l :=
  fun W r hr hW => trim1_calls r.1 r.2 u GU W hu (hl r hr) (grown_cell hW hne hc)
theorem pred2 {w : World} {g GU u : Nat} {l : List Ru} (hu : u < 32) (hne : GU ≠ g) (hc : w.cell? ⟨GU, 0, none⟩ = some (.int .i64 u)) : PredR 80 #[.pointer (some ⟨GU, 0, none⟩)] w g (p2 u) l :=
  fun W r hr hW => trim2_calls r.1 r.2 u GU W hu (grown_cell hW hne hc)
def lB (e : Nat) (s : ByteArray) (j : Nat) : Nat := e ||| bitsTo s j
theorem lB_lt {e : Nat} (h : e < 32) (s : ByteArray) (j : Nat) : lB e s j < 32 := or_lt h (bitsTo_lt j)
theorem lB_succ (e : Nat) (s : ByteArray) (j : Nat) : lB e s (j + 1) = if isP (ch s j) = true then lB e s j ||| 2 ^ pn (ch s j) else lB e s j := by
  unfold lB
  rw [bitsTo]
  split
  · rw [Nat.or_assoc]
  · rfl
structure Tq (w0 : World) (g c GB H8 : Nat) (l0 : Int) (K : List Ru) (e : Nat) (w : World) : Prop where
  row : RowB w g c K
  beg : w.cell? ⟨GB, 0, none⟩ = some (.int .u8 l0)
  re : w.cell? ⟨H8, 0, none⟩ = some (.int .i64 e)
  fz : w.frozen? ⟨H8, 0, none⟩ = false
  bl : Below w0.heap.size w0 w
  ng : g ≠ H8
  nb : GB ≠ H8
  ge : w0.heap.size ≤ H8
theorem Tq.later {w0 w w' : World} {g c GB H8 e : Nat} {l0 : Int} {K : List Ru} (h : Tq w0 g c GB H8 l0 K e w) (hb : Below w.heap.size w w') : Tq w0 g c GB H8 l0 K e w' := by
  have hlt := World.block_lt_of_cell? _ _ h.re
  refine ⟨h.row.later hb, (hb.cell (p := ⟨GB, 0, none⟩) (World.block_lt_of_cell? _ _ h.beg)).trans h.beg, (hb.cell (p := ⟨H8, 0, none⟩) hlt).trans h.re, ?_, h.bl.trans (hb.mono h.bl.size), h.ng, h.nb, h.ge⟩
  have := hb.block H8 hlt
  have hf := h.fz
  unfold World.frozen? at hf ⊢
  simp only at hf ⊢
  rw [this]
  exact hf
theorem Tq.put {w0 w : World} {g c GB H8 e : Nat} {l0 : Int} {K : List Ru} (h : Tq w0 g c GB H8 l0 K e w) (e' : Nat) : Tq w0 g c GB H8 l0 K e' (w.setCell ⟨H8, 0, none⟩ (.int .i64 e')) := by
  refine ⟨?_, (cell_set_other _ h.nb).trans h.beg, World.cell?_setCell_same' _ _ _ (by rw [h.re]; rfl), by rw [World.frozen?_setCell]; exact h.fz, h.bl.setCell (p := ⟨H8, 0, none⟩) h.ge _, h.ng, h.nb, h.ge⟩
  obtain ⟨cur, h1, h2⟩ := h.row.blk
  exact ⟨⟨cur, (Below.heap_setCell w ⟨H8, 0, none⟩ _ g h.ng).trans h1, h2⟩, h.row.le⟩
set_option maxHeartbeats 16000000 in
set_option maxRecDepth 100000 in
theorem Trim_yes (A : Option Addr) (n c : Nat) (L : Nat → Int) (R : Nat → ByteArray) (w : World) (hA : Sr w A n c L R) (hg : Gram L R n) (hu : (usefulN L R n).testBit (pn (L 0)) = true) :
    Calls Tryd.prog 37 #[.slice A n c] w fun e w' => (∃ g c', e = .returned (.tuple #[.slice (some ⟨g, 0, none⟩) (trimL (usefulN L R n) (L 0) (rulesL L R n)).length c', .int .i64 0]) ∧ w.heap.size ≤ g ∧ RowB w' g c' (trimL (usefulN L R n) (L 0) (rulesL L R n))) ∧ Below w.heap.size w w' := by
  have h8 := hg.1.2
  have hn1 := hg.1.1
  have HA := Lib.hid hA
  have HG := Lib.hid hg.gr
  have HV := Lib.hid fun (w : World) (h : Sr w A n c L R) => valid_calls A n c L R w h (by omega) (fun k hk => Nat.le_trans (hg.2 k hk).sz (by decide)) true (by simp [hg])
  obtain ⟨b, off, rfl, hnc, hP⟩ := hA.open hn1
  have HP := Lib.hid hP
  obtain ⟨X, hX⟩ : ∃ X, trimL (usefulN L R n) (L 0) (rulesL L R n) = X := ⟨_, rfl⟩
  rw [hX]
  have hKU := kept_useful hg.gr
  have h32 := useful_lt hg.gr.ok 5
  have hl0 := (hg.gr.ok 0 hn1).1
  have HUC := Lib.hid fun (w : World) (h : Sr w (some ⟨b, off, none⟩) n c L R) => useful_calls _ n c L R w h hg.gr
  have HROK := Lib.hid fun (r : Ru) (h : r ∈ rulesL L R n) => rules_ok hg.gr h
  have HLEN := Lib.hid (rulesL_len L R n)
  obtain ⟨u, hue⟩ : ∃ u, usefulN L R n = u := ⟨_, rfl⟩
  have h32u : u < 32 := by rw [← hue]; exact h32
  rw [hue] at HUC hu hX hKU
  obtain ⟨l0, hl0e⟩ : ∃ l0, L 0 = l0 := ⟨_, rfl⟩
  rw [hl0e] at hl0 hu hX
  have HX := Lib.hid hX
  have HKU := Lib.hid hKU
  have HL0 := Lib.hid hl0e
  clear hA hP hg h32 hue hl0e hX hKU
  have hcn : 0 < c := by omega
  go_enter Tryd.func37, Tryd.ntmps37
  go_wp2_with fail
  refine (HV.out w HA.out).mono ?_
  rintro e w1 ⟨rfl, hb1⟩
  have HB1 := Lib.hid hb1
  clear hb1
  go_wp2_with fail
  refine (HUC.out w1 (HA.out.later HB1.out)).mono ?_
  rintro e w2 ⟨rfl, hb2⟩
  have HB2 := Lib.hid (HB1.out.trans (hb2.mono HB1.out.size))
  clear hb2 HB1 HV HUC
  go_upto_region 5 with fail
  have hba := below_one (w := w2) (.cells #[.int .i64 u] 3)
  have hca : (w2.alloc (.cells #[.int .i64 u] 3)).cell? ⟨w2.heap.size, 0, none⟩ = some (.int .i64 u) := by simp
  have HB3 := Lib.hid (HB2.out.trans (hba.mono HB2.out.size))
  have HGE := Lib.hid HB2.out.size
  generalize w2.alloc (.cells #[.int .i64 u] 3) = w3 at hca HB3 ⊢
  generalize w2.heap.size = GU at hca HGE ⊢
  have c0 := (HP.out.later HB3.out).c0 0 hn1
  rw [HL0.out] at c0
  simp only [Nat.zero_mul, Nat.add_zero] at c0
  clear hba HB2
  go_upto_region 6 with fail
  have hbb := below_one (w := w3) (.cells #[.int .u8 l0] 5)
  have hcb : (w3.alloc (.cells #[.int .u8 l0] 5)).cell? ⟨w3.heap.size, 0, none⟩ = some (.int .u8 l0) := by simp
  have hca2 := (hbb.cell (p := ⟨GU, 0, none⟩) (World.block_lt_of_cell? _ _ hca)).trans hca
  have HGB := Lib.hid HB3.out.size
  have HB4 := Lib.hid (HB3.out.trans (hbb.mono HB3.out.size))
  generalize w3.alloc (.cells #[.int .u8 l0] 5) = w4 at hcb hca2 HB4 ⊢
  generalize w3.heap.size = GB at hcb HGB ⊢
  clear hbb hca c0 HB3
  go_wp2_with fail
  refine (has_calls u l0 w4 h32u).mono ?_
  rintro r w5 ⟨rfl, rfl⟩
  rw [hl0, hu]
  have HLT := Lib.hid (And.intro (World.block_lt_of_cell? _ _ hca2) (World.block_lt_of_cell? _ _ hcb))
  have HCC := Lib.hid (And.intro hca2 hcb)
  clear hca2 hcb
  go_wp2_with fail
  refine (clone_calls b off n c L R w5 (HP.out.later HB4.out) hn1 (by omega)).mono ?_
  rintro e w6 ⟨⟨g, cc, rfl, hge, hr6⟩, hb6⟩
  have HR6 := Lib.hid hr6
  have HB6 := Lib.hid (HB4.out.trans (hb6.mono HB4.out.size))
  have HC6 := Lib.hid (And.intro ((hb6.cell (p := ⟨GU, 0, none⟩) HLT.out.1).trans HCC.out.1) ((hb6.cell (p := ⟨GB, 0, none⟩) HLT.out.2).trans HCC.out.2))
  have HNE : Hid (GU ≠ g ∧ GB ≠ g ∧ w.heap.size ≤ g) := Lib.hid ⟨by have := HLT.out.1; omega, by have := HLT.out.2; omega, Nat.le_trans HB4.out.size hge⟩
  clear hr6 hb6 hge HCC HLT HB4
  go_wp2_with fail
  have hd := delF_calls (f := 76) (lb := #[.pointer (some ⟨GU, 0, none⟩)]) (fun args w => enters_ Tryd.func76 (by kernel_rfl) rfl args w) HR6.out (pred1 h32u (fun r hr => (HROK.out r hr).2.1) HNE.out.1 HC6.out.1) (by rw [HLEN.out]; omega)
  rw [HLEN.out, HKU.out] at hd
  refine hd.mono ?_
  clear hd
  rintro e w7 ⟨rfl, hr7, hg7⟩
  have HC7 := Lib.hid (And.intro (grown_cell hg7 HNE.out.1 HC6.out.1) (grown_cell hg7 HNE.out.2.1 HC6.out.2))
  have HB7 := Lib.hid (below_grown HB6.out hg7 HNE.out.2.2)
  obtain ⟨K, hK⟩ : ∃ K, keepU u (rulesL L R n) = K := ⟨_, rfl⟩
  have HKOK : Hid (∀ r ∈ K, isP r.1 = true ∧ okR r.2 ∧ r.2.size ≤ 4) := Lib.hid (fun r hr => by
    rw [← hK] at hr
    exact HROK.out r (List.mem_filter.1 hr).1)
  have hKL : K.length ≤ 8 := by
    rw [← hK]
    have := List.length_filter_le (fun r : Ru => allU u r.2) (rulesL L R n)
    rw [HLEN.out] at this
    exact Nat.le_trans this h8
  have HX7 : Hid (T.part l0 (keepR (rch l0 K) K) = X) := Lib.hid (by rw [← HX.out, ← hK]; rfl)
  have hkc := hr7.le
  rw [hK] at hr7 hkc ⊢
  have HR7 := Lib.hid hr7
  clear hr7 hg7 HR6 HB6 HC6 hK HX HKU HROK HLEN
  have c6 := HC7.out.2
  obtain ⟨p, rfl⟩ : ∃ p : Nat, l0 = (p : Int) + 65 := ⟨(l0 - 65).toNat, by have := isP_iff.1 hl0; omega⟩
  have hp4 : p ≤ 4 := by have := isP_iff.1 hl0; omega
  have e2 := u8_part hp4
  have hps := pow_small hp4
  go_upto_region 10 with fail
  have hba := below_one (w := w7) (.cells #[.int .i64 ((2 : Int) ^ p)] 3)
  have h8c : (w7.alloc (.cells #[.int .i64 ((2 : Int) ^ p)] 3)).cell? ⟨w7.heap.size, 0, none⟩ = some (.int .i64 ((2 : Int) ^ p)) := by simp
  have h8f : (w7.alloc (.cells #[.int .i64 ((2 : Int) ^ p)] 3)).frozen? ⟨w7.heap.size, 0, none⟩ = false := by simp
  have HQ : Hid (Tq w g cc GB w7.heap.size ((p : Int) + 65) K (2 ^ p) (w7.alloc (.cells #[.int .i64 ((2 : Int) ^ p)] 3))) := Lib.hid ⟨HR7.out.later hba, (hba.cell (p := ⟨GB, 0, none⟩) (World.block_lt_of_cell? _ _ c6)).trans c6, by rw [h8c]; simp, h8f, HB7.out.trans (hba.mono HB7.out.size), Nat.ne_of_lt HR7.out.lt, Nat.ne_of_lt (World.block_lt_of_cell? _ _ c6), HB7.out.size⟩
  have HG8 := Lib.hid (And.intro HNE.out.2.1 HNE.out.2.2)
  generalize w7.alloc (.cells #[.int .i64 ((2 : Int) ^ p)] 3) = w8 at HQ ⊢
  generalize w7.heap.size = H8 at HQ ⊢
  have hpn : pn ((p : Int) + 65) = p := by unfold pn; omega
  have HPB := Lib.hid (pp_lt hl0)
  rw [hpn] at HPB
  have HXR : Hid (T.part ((p : Int) + 65) (keepR (rep (rTo K) 5 (2 ^ p)) K) = X) := Lib.hid (by rw [← HX7.out]; unfold rch; rw [hpn])
  clear hba h8c h8f HC7 HB7 HR7 c6 HX7 HL0 hps hu hl0 hpn HNE HA HP HG h32u e2
  go_wp2_with fail
  go_loopw [34] (fun i wr => ∃ m : Nat, m ≤ 5 ∧ i = .int .i64 m ∧ Hid (Tq w g cc GB H8 ((p : Int) + 65) K (rep (rTo K) m (2 ^ p)) wr)) (fun i _ => 5 - (intOf i).toNat)
  case atStart => exact ⟨0, by omega, rfl, HQ⟩
  case round =>
    clear HQ
    obtain ⟨m, hm, rfl, HQ⟩ := hrel
    obtain ⟨e0, he0⟩ : ∃ e0, rep (rTo K) m (2 ^ p) = e0 := ⟨_, rfl⟩
    have hel : e0 < 32 := by rw [← he0]; exact rep_lt (fun e h => rTo_lt K h) m HPB.out
    rw [he0] at HQ
    have HE0 := Lib.hid he0
    clear he0
    by_cases hlt : m < 5
    · have hltI : (m : Int) < 5 := by omega
      go_wp2_with fail
      go_loopw [38] (fun i wr => ∃ k : Nat, k ≤ K.length ∧ i = .int .i64 k ∧ Hid (Tq w g cc GB H8 ((p : Int) + 65) K ((K.take k).foldl rStep e0) wr)) (fun i _ => K.length - (intOf i).toNat)
      case atStart => exact ⟨0, by omega, rfl, HQ⟩
      case round =>
        clear HQ
        obtain ⟨k, hk, rfl, HQ⟩ := hrel
        obtain ⟨e1, he1⟩ : ∃ e1, (K.take k).foldl rStep e0 = e1 := ⟨_, rfl⟩
        have he1l : e1 < 32 := by rw [← he1]; exact foldl_lt (fun e r h => rStep_lt h r) _ hel
        rw [he1] at HQ
        have HE1 := Lib.hid he1
        clear he1
        by_cases hkn : k < K.length
        · have hkI : (k : Int) < (K.length : Int) := by omega
          obtain ⟨⟨l, s⟩, hr⟩ : ∃ r, K[k]? = some r := ⟨_, List.getElem?_eq_getElem hkn⟩
          have c0 := HQ.out.row.c0 hr
          have c1 := HQ.out.row.c1 hr
          simp only at c0 c1
          have hrk := HKOK.out _ (List.mem_of_getElem? hr)
          have hsz : s.size ≤ 4 := hrk.2.2
          have hlp : isP l = true := hrk.1
          have HS1 : Hid ((K.take (k + 1)).foldl rStep e0 = rStep e1 (l, s)) := Lib.hid (by rw [take_succ_of hr, List.foldl_append, HE1.out]; rfl)
          have HEND : Hid (k + 1 ≤ K.length ∧ K.length - (intOf (.int .i64 ((k : Int) + 1))).toNat < K.length - (intOf (.int .i64 (k : Int))).toNat) := Lib.hid ⟨by omega, by simp [intOf]; omega⟩
          have hkcc : k < cc := by omega
          clear hr hrk
          go_upto_region 15 with fail
          have hbA := below_one (w := wr) (.cells #[.int .u8 l, .string s] 60)
          obtain ⟨d0, d1⟩ := rule_new wr 60 l s
          have HQA := Lib.hid (HQ.out.later hbA)
          have re1 := HQA.out.re
          generalize wr.alloc (.cells #[.int .u8 l, .string s] 60) = wa at d0 d1 HQA re1 ⊢
          generalize wr.heap.size = G at d0 d1 ⊢
          clear hbA c0 c1 HQ
          go_wp2_with fail
          refine (has_calls e1 l wa he1l).mono ?_
          rintro r wb ⟨rfl, rfl⟩
          rw [hlp, Bool.true_and]
          cases ht : e1.testBit (pn l) with
          | false =>
            have HS2 : Hid (rStep e1 (l, s) = e1) := Lib.hid (by unfold rStep; rw [if_neg (by simp only [ht]; decide)])
            clear ht
            go_wp2_with fail
            refine ⟨⟨k + 1, HEND.out.1, by go_num, by rw [HS1.out, HS2.out]; exact HQA⟩, HEND.out.2⟩
          | true =>
            have HS2 : Hid (rStep e1 (l, s) = lB e1 s s.size) := Lib.hid (by unfold rStep lB bitsOf; rw [if_pos ht])
            clear ht
            have hcv := fun (w : World) => Lib.run_convert_string_bytes (P := Tryd.prog) w 9 74 5 s Tryd.underlying9 Tryd.underlying74 Tryd.underlying5
            go_wp2_with fail
            have HGT := Lib.hid (World.block_lt_of_cell? _ _ HQA.out.re)
            obtain ⟨hby, hbB, -⟩ := bytes_world wb s
            have HNT : Hid (wb.heap.size ≠ H8) := Lib.hid (by have := HGT.out; simp only at this; omega)
            have HQB : Hid (Tq w g cc GB H8 ((p : Int) + 65) K (lB e1 s 0) (Lib.bytesWorld wb 5 s)) := Lib.hid (by
              have := HQA.out.later hbB
              rw [show lB e1 s 0 = e1 from Nat.or_zero _]
              exact this)
            have HY := Lib.hid hby
            generalize Lib.bytesWorld wb 5 s = wc at HQB HY ⊢
            generalize wb.heap.size = TT at HNT HY ⊢
            clear hby hbB hcv HGT d0 d1 re1 HQA
            go_loopw [50] (fun i wr => ∃ j : Nat, j ≤ s.size ∧ i = .int .i64 j ∧ Hid (Tq w g cc GB H8 ((p : Int) + 65) K (lB e1 s j) wr) ∧ Hid (∀ i, i < s.size → wr.cell? ⟨TT, i, none⟩ = some (.int .u8 (ch s i)))) (fun i _ => s.size - (intOf i).toNat)
            case atStart => exact ⟨0, by omega, rfl, HQB, HY⟩
            case round =>
              clear HQB HY
              obtain ⟨j, hj, rfl, HQ, HY⟩ := hrel
              obtain ⟨q, hq⟩ : ∃ q, lB e1 s j = q := ⟨_, rfl⟩
              have hql : q < 32 := by rw [← hq]; exact lB_lt he1l _ _
              have hsu := lB_succ e1 s j
              rw [hq] at HQ hsu
              by_cases hjs : j < s.size
              · have hjI : (j : Int) < (s.size : Int) := by omega
                have hbt := HY.out j hjs
                obtain ⟨x, hx⟩ : ∃ x, ch s j = x := ⟨_, rfl⟩
                rw [hx] at hbt hsu
                have HSU := Lib.hid hsu
                have HEN2 : Hid (j + 1 ≤ s.size ∧ s.size - (intOf (.int .i64 ((j : Int) + 1))).toNat < s.size - (intOf (.int .i64 (j : Int))).toNat) := Lib.hid ⟨by omega, by simp [intOf]; omega⟩
                clear hq hx hsu
                go_wp2_with fail
                refine (isPart_calls x _).mono ?_
                rintro r w6 ⟨rfl, rfl⟩
                cases hp : isP x with
                | false =>
                  have HS3 := Lib.hid (HSU.out.trans (if_neg (by rw [hp]; decide)))
                  clear hp
                  go_wp2_with fail
                  refine ⟨⟨j + 1, HEN2.out.1, by go_num, by rw [HS3.out]; exact HQ, HY⟩, HEN2.out.2⟩
                | true =>
                  have HS3 := Lib.hid (HSU.out.trans (if_pos hp))
                  have hx5 := isP_iff.1 hp
                  obtain ⟨y, rfl⟩ : ∃ y : Nat, x = (y : Int) + 65 := ⟨(x - 65).toNat, by omega⟩
                  have hy4 : y ≤ 4 := by omega
                  have ey := u8_part hy4
                  have hor := or_pow hql hy4
                  rw [show pn ((y : Int) + 65) = y by unfold pn; omega] at HS3
                  have re2 := HQ.out.re
                  have rf2 := HQ.out.fz
                  have HQ3 := Lib.hid (HQ.out.put (q ||| 2 ^ y))
                  have HY3 := Lib.hid (bytes_set HY.out HNT.out 0 (.int .i64 (q ||| 2 ^ y : Nat)))
                  clear hp HQ HY
                  go_wp2_with fail
                  refine ⟨⟨j + 1, HEN2.out.1, by go_num, by rw [HS3.out]; exact HQ3, HY3⟩, HEN2.out.2⟩
              · obtain rfl : j = s.size := by omega
                have hjI : ¬ (s.size : Int) < (s.size : Int) := by omega
                go_wp2_with fail
                refine ⟨⟨k + 1, HEND.out.1, by go_num, by rw [HS1.out, HS2.out, hq]; exact HQ⟩, HEND.out.2⟩
        · obtain rfl : k = K.length := by omega
          have hkI : ¬ (K.length : Int) < (K.length : Int) := by omega
          have HFU : Hid (K.foldl rStep e0 = e1) := Lib.hid (by
            have := HE1.out
            rw [List.take_length] at this
            exact this)
          go_wp2_with fail
          refine ⟨⟨m + 1, by omega, by go_num, by rw [rep, HE0.out]; unfold rTo; rw [HFU.out]; exact HQ⟩, by simp [intOf]; omega⟩
    · have hm5 : m = 5 := by omega
      have HE5 : Hid (T.part ((p : Int) + 65) (keepR e0 K) = X) := Lib.hid (by rw [← HXR.out, ← HE0.out, hm5])
      have hltI : ¬ (m : Int) < 5 := by omega
      clear hm5
      go_wp2_with fail
      have hd := delF_calls (f := 80) (lb := #[.pointer (some ⟨H8, 0, none⟩)]) (fun args w => enters_ Tryd.func80 (by kernel_rfl) rfl args w) HQ.out.row (pred2 hel (Ne.symm HQ.out.ng) HQ.out.re) (by omega)
      rw [kept_reached (fun r hr => (HKOK.out r hr).1)] at hd
      refine hd.mono ?_
      clear hd
      rintro e w9 ⟨rfl, hr9, hg9⟩
      obtain ⟨K2, hK2⟩ : ∃ K2, keepR e0 K = K2 := ⟨_, rfl⟩
      have hKL2 : K2.length ≤ 8 := by
        rw [← hK2]
        exact Nat.le_trans (List.length_filter_le (fun r : Ru => e0.testBit (pn r.1)) K) hKL
      rw [hK2] at hr9 HE5 ⊢
      have HR9 := Lib.hid hr9
      have HC9 := Lib.hid (grown_cell hg9 HG8.out.1 HQ.out.beg)
      have HB9 := Lib.hid (below_grown HQ.out.bl hg9 HG8.out.2)
      clear hr9 hg9 hK2 HQ
      go_wp2_with fail
      refine (sorted_calls HR9.out (by omega) HG8.out.1 HC9.out).mono ?_
      rintro e w10 ⟨rfl, hr10, hg10⟩
      rw [HE5.out] at hr10
      have HLX : Hid (K2.length = X.length) := Lib.hid (by rw [← HE5.out, part_length])
      have HR10 := Lib.hid hr10
      have HB10 := Lib.hid (below_grown HB9.out hg10 HG8.out.2)
      clear hr10 hg10 HR9 HB9 HC9
      go_wp2
      go_ret2
      refine ⟨⟨g, cc, ?_, HG8.out.2, HR10.out⟩, HB10.out⟩
      rw [HLX.out]
      rfl
end Go.Proofs.YtjpfalanoifpbaaDoor.X
end

section
set_option linter.unusedVariables false
set_option linter.unusedSimpArgs false
namespace Go.Proofs.YtjpfalanoifpbaaDoor.X
open Go.RowKit Go.Proofs.YtjpfalanoifpbaaDoorW.PrintWords Go.Proofs.YtjpfalanoifpbaaDoorW.PrintLast Go.Proofs.YtjpfalanoifpbaaDoorW.PrintMore Go.Proofs.YtjpfalanoifpbaaDoor.T
theorem rulesL_self (l : List Ru) : rulesL (lL l) (lR l) l.length = l := by
  apply List.ext_getElem?
  intro i
  by_cases hi : i < l.length
  · have h : (rulesL (lL l) (lR l) l.length)[i]? = some (lL l i, lR l i) := by
      unfold rulesL
      rw [List.getElem?_map, List.getElem?_range hi]
      rfl
    rw [h, List.getElem?_eq_getElem hi]
    unfold lL lR
    simp [List.getElem?_eq_getElem hi]
  · rw [List.getElem?_eq_none (by rw [rulesL_len]; omega), List.getElem?_eq_none (by omega)]
theorem trimL_le (u : Nat) (b : Int) (l : List Ru) : (trimL u b l).length ≤ l.length := by
  unfold trimL
  rw [part_length]
  exact Nat.le_trans (List.length_filter_le _ _) (List.length_filter_le _ _)
theorem rowB_sr {w : World} {g c : Nat} {l : List Ru} (h : RowB w g c l) : Sr w (some ⟨g, 0, none⟩) l.length c (lL l) (lR l) := by
  refine .inr ⟨g, 0, rfl, h.le, ⟨fun i hi => ?_, fun i hi => ?_⟩⟩
  · have := h.c0 (List.getElem?_eq_getElem hi)
    rw [Nat.zero_add, this]
    unfold lL
    simp [List.getElem?_eq_getElem hi]
  · have := h.c1 (List.getElem?_eq_getElem hi)
    rw [Nat.zero_add, this]
    unfold lR
    simp [List.getElem?_eq_getElem hi]
set_option maxHeartbeats 8000000 in
set_option maxRecDepth 100000 in
theorem Trim_none (A : Option Addr) (n c : Nat) (L : Nat → Int) (R : Nat → ByteArray) (w : World) (hA : Sr w A n c L R) (hg : Gram L R n) (hu : (usefulN L R n).testBit (pn (L 0)) = false) :
    Calls Tryd.prog 37 #[.slice A n c] w fun e w' => e = .returned (.tuple #[.slice none 0 0, .int .i64 4]) ∧ Below w.heap.size w w' := by
  have h8 := hg.1.2
  have hn1 := hg.1.1
  have HA := Lib.hid hA
  have HV := Lib.hid fun (w : World) (h : Sr w A n c L R) => valid_calls A n c L R w h (by omega) (fun k hk => Nat.le_trans (hg.2 k hk).sz (by decide)) true (by simp [hg])
  obtain ⟨b, off, rfl, hnc, hP⟩ := hA.open hn1
  have HP := Lib.hid hP
  have h32 := useful_lt hg.gr.ok 5
  have hl0 := (hg.gr.ok 0 hn1).1
  have HUC := Lib.hid fun (w : World) (h : Sr w (some ⟨b, off, none⟩) n c L R) => useful_calls _ n c L R w h hg.gr
  obtain ⟨u, hue⟩ : ∃ u, usefulN L R n = u := ⟨_, rfl⟩
  have h32u : u < 32 := by rw [← hue]; exact h32
  rw [hue] at HUC hu
  obtain ⟨l0, hl0e⟩ : ∃ l0, L 0 = l0 := ⟨_, rfl⟩
  rw [hl0e] at hl0 hu
  have HL0 := Lib.hid hl0e
  clear hA hP hg h32 hue hl0e
  have hcn : 0 < c := by omega
  go_enter Tryd.func37, Tryd.ntmps37
  go_wp2_with fail
  refine (HV.out w HA.out).mono ?_
  rintro e w1 ⟨rfl, hb1⟩
  have HB1 := Lib.hid hb1
  clear hb1
  go_wp2_with fail
  refine (HUC.out w1 (HA.out.later HB1.out)).mono ?_
  rintro e w2 ⟨rfl, hb2⟩
  have HB2 := Lib.hid (HB1.out.trans (hb2.mono HB1.out.size))
  clear hb2 HB1 HV HUC
  go_upto_region 5 with fail
  have hba := below_one (w := w2) (.cells #[.int .i64 u] 3)
  have hca : (w2.alloc (.cells #[.int .i64 u] 3)).cell? ⟨w2.heap.size, 0, none⟩ = some (.int .i64 u) := by simp
  have HB3 := Lib.hid (HB2.out.trans (hba.mono HB2.out.size))
  generalize w2.alloc (.cells #[.int .i64 u] 3) = w3 at hca HB3 ⊢
  generalize w2.heap.size = GU at hca ⊢
  have c0 := (HP.out.later HB3.out).c0 0 hn1
  rw [HL0.out] at c0
  simp only [Nat.zero_mul, Nat.add_zero] at c0
  clear hba HB2
  go_upto_region 6 with fail
  have hbb := below_one (w := w3) (.cells #[.int .u8 l0] 5)
  have hcb : (w3.alloc (.cells #[.int .u8 l0] 5)).cell? ⟨w3.heap.size, 0, none⟩ = some (.int .u8 l0) := by simp
  have hca2 := (hbb.cell (p := ⟨GU, 0, none⟩) (World.block_lt_of_cell? _ _ hca)).trans hca
  have HB4 := Lib.hid (HB3.out.trans (hbb.mono HB3.out.size))
  generalize w3.alloc (.cells #[.int .u8 l0] 5) = w4 at hcb hca2 HB4 ⊢
  generalize w3.heap.size = GB at hcb ⊢
  clear hbb hca c0 HB3
  go_wp2_with fail
  refine (has_calls u l0 w4 h32u).mono ?_
  rintro r w5 ⟨rfl, rfl⟩
  rw [hu, Bool.and_false]
  clear hca2 hcb
  go_wp2
  go_ret2
  exact ⟨rfl, HB4.out⟩
set_option maxHeartbeats 8000000 in
set_option maxRecDepth 100000 in
theorem Trim_no (A : Option Addr) (n c : Nat) (L : Nat → Int) (R : Nat → ByteArray) (w : World) (hA : Sr w A n c L R) (hn : n ≤ 1000) (hsz : ∀ k, k < n → (R k).size ≤ 1000) (hg : ¬ Gram L R n) :
    Calls Tryd.prog 37 #[.slice A n c] w fun e w' => e = .returned (.tuple #[.slice none 0 0, .int .i64 2]) ∧ Below w.heap.size w w' := by
  have HA := Lib.hid hA
  have HV := Lib.hid fun (w : World) (h : Sr w A n c L R) => valid_calls A n c L R w h hn hsz false (by simp [hg])
  clear hA hg hsz
  go_enter Tryd.func37, Tryd.ntmps37
  go_wp2_with fail
  refine (HV.out w HA.out).mono ?_
  rintro e w1 ⟨rfl, hb1⟩
  have HB := Lib.hid hb1
  clear hb1
  go_wp2
  go_ret2
  exact ⟨rfl, HB.out⟩
set_option maxHeartbeats 8000000 in
set_option maxRecDepth 100000 in
theorem Trims_no (A : Option Addr) (n c : Nat) (L : Nat → Int) (R : Nat → ByteArray) (w : World) (hA : Sr w A n c L R) (hn : n ≤ 9223372036854775807) (hR : ∀ k, k < n → (R k).size ≤ 9223372036854775807) (hg : ¬ Gram L R n) :
    Calls Tryd.prog 7 #[.slice A n c] w fun e w' => e = .returned (.bool true) ∧ Below w.heap.size w w' := by
  have HO := Lib.hid (fun (w : World) (h : Sr w A n c L R) => Of_calls A n c L R w h hn hR)
  have HG := Lib.hid (fun (w : World) (h : Sr w A n c L R) => Grammar_calls A n c L R w h hn false (by simp [hg]))
  have hng : ¬ Gram L (fun k => cut12 (R k)) (mnN n 11) := fun q => hg (cut_gram q)
  have h11 := mnN_le n 11
  have HU := Lib.hid (fun (A' : Option Addr) (c' : Nat) (w : World) h => Useful_no A' (mnN n 11) c' L (fun k => cut12 (R k)) w h (by omega) (fun k _ => cut12_1000 _) hng)
  have HT := Lib.hid (fun (A' : Option Addr) (c' : Nat) (w : World) h => Trim_no A' (mnN n 11) c' L (fun k => cut12 (R k)) w h (by omega) (fun k _ => cut12_1000 _) hng)
  have HA := Lib.hid hA
  clear hA hR hg hng h11
  generalize mnN n 11 = m at HO HU HT
  go_enter Tryd.func7, Tryd.ntmps7
  go_wp2_with fail
  refine (HO.out w HA.out).mono ?_
  rintro e w1 ⟨⟨A1, c1, rfl, hS1⟩, hb1⟩
  have HB1 := Lib.hid hb1
  have HS1 := Lib.hid hS1
  clear hb1 hS1
  go_wp2_with fail
  refine (HU.out A1 c1 w1 HS1.out).mono ?_
  rintro e w2 ⟨rfl, hb2⟩
  have HB2 := Lib.hid (HB1.out.trans (hb2.mono HB1.out.size))
  clear hb2 HB1 HS1
  go_wp2_with fail
  refine (HO.out w2 (HA.out.later HB2.out)).mono ?_
  rintro e w3 ⟨⟨A3, c3, rfl, hS3⟩, hb3⟩
  have HB3 := Lib.hid (HB2.out.trans (hb3.mono HB2.out.size))
  have HS3 := Lib.hid hS3
  clear hb3 hS3 HB2
  go_wp2_with fail
  refine (HT.out A3 c3 w3 HS3.out).mono ?_
  rintro e w4 ⟨rfl, hb4⟩
  have HB4 := Lib.hid (HB3.out.trans (hb4.mono HB3.out.size))
  clear hb4 HB3 HS3
  go_wp2_with fail
  refine (HG.out w4 (HA.out.later HB4.out)).mono ?_
  rintro e w5 ⟨rfl, hb5⟩
  have HB5 := Lib.hid (HB4.out.trans (hb5.mono HB4.out.size))
  clear hb5 HB4
  go_wp2_with fail
  refine (awake_calls w5).mono ?_
  rintro e w6 ⟨rfl, hb6⟩
  have HB6 := Lib.hid (HB5.out.trans (hb6.mono HB5.out.size))
  clear hb6 HB5
  go_wp2
  go_ret
  exact ⟨rfl, HB6.out⟩
set_option maxHeartbeats 8000000 in
set_option maxRecDepth 100000 in
theorem Trims_none (A : Option Addr) (n c : Nat) (L : Nat → Int) (R : Nat → ByteArray) (w : World) (hA : Sr w A n c L R) (hn : n ≤ 9223372036854775807) (hR : ∀ k, k < n → (R k).size ≤ 9223372036854775807) (hg : Gram L R n) (hu : (usefulN L R n).testBit (pn (L 0)) = false) :
    Calls Tryd.prog 7 #[.slice A n c] w fun e w' => e = .returned (.bool true) ∧ Below w.heap.size w w' := by
  have HO := Lib.hid (fun (w : World) (h : Sr w A n c L R) => Of_yes A n c L R w h hn hR hg)
  have HG := Lib.hid (fun (w : World) (h : Sr w A n c L R) => Grammar_calls A n c L R w h hn true (by simp [hg]))
  have HU := Lib.hid (fun (A' : Option Addr) (c' : Nat) (w : World) h => Useful_yes A' n c' L R w h hg)
  have HT := Lib.hid (fun (A' : Option Addr) (c' : Nat) (w : World) h => Trim_none A' n c' L R w h hg hu)
  have HRT := Lib.hid (fun (w : World) (h : Sr w A n c L R) => rTrim_none A n c L R w h hg.gr hu)
  have HRU := Lib.hid (fun (w : World) (h : Sr w A n c L R) => rUseful_calls A n c L R w h hg.gr)
  have HA := Lib.hid hA
  clear hA hR hg hu
  generalize usefulN L R n = u at HU HRU
  go_enter Tryd.func7, Tryd.ntmps7
  go_wp2_with fail
  refine (HO.out w HA.out).mono ?_
  rintro e w1 ⟨⟨A1, c1, rfl, hS1⟩, hb1⟩
  have HB1 := Lib.hid hb1
  have HS1 := Lib.hid hS1
  clear hb1 hS1
  go_wp2_with fail
  refine (HU.out A1 c1 w1 HS1.out).mono ?_
  rintro e w2 ⟨rfl, hb2⟩
  have HB2 := Lib.hid (HB1.out.trans (hb2.mono HB1.out.size))
  clear hb2 HB1 HS1
  go_wp2_with fail
  refine (HO.out w2 (HA.out.later HB2.out)).mono ?_
  rintro e w3 ⟨⟨A3, c3, rfl, hS3⟩, hb3⟩
  have HB3 := Lib.hid (HB2.out.trans (hb3.mono HB2.out.size))
  have HS3 := Lib.hid hS3
  clear hb3 hS3 HB2
  go_wp2_with fail
  refine (HT.out A3 c3 w3 HS3.out).mono ?_
  rintro e w4 ⟨rfl, hb4⟩
  have HB4 := Lib.hid (HB3.out.trans (hb4.mono HB3.out.size))
  clear hb4 HB3 HS3
  go_wp2_with fail
  refine (HG.out w4 (HA.out.later HB4.out)).mono ?_
  rintro e w5 ⟨rfl, hb5⟩
  have HB5 := Lib.hid (HB4.out.trans (hb5.mono HB4.out.size))
  clear hb5 HB4
  go_wp2_with fail
  refine (HRT.out w5 (HA.out.later HB5.out)).mono ?_
  rintro e w6 ⟨rfl, hb6⟩
  have HB6 := Lib.hid (HB5.out.trans (hb6.mono HB5.out.size))
  clear hb6 HB5
  go_wp2_with fail
  refine (HRU.out w6 (HA.out.later HB6.out)).mono ?_
  rintro e w7 ⟨rfl, hb7⟩
  have HB7 := Lib.hid (HB6.out.trans (hb7.mono HB6.out.size))
  clear hb7 HB6
  go_wp2_with fail
  refine (own_calls none 0 0 (fun _ => 0) (fun _ => ByteArray.empty) w7 (.inl rfl) (by decide)).mono ?_
  rintro e w8 ⟨⟨v, rfl, hv⟩, hb8⟩
  have HB8 := Lib.hid (HB7.out.trans (hb8.mono HB7.out.size))
  obtain ⟨A8, c8, rfl, hS8⟩ := rr_sr hv
  clear hb8 HB7 hv hS8
  go_wp2_with fail
  refine (eqRules_same (A1 := A8) (A2 := none) (n := 0) (c1 := c8) (c2 := 0) (l := []) (w := w8) (.inl rfl) (.inl rfl) (by decide)).mono ?_
  rintro e w9 ⟨rfl, hb9⟩
  have HB9 := Lib.hid (HB8.out.trans (hb9.mono HB8.out.size))
  clear hb9 HB8
  go_wp2_with fail
  refine (awake_calls w9).mono ?_
  rintro e w10 ⟨rfl, hb10⟩
  have HB10 := Lib.hid (HB9.out.trans (hb10.mono HB9.out.size))
  clear hb10 HB9
  go_wp2
  go_ret
  exact ⟨rfl, HB10.out⟩
set_option maxHeartbeats 8000000 in
set_option maxRecDepth 100000 in
theorem Trims_yes (A : Option Addr) (n c : Nat) (L : Nat → Int) (R : Nat → ByteArray) (w : World) (hA : Sr w A n c L R) (hn : n ≤ 9223372036854775807) (hR : ∀ k, k < n → (R k).size ≤ 9223372036854775807) (hg : Gram L R n) (hu : (usefulN L R n).testBit (pn (L 0)) = true) :
    Calls Tryd.prog 7 #[.slice A n c] w fun e w' => e = .returned (.bool true) ∧ Below w.heap.size w w' := by
  have HO := Lib.hid (fun (w : World) (h : Sr w A n c L R) => Of_yes A n c L R w h hn hR hg)
  have HG := Lib.hid (fun (w : World) (h : Sr w A n c L R) => Grammar_calls A n c L R w h hn true (by simp [hg]))
  have HU := Lib.hid (fun (A' : Option Addr) (c' : Nat) (w : World) h => Useful_yes A' n c' L R w h hg)
  have HT := Lib.hid (fun (A' : Option Addr) (c' : Nat) (w : World) h => Trim_yes A' n c' L R w h hg hu)
  have HRT := Lib.hid (fun (w : World) (h : Sr w A n c L R) => rTrim_some A n c L R w h hg.gr hu)
  have HRU := Lib.hid (fun (w : World) (h : Sr w A n c L R) => rUseful_calls A n c L R w h hg.gr)
  have HA := Lib.hid hA
  have HXL : Hid ((trimL (usefulN L R n) (L 0) (rulesL L R n)).length ≤ 8) := Lib.hid (by
    have := trimL_le (usefulN L R n) (L 0) (rulesL L R n)
    rw [rulesL_len] at this
    exact Nat.le_trans this hg.1.2)
  clear hA hR hg hu
  generalize trimL (usefulN L R n) (L 0) (rulesL L R n) = X at HT HRT HXL
  generalize usefulN L R n = u at HU HRU
  go_enter Tryd.func7, Tryd.ntmps7
  go_wp2_with fail
  refine (HO.out w HA.out).mono ?_
  rintro e w1 ⟨⟨A1, c1, rfl, hS1⟩, hb1⟩
  have HB1 := Lib.hid hb1
  have HS1 := Lib.hid hS1
  clear hb1 hS1
  go_wp2_with fail
  refine (HU.out A1 c1 w1 HS1.out).mono ?_
  rintro e w2 ⟨rfl, hb2⟩
  have HB2 := Lib.hid (HB1.out.trans (hb2.mono HB1.out.size))
  clear hb2 HB1 HS1
  go_wp2_with fail
  refine (HO.out w2 (HA.out.later HB2.out)).mono ?_
  rintro e w3 ⟨⟨A3, c3, rfl, hS3⟩, hb3⟩
  have HB3 := Lib.hid (HB2.out.trans (hb3.mono HB2.out.size))
  have HS3 := Lib.hid hS3
  clear hb3 hS3 HB2
  go_wp2_with fail
  refine (HT.out A3 c3 w3 HS3.out).mono ?_
  rintro e w4 ⟨⟨g, cc, rfl, -, hr4⟩, hb4⟩
  have HB4 := Lib.hid (HB3.out.trans (hb4.mono HB3.out.size))
  have HX4 := Lib.hid hr4
  clear hb4 HB3 HS3 hr4
  go_wp2_with fail
  refine (HG.out w4 (HA.out.later HB4.out)).mono ?_
  rintro e w5 ⟨rfl, hb5⟩
  have HB5 := Lib.hid (HB4.out.trans (hb5.mono HB4.out.size))
  have HX5 := Lib.hid (HX4.out.later hb5)
  clear hb5 HB4 HX4
  go_wp2_with fail
  refine (HRT.out w5 (HA.out.later HB5.out)).mono ?_
  rintro e w6 ⟨⟨v, rfl, hv⟩, hb6⟩
  have HB6 := Lib.hid (HB5.out.trans (hb6.mono HB5.out.size))
  have HX6 := Lib.hid (HX5.out.later hb6)
  obtain ⟨A6, c6, rfl, hS6⟩ := rr_sr hv
  have HS6 := Lib.hid hS6
  clear hb6 HB5 HX5 hv hS6
  go_wp2_with fail
  refine (HRU.out w6 (HA.out.later HB6.out)).mono ?_
  rintro e w7 ⟨rfl, hb7⟩
  have HB7 := Lib.hid (HB6.out.trans (hb7.mono HB6.out.size))
  have HX7 := Lib.hid (HX6.out.later hb7)
  have HS7 := Lib.hid (HS6.out.later hb7)
  clear hb7 HB6 HX6 HS6
  go_wp2_with fail
  refine (own_calls (some ⟨g, 0, none⟩) X.length cc (lL X) (lR X) w7 (rowB_sr HX7.out) (by have := HXL.out; omega)).mono ?_
  rintro e w8 ⟨⟨v, rfl, hv⟩, hb8⟩
  rw [rulesL_self] at hv
  have HB8 := Lib.hid (HB7.out.trans (hb8.mono HB7.out.size))
  have HS8 := Lib.hid (HS7.out.later hb8)
  obtain ⟨A8, c8, rfl, hO8⟩ := rr_sr hv
  have HO8 := Lib.hid hO8
  clear hb8 HB7 HX7 HS7 hv hO8
  go_wp2_with fail
  refine (eqRules_same HO8.out HS8.out (by have := HXL.out; omega)).mono ?_
  rintro e w9 ⟨rfl, hb9⟩
  have HB9 := Lib.hid (HB8.out.trans (hb9.mono HB8.out.size))
  clear hb9 HB8 HO8 HS8
  go_wp2_with fail
  refine (awake_calls w9).mono ?_
  rintro e w10 ⟨rfl, hb10⟩
  have HB10 := Lib.hid (HB9.out.trans (hb10.mono HB9.out.size))
  clear hb10 HB9
  go_wp2
  go_ret
  exact ⟨rfl, HB10.out⟩
theorem TablesTrims.calls (A : Option Addr) (n c : Nat) (L : Nat → Int) (R : Nat → ByteArray) (w : World) (hA : Sr w A n c L R) (hR : ∀ k, k < n → (R k).size ≤ 9223372036854775807) (hn : n ≤ 9223372036854775807) (hc : c ≤ 9223372036854775807) :
    Calls Tryd.prog 7 #[.slice A n c] w fun e w' => e = .returned (.bool true) ∧ Below w.heap.size w w' := by
  by_cases hg : Gram L R n
  · cases hu : (usefulN L R n).testBit (pn (L 0)) with
    | true => exact Trims_yes A n c L R w hA hn hR hg hu
    | false => exact Trims_none A n c L R w hA hn hR hg hu
  · exact Trims_no A n c L R w hA hn hR hg
end Go.Proofs.YtjpfalanoifpbaaDoor.X
end
