/- Texts of this claim, merged by a program (wip/tools/shake.py); what nothing names is left out. -/
import Derived.Deep.RegionHeld3
import Derived.Laws.BitsLemmas
import Derived.Test.YtjffhhalmicodaaDoorProg
import Derived.Below
import Derived.Deep.Draws
import Derived.Deep.AppendLies
import Derived.Maps.AppendAt
import Derived.OwnWalk
import Derived.Laws.BytesArg
import Derived.Laws.MakeOwn
import Derived.Laws.OwnMore
import Derived.Deep.OwnRows
import Derived.Tactics
import Derived.Lib.ConvBytes
import Derived.Laws.Slices
import Derived.WalkKit
import Derived.KernelRfl
import Derived.RowKit3
import Derived.Deep.LoopGhost
import Derived.Deep.QuietTactic
import Derived.BigQuiet
import Derived.WideLaws
import Derived.Deep.DeepCutAuto
import Derived.Deep.CutBlock
import Derived.Laws.Rows
import Derived.Lib.AppendStr
import Derived.ArgAppend
import Derived.Laws.IdiomCopy
import Derived.OrdersHeld
import Derived.RowKit
import Derived.Test.YtjffhhalmicodaaDoorSpb
section
section
set_option linter.unusedVariables false
set_option linter.unusedSimpArgs false
namespace Go.Proofs.YtjffhhalmicodaaDoor.X
open Go.RowKit Go.Proofs.YtjffhhalmicodaaDoorW.PrintWords Go.Proofs.YtjffhhalmicodaaDoorW.PrintLast Go.Proofs.YtjffhhalmicodaaDoorW.PrintMore
def ReadPost (o : Option (Fm × List Nat)) (w0 w : World) (g : Nat) (b : ByteArray) (e : Ending) (w' : World) : Prop :=
  Below w0.heap.size w0 w' ∧ KeepBut w w' g none ∧ match o with
    | none => e = .returned (.pointer none) ∧ ∃ s' b', PA.IsS93 w0 w' g s' b'
    | some p => ∃ v s', e = .returned v ∧ Tree w' (fun k => w.heap.size ≤ k) p.1 v ∧ PA.IsS93 w0 w' g s' b ∧ cs s' = p.2
theorem mark_yes {c : Nat} (h : isMk c = true) : PA.fixes_isMark.f (c : Int) = some true := by
  unfold isMk at h
  simp only [Bool.and_eq_true, decide_eq_true_eq] at h
  unfold PA.fixes_isMark.f
  rw [if_pos (by omega)]
  simp; omega
theorem mark_no {c : Nat} (h : isMk c = false) : PA.fixes_isMark.f (c : Int) = some false := by
  unfold isMk at h
  simp only [Bool.and_eq_false_iff, decide_eq_false_iff_not] at h
  unfold PA.fixes_isMark.f
  split
  · simp; omega
  · rfl
theorem letter_yes {c : Nat} (h : isLt c = true) : PA.fixes_isLetter.f (c : Int) = some true := by
  unfold isLt at h
  simp only [Bool.and_eq_true, decide_eq_true_eq] at h
  unfold PA.fixes_isLetter.f
  rw [if_pos (by omega)]
  simp; omega
theorem letter_no {c : Nat} (h : isLt c = false) : PA.fixes_isLetter.f (c : Int) = some false := by
  unfold isLt at h
  simp only [Bool.and_eq_false_iff, decide_eq_false_iff_not] at h
  unfold PA.fixes_isLetter.f
  split
  · simp; omega
  · rfl
structure Rd (w0 w : World) (g : Nat) (s b : ByteArray) (W : World) : Prop where
  is : PA.IsS93 w0 W g s b
  below : Below w0.heap.size w0 W
  keep : KeepBut w W g none
theorem Rd.drawn {w0 w W W1 : World} {g : Nat} {s b : ByteArray} (h : Rd w0 w g s b W) (hd : Drawn0 W W1) : Rd w0 w g s b W1 := by
  obtain ⟨⟨q, rfl⟩⟩ := hd
  exact ⟨PA.IsS93.drewN h.is q, pw_below_drewN h.below q, keep_drewN h.keep q⟩
theorem Rd.step {w0 w W W1 : World} {g : Nat} {s b : ByteArray} (h : Rd w0 w g s b W) (hb : Below W.heap.size W W1) : Rd w0 w g s b W1 :=
  ⟨h.is.below hb, below_step h.below hb, h.keep.trans (KeepBut.of_below hb g none) (Or.inl rfl)⟩
theorem Rd.next {w0 w W W1 : World} {g : Nat} {s b s' b' : ByteArray} (h : Rd w0 w g s b W) (h1 : PA.IsS93 w0 W1 g s' b') (h2 : Below w0.heap.size w0 W1) (h3 : KeepBut W W1 g none) : Rd w0 w g s' b' W1 :=
  ⟨h1, h2, h.keep.trans h3 (Or.inl rfl)⟩
theorem Rd.start {w0 w : World} {g : Nat} {s b : ByteArray} (h1 : PA.IsS93 w0 w g s b) (h2 : Below w0.heap.size w0 w) : Rd w0 w g s b w := ⟨h1, h2, KeepBut.refl w g none⟩
theorem idx_out {c : Nat} {b : ByteArray} (hc : c < 256) (h : c ∉ cs b) : Lib.indexByte b.data.toList ((c : Int)).toNat.toUInt8 < 0 := by
  have h1 := Lib.indexByte_ge b.data.toList ((c : Int)).toNat.toUInt8
  rcases Int.lt_or_le (Lib.indexByte b.data.toList ((c : Int)).toNat.toUInt8) 0 with h2 | h2
  · exact h2
  · exfalso
    obtain ⟨o, ho⟩ := Int.eq_ofNat_of_zero_le h2
    have h3 := (Lib.indexByte_some ho).1
    apply h
    unfold cs
    rw [List.mem_map]
    refine ⟨_, List.mem_of_getElem? h3, ?_⟩
    simp
    omega
theorem idx_in {c : Nat} {b : ByteArray} (h : c ∈ cs b) : 0 ≤ Lib.indexByte b.data.toList ((c : Int)).toNat.toUInt8 := by
  have h1 := Lib.indexByte_ge b.data.toList ((c : Int)).toNat.toUInt8
  rcases Int.lt_or_le (Lib.indexByte b.data.toList ((c : Int)).toNat.toUInt8) 0 with h2 | h2
  · exfalso
    have h3 := Lib.indexByte_none (show Lib.indexByte b.data.toList ((c : Int)).toNat.toUInt8 = -1 by omega)
    unfold cs at h
    rw [List.mem_map] at h
    obtain ⟨x, hx, he⟩ := h
    obtain ⟨k, hk⟩ := List.mem_iff_getElem?.1 hx
    apply h3 k
    rw [hk, ← he]
    simp
  · exact h2
theorem Node.leaf (W : World) {ok : Nat → Prop} (ho : ok W.heap.size) (d m nm : Int) : Node (W.alloc (.cells #[.int .u8 d, .int .i64 m, .int .u8 nm, .slice none 0 0] 54)) ok (.pointer (some ⟨W.heap.size, 0, none⟩)) d m nm [] :=
  ⟨W.heap.size, 0, 0, 0, rfl, ho, fun h => absurd rfl h, by simp, by simp, by simp, by simp, fun i u h => by simp at h⟩
theorem post_leaf {f : Fm} {r : List Nat} {w0 w W : World} {g : Nat} {s' b : ByteArray} {o : Obj} (h : Rd w0 w g s' b W) (hr : cs s' = r)
    (hT : Tree (W.alloc o) (fun k => w.heap.size ≤ k) f (.pointer (some ⟨W.heap.size, 0, none⟩))) : ReadPost (some (f, r)) w0 w g b (.returned (.pointer (some ⟨W.heap.size, 0, none⟩))) (W.alloc o) :=
  have h1 := h.step (below_alloc (Below.refl _ _) o)
  ⟨h1.below, h1.keep, _, s', rfl, hT, h1.is, hr⟩
theorem post_nil {w0 w W : World} {g : Nat} {s' b' b : ByteArray} (h : Rd w0 w g s' b' W) : ReadPost none w0 w g b (.returned (.pointer none)) W :=
  ⟨h.below, h.keep, rfl, s', b', h.is⟩
set_option maxRecDepth 100000 in
set_option maxHeartbeats 2000000 in
theorem read_mark (g : Nat) (s b : ByteArray) (w0 w : World) (hI : PA.IsS93 w0 w g s b) (hB : Below w0.heap.size w0 w) (c : Nat) (r : List Nat) (hs : cs s = c :: r) (hm : isMk c = true) :
    Calls Tryd.prog 43 #[.pointer (some ⟨g, 0, none⟩)] w (ReadPost (some (.mark false (c - 48), r)) w0 w g b) := by
  obtain ⟨ht, hr⟩ := take_cons (b := b) hs
  have HT := Lib.hid ht
  have HC := Lib.hid hr
  clear ht hr hs
  have HM := Lib.hid (mark_yes hm)
  have hc : 48 ≤ c ∧ c ≤ 51 := by simpa [isMk] using hm
  obtain ⟨hc1, hc2⟩ := hc
  clear hm
  have HR := Lib.hid (Rd.start hI hB)
  clear hI hB
  go_enter Tryd.func43, Tryd.ntmps43
  go_wp2_with fail
  refine (PA.fixes_reader_take.calls g s b c (s.extract 1 s.size) b w0 _ HR.out.is HR.out.below HT.out).mono ?_
  rintro e w1 ⟨rfl, hI, hB, hk⟩
  have n0_ := Lib.hid (HR.out.next hI hB hk)
  clear HR hI hB hk
  have HR := n0_
  clear n0_
  go_wp2_with fail
  refine (PA.fixes_isMark.calls c true _ HM.out).mono ?_
  rintro e w2 ⟨rfl, hd⟩
  have n0_ := Lib.hid (HR.out.drawn hd)
  clear HR hd
  have HR := n0_
  clear n0_
  go_wp2
  go_ret
  refine post_leaf HR.out HC.out ?_
  simp only [Tree]
  rw [show ((c - 48 : Nat) : Int) = (c : Int) - 48 by omega]
  exact Node.leaf _ HR.out.keep.1 _ _ _
set_option maxRecDepth 100000 in
set_option maxHeartbeats 2000000 in
theorem read_end (g : Nat) (s b : ByteArray) (w0 w : World) (hI : PA.IsS93 w0 w g s b) (hB : Below w0.heap.size w0 w) (hs : cs s = []) :
    Calls Tryd.prog 43 #[.pointer (some ⟨g, 0, none⟩)] w (ReadPost none w0 w g b) := by
  have HT := Lib.hid (take_nil (b := b) hs)
  have HM := Lib.hid (show PA.fixes_isMark.f 0 = some false from mark_no (c := 0) rfl)
  have HL := Lib.hid (show PA.fixes_isLetter.f 0 = some false from letter_no (c := 0) rfl)
  clear hs
  have HR := Lib.hid (Rd.start hI hB)
  clear hI hB
  go_enter Tryd.func43, Tryd.ntmps43
  go_wp2_with fail
  refine (PA.fixes_reader_take.calls g s b 0 s b w0 _ HR.out.is HR.out.below HT.out).mono ?_
  rintro e w3 ⟨rfl, hI, hB, hk⟩
  have n0_ := Lib.hid (HR.out.next hI hB hk)
  clear HR hI hB hk
  have HR := n0_
  clear n0_
  go_wp2_with fail
  refine (PA.fixes_isMark.calls 0 false _ HM.out).mono ?_
  rintro e w4 ⟨rfl, hd⟩
  have n0_ := Lib.hid (HR.out.drawn hd)
  clear HR hd
  have HR := n0_
  clear n0_
  go_wp2_with fail
  refine (PA.fixes_isLetter.calls 0 false _ HL.out).mono ?_
  rintro e w5 ⟨rfl, hd⟩
  have n0_ := Lib.hid (HR.out.drawn hd)
  clear HR hd
  have HR := n0_
  clear n0_
  have hz0 : ∀ w, (zeroValue 3).run Tryd.prog w = .ok (.int .i64 0) w := fun _ => by kernel_rfl
  have HZ := Lib.hid hz0
  have HF := Lib.hid (show (findL (putL (putL (putL (putL ([] : List (Int × Int)) 38 2) 124 2) 60 1) 91 1) (0 : Int)).getD 0 = 0 from by decide)
  clear hz0
  go_wp2_with (first | ((with_reducible refine gate_op (op := .makeMap 45 none) rfl ?_); refine map_make_event rfl 45 rfl ?_; intro r0 wm hr0 hm hb; have HM_ := Lib.hid (IsM.mk' (enc := Value.int .u8) (encv := Value.int .i64) (l := []) hm rfl); have HW_ := Lib.hid hb; have HZ_ := Lib.hid (Nat.le_of_eq hr0.symm); clear hm hb hr0) | ((with_reducible refine gate_op (op := .insert 45 (.tmp 63) (.const (.int .u8 38)) (.const (.int .i64 2))) rfl ?_); refine map_put_event rfl 45 (.tmp 63) (.const (.int .u8 38)) (.const (.int .i64 2)) (Or.inl rfl) Tryd.underlying45 (keyOk_int Tryd.underlying5) (enc := Value.int .u8) (encv := Value.int .i64) 38 2 rfl rfl rfl HM_.out ?_; intro wm hm _ hb; have n0_ := Lib.hid hm; have n1_ := Lib.hid (hb _ _ HW_.out HZ_.out); clear hm hb HM_ HW_; have HM_ := n0_; have HW_ := n1_; clear n0_ n1_) | ((with_reducible refine gate_op (op := .insert 45 (.tmp 63) (.const (.int .u8 124)) (.const (.int .i64 2))) rfl ?_); refine map_put_event rfl 45 (.tmp 63) (.const (.int .u8 124)) (.const (.int .i64 2)) (Or.inl rfl) Tryd.underlying45 (keyOk_int Tryd.underlying5) (enc := Value.int .u8) (encv := Value.int .i64) 124 2 rfl rfl rfl HM_.out ?_; intro wm hm _ hb; have n0_ := Lib.hid hm; have n1_ := Lib.hid (hb _ _ HW_.out HZ_.out); clear hm hb HM_ HW_; have HM_ := n0_; have HW_ := n1_; clear n0_ n1_) | ((with_reducible refine gate_op (op := .insert 45 (.tmp 63) (.const (.int .u8 60)) (.const (.int .i64 1))) rfl ?_); refine map_put_event rfl 45 (.tmp 63) (.const (.int .u8 60)) (.const (.int .i64 1)) (Or.inl rfl) Tryd.underlying45 (keyOk_int Tryd.underlying5) (enc := Value.int .u8) (encv := Value.int .i64) 60 1 rfl rfl rfl HM_.out ?_; intro wm hm _ hb; have n0_ := Lib.hid hm; have n1_ := Lib.hid (hb _ _ HW_.out HZ_.out); clear hm hb HM_ HW_; have HM_ := n0_; have HW_ := n1_; clear n0_ n1_) | ((with_reducible refine gate_op (op := .insert 45 (.tmp 63) (.const (.int .u8 91)) (.const (.int .i64 1))) rfl ?_); refine map_put_event rfl 45 (.tmp 63) (.const (.int .u8 91)) (.const (.int .i64 1)) (Or.inl rfl) Tryd.underlying45 (keyOk_int Tryd.underlying5) (enc := Value.int .u8) (encv := Value.int .i64) 91 1 rfl rfl rfl HM_.out ?_; intro wm hm _ hb; have n0_ := Lib.hid hm; have n1_ := Lib.hid (hb _ _ HW_.out HZ_.out); clear hm hb HM_ HW_; have HM_ := n0_; have HW_ := n1_; clear n0_ n1_) | ((with_reducible refine gate_dst (N := 66) rfl ?_); refine map_get_event rfl 45 (.tmp 64) (.tmp 65) false rfl Tryd.underlying45 (enc := Value.int .u8) (encv := Value.int .i64) HZ.out (keyOk_int Tryd.underlying5) 0 rfl rfl HM_.out ?_; rw [HF.out]; simp only [Bool.false_eq_true, if_false]; have n0_ := Lib.hid (HR.out.step HW_.out); clear HR HM_ HW_ HZ_; have HR := n0_; clear n0_) | fail)
  go_wp2
  go_ret
  exact post_nil HR.out
set_option maxRecDepth 100000 in
set_option maxHeartbeats 2000000 in
theorem read_con116 (g : Nat) (s b : ByteArray) (w0 w : World) (hI : PA.IsS93 w0 w g s b) (hB : Below w0.heap.size w0 w) (r : List Nat) (hs : cs s = 116 :: r) :
    Calls Tryd.prog 43 #[.pointer (some ⟨g, 0, none⟩)] w (ReadPost (some (.con 116, r)) w0 w g b) := by
  obtain ⟨ht, hr⟩ := take_cons (b := b) hs
  have HT := Lib.hid ht
  have HC := Lib.hid hr
  clear ht hr hs
  have HM := Lib.hid (show PA.fixes_isMark.f ((116 : Nat) : Int) = some false from mark_no rfl)
  have HR := Lib.hid (Rd.start hI hB)
  clear hI hB
  go_enter Tryd.func43, Tryd.ntmps43
  go_wp2_with fail
  refine (PA.fixes_reader_take.calls g s b ((116 : Nat) : Int) (s.extract 1 s.size) b w0 _ HR.out.is HR.out.below HT.out).mono ?_
  rintro e w6 ⟨rfl, hI, hB, hk⟩
  have n0_ := Lib.hid (HR.out.next hI hB hk)
  clear HR hI hB hk
  have HR := n0_
  clear n0_
  go_wp2_with fail
  refine (PA.fixes_isMark.calls ((116 : Nat) : Int) false _ HM.out).mono ?_
  rintro e w7 ⟨rfl, hd⟩
  have n0_ := Lib.hid (HR.out.drawn hd)
  clear HR hd
  have HR := n0_
  clear n0_
  go_wp2
  go_ret
  exact post_leaf HR.out HC.out (Node.leaf _ HR.out.keep.1 _ _ _)
set_option maxRecDepth 100000 in
set_option maxHeartbeats 2000000 in
theorem read_con102 (g : Nat) (s b : ByteArray) (w0 w : World) (hI : PA.IsS93 w0 w g s b) (hB : Below w0.heap.size w0 w) (r : List Nat) (hs : cs s = 102 :: r) :
    Calls Tryd.prog 43 #[.pointer (some ⟨g, 0, none⟩)] w (ReadPost (some (.con 102, r)) w0 w g b) := by
  obtain ⟨ht, hr⟩ := take_cons (b := b) hs
  have HT := Lib.hid ht
  have HC := Lib.hid hr
  clear ht hr hs
  have HM := Lib.hid (show PA.fixes_isMark.f ((102 : Nat) : Int) = some false from mark_no rfl)
  have HR := Lib.hid (Rd.start hI hB)
  clear hI hB
  go_enter Tryd.func43, Tryd.ntmps43
  go_wp2_with fail
  refine (PA.fixes_reader_take.calls g s b ((102 : Nat) : Int) (s.extract 1 s.size) b w0 _ HR.out.is HR.out.below HT.out).mono ?_
  rintro e w8 ⟨rfl, hI, hB, hk⟩
  have n0_ := Lib.hid (HR.out.next hI hB hk)
  clear HR hI hB hk
  have HR := n0_
  clear n0_
  go_wp2_with fail
  refine (PA.fixes_isMark.calls ((102 : Nat) : Int) false _ HM.out).mono ?_
  rintro e w9 ⟨rfl, hd⟩
  have n0_ := Lib.hid (HR.out.drawn hd)
  clear HR hd
  have HR := n0_
  clear n0_
  go_wp2
  go_ret
  exact post_leaf HR.out HC.out (Node.leaf _ HR.out.keep.1 _ _ _)
set_option maxRecDepth 100000 in
set_option maxHeartbeats 2000000 in
theorem read_dash (g : Nat) (s b : ByteArray) (w0 w : World) (hI : PA.IsS93 w0 w g s b) (hB : Below w0.heap.size w0 w) (d : Nat) (r : List Nat) (hs : cs s = 45 :: d :: r) (hm : isMk d = true) :
    Calls Tryd.prog 43 #[.pointer (some ⟨g, 0, none⟩)] w (ReadPost (some (.mark true (d - 48), r)) w0 w g b) := by
  obtain ⟨ht, hr⟩ := take_cons (b := b) hs
  have HT := Lib.hid ht
  have HC := Lib.hid hr
  clear ht hr hs
  obtain ⟨ht, hr⟩ := take_cons (b := b) HC.out
  have HT2 := Lib.hid ht
  have HC2 := Lib.hid hr
  clear ht hr HC
  have HM := Lib.hid (show PA.fixes_isMark.f ((45 : Nat) : Int) = some false from mark_no rfl)
  have HM2 := Lib.hid (mark_yes hm)
  have hc : 48 ≤ d ∧ d ≤ 51 := by simpa [isMk] using hm
  obtain ⟨hc1, hc2⟩ := hc
  clear hm
  generalize s.extract 1 s.size = s1 at HT HT2 HC2
  have HR := Lib.hid (Rd.start hI hB)
  clear hI hB
  go_enter Tryd.func43, Tryd.ntmps43
  go_wp2_with fail
  refine (PA.fixes_reader_take.calls g s b ((45 : Nat) : Int) s1 b w0 _ HR.out.is HR.out.below HT.out).mono ?_
  rintro e w10 ⟨rfl, hI, hB, hk⟩
  have n0_ := Lib.hid (HR.out.next hI hB hk)
  clear HR hI hB hk
  have HR := n0_
  clear n0_
  go_wp2_with fail
  refine (PA.fixes_isMark.calls ((45 : Nat) : Int) false _ HM.out).mono ?_
  rintro e w11 ⟨rfl, hd⟩
  have n0_ := Lib.hid (HR.out.drawn hd)
  clear HR hd
  have HR := n0_
  clear n0_
  go_wp2_with fail
  refine (PA.fixes_reader_take.calls g s1 b d _ b w0 _ HR.out.is HR.out.below HT2.out).mono ?_
  rintro e w12 ⟨rfl, hI, hB, hk⟩
  have n0_ := Lib.hid (HR.out.next hI hB hk)
  clear HR hI hB hk
  have HR := n0_
  clear n0_
  go_wp2_with fail
  refine (PA.fixes_isMark.calls d true _ HM2.out).mono ?_
  rintro e w13 ⟨rfl, hd⟩
  have n0_ := Lib.hid (HR.out.drawn hd)
  clear HR hd
  have HR := n0_
  clear n0_
  go_wp2
  go_ret
  refine post_leaf HR.out HC2.out ?_
  simp only [Tree]
  rw [show ((d - 48 : Nat) : Int) = (d : Int) - 48 by omega]
  exact Node.leaf _ HR.out.keep.1 _ _ _
set_option maxRecDepth 100000 in
set_option maxHeartbeats 2000000 in
theorem read_dash_no (g : Nat) (s b : ByteArray) (w0 w : World) (hI : PA.IsS93 w0 w g s b) (hB : Below w0.heap.size w0 w) (d : Nat) (r : List Nat) (hs : cs s = 45 :: d :: r) (hm : isMk d = false) :
    Calls Tryd.prog 43 #[.pointer (some ⟨g, 0, none⟩)] w (ReadPost none w0 w g b) := by
  obtain ⟨ht, hr⟩ := take_cons (b := b) hs
  have HT := Lib.hid ht
  have HC := Lib.hid hr
  clear ht hr hs
  obtain ⟨ht, hr⟩ := take_cons (b := b) HC.out
  have HT2 := Lib.hid ht
  clear ht hr HC
  have HM := Lib.hid (show PA.fixes_isMark.f ((45 : Nat) : Int) = some false from mark_no rfl)
  have HM2 := Lib.hid (mark_no hm)
  clear hm
  generalize s.extract 1 s.size = s1 at HT HT2
  have HR := Lib.hid (Rd.start hI hB)
  clear hI hB
  go_enter Tryd.func43, Tryd.ntmps43
  go_wp2_with fail
  refine (PA.fixes_reader_take.calls g s b ((45 : Nat) : Int) s1 b w0 _ HR.out.is HR.out.below HT.out).mono ?_
  rintro e w14 ⟨rfl, hI, hB, hk⟩
  have n0_ := Lib.hid (HR.out.next hI hB hk)
  clear HR hI hB hk
  have HR := n0_
  clear n0_
  go_wp2_with fail
  refine (PA.fixes_isMark.calls ((45 : Nat) : Int) false _ HM.out).mono ?_
  rintro e w15 ⟨rfl, hd⟩
  have n0_ := Lib.hid (HR.out.drawn hd)
  clear HR hd
  have HR := n0_
  clear n0_
  go_wp2_with fail
  refine (PA.fixes_reader_take.calls g s1 b d _ b w0 _ HR.out.is HR.out.below HT2.out).mono ?_
  rintro e w16 ⟨rfl, hI, hB, hk⟩
  have n0_ := Lib.hid (HR.out.next hI hB hk)
  clear HR hI hB hk
  have HR := n0_
  clear n0_
  go_wp2_with fail
  refine (PA.fixes_isMark.calls d false _ HM2.out).mono ?_
  rintro e w17 ⟨rfl, hd⟩
  have n0_ := Lib.hid (HR.out.drawn hd)
  clear HR hd
  have HR := n0_
  clear n0_
  go_wp2
  go_ret
  exact post_nil HR.out
set_option maxRecDepth 100000 in
set_option maxHeartbeats 2000000 in
theorem read_dash_end (g : Nat) (s b : ByteArray) (w0 w : World) (hI : PA.IsS93 w0 w g s b) (hB : Below w0.heap.size w0 w) (hs : cs s = [45]) :
    Calls Tryd.prog 43 #[.pointer (some ⟨g, 0, none⟩)] w (ReadPost none w0 w g b) := by
  obtain ⟨ht, hr⟩ := take_cons (b := b) hs
  have HT := Lib.hid ht
  have HC := Lib.hid hr
  clear ht hr hs
  have HT2 := Lib.hid (take_nil (b := b) HC.out)
  clear HC
  have HM := Lib.hid (show PA.fixes_isMark.f ((45 : Nat) : Int) = some false from mark_no rfl)
  have HM2 := Lib.hid (show PA.fixes_isMark.f 0 = some false from mark_no (c := 0) rfl)
  generalize s.extract 1 s.size = s1 at HT HT2
  have HR := Lib.hid (Rd.start hI hB)
  clear hI hB
  go_enter Tryd.func43, Tryd.ntmps43
  go_wp2_with fail
  refine (PA.fixes_reader_take.calls g s b ((45 : Nat) : Int) s1 b w0 _ HR.out.is HR.out.below HT.out).mono ?_
  rintro e w18 ⟨rfl, hI, hB, hk⟩
  have n0_ := Lib.hid (HR.out.next hI hB hk)
  clear HR hI hB hk
  have HR := n0_
  clear n0_
  go_wp2_with fail
  refine (PA.fixes_isMark.calls ((45 : Nat) : Int) false _ HM.out).mono ?_
  rintro e w19 ⟨rfl, hd⟩
  have n0_ := Lib.hid (HR.out.drawn hd)
  clear HR hd
  have HR := n0_
  clear n0_
  go_wp2_with fail
  refine (PA.fixes_reader_take.calls g s1 b 0 s1 b w0 _ HR.out.is HR.out.below HT2.out).mono ?_
  rintro e w20 ⟨rfl, hI, hB, hk⟩
  have n0_ := Lib.hid (HR.out.next hI hB hk)
  clear HR hI hB hk
  have HR := n0_
  clear n0_
  go_wp2_with fail
  refine (PA.fixes_isMark.calls 0 false _ HM2.out).mono ?_
  rintro e w21 ⟨rfl, hd⟩
  have n0_ := Lib.hid (HR.out.drawn hd)
  clear HR hd
  have HR := n0_
  clear n0_
  go_wp2
  go_ret
  exact post_nil HR.out
set_option maxRecDepth 100000 in
set_option maxHeartbeats 2000000 in
theorem read_var (g : Nat) (s b : ByteArray) (w0 w : World) (hI : PA.IsS93 w0 w g s b) (hB : Below w0.heap.size w0 w) (c : Nat) (r : List Nat) (hs : cs s = c :: r) (hm : isLt c = true) (hb : c ∈ cs b) :
    Calls Tryd.prog 43 #[.pointer (some ⟨g, 0, none⟩)] w (ReadPost (some (.var c, r)) w0 w g b) := by
  obtain ⟨ht, hr⟩ := take_cons (b := b) hs
  have HT := Lib.hid ht
  have HC := Lib.hid hr
  clear ht hr hs
  have HM := Lib.hid (show PA.fixes_isMark.f (c : Int) = some false from mark_no (by simp [isLt] at hm; simp [isMk]; omega))
  have HL := Lib.hid (letter_yes hm)
  have hc : 120 ≤ c ∧ c ≤ 122 := by simpa [isLt] using hm
  obtain ⟨hc1, hc2⟩ := hc
  clear hm
  have e1 : ((c : Int) == 116) = false := beq_eq_false_iff_ne.2 (by omega)
  have e2 : ((c : Int) == 102) = false := beq_eq_false_iff_ne.2 (by omega)
  have hix := idx_in hb
  generalize hIe : Lib.indexByte b.data.toList ((c : Int)).toNat.toUInt8 = ix at hix
  have HIX := Lib.hid hIe
  clear hIe hb
  have HR := Lib.hid (Rd.start hI hB)
  clear hI hB
  go_enter Tryd.func43, Tryd.ntmps43
  go_wp2_with fail
  refine (PA.fixes_reader_take.calls g s b c (s.extract 1 s.size) b w0 _ HR.out.is HR.out.below HT.out).mono ?_
  rintro e w22 ⟨rfl, hI, hB, hk⟩
  have n0_ := Lib.hid (HR.out.next hI hB hk)
  clear HR hI hB hk
  have HR := n0_
  clear n0_
  go_wp2_with fail
  refine (PA.fixes_isMark.calls c false _ HM.out).mono ?_
  rintro e w23 ⟨rfl, hd⟩
  have n0_ := Lib.hid (HR.out.drawn hd)
  clear HR hd
  have HR := n0_
  clear n0_
  go_wp2_with fail
  refine (PA.fixes_isLetter.calls c true _ HL.out).mono ?_
  rintro e w24 ⟨rfl, hd⟩
  have n0_ := Lib.hid (HR.out.drawn hd)
  clear HR hd
  have HR := n0_
  clear n0_
  obtain ⟨HG, hg⟩ := HR.out.is
  have hcell := PA.cellS93_1 HG
  clear HG hg
  go_wp2_with fail
  refine (Tryd.strings_IndexByte b c _).mono ?_
  rintro e wi ⟨rfl, rfl⟩
  rw [HIX.out]
  go_wp2
  go_ret
  exact post_leaf HR.out HC.out (Node.leaf _ HR.out.keep.1 _ _ _)
set_option maxRecDepth 100000 in
set_option maxHeartbeats 2000000 in
theorem read_var_no (g : Nat) (s b : ByteArray) (w0 w : World) (hI : PA.IsS93 w0 w g s b) (hB : Below w0.heap.size w0 w) (c : Nat) (r : List Nat) (hs : cs s = c :: r) (hm : isLt c = true) (hb : c ∉ cs b) :
    Calls Tryd.prog 43 #[.pointer (some ⟨g, 0, none⟩)] w (ReadPost none w0 w g b) := by
  obtain ⟨ht, hr⟩ := take_cons (b := b) hs
  have HT := Lib.hid ht
  have HC := Lib.hid hr
  clear ht hr hs
  have HM := Lib.hid (show PA.fixes_isMark.f (c : Int) = some false from mark_no (by simp [isLt] at hm; simp [isMk]; omega))
  have HL := Lib.hid (letter_yes hm)
  have hc : 120 ≤ c ∧ c ≤ 122 := by simpa [isLt] using hm
  obtain ⟨hc1, hc2⟩ := hc
  clear hm
  have e1 : ((c : Int) == 116) = false := beq_eq_false_iff_ne.2 (by omega)
  have e2 : ((c : Int) == 102) = false := beq_eq_false_iff_ne.2 (by omega)
  have hix := idx_out (by omega) hb
  generalize hIe : Lib.indexByte b.data.toList ((c : Int)).toNat.toUInt8 = ix at hix
  have HIX := Lib.hid hIe
  clear hIe hb
  have HR := Lib.hid (Rd.start hI hB)
  clear hI hB
  go_enter Tryd.func43, Tryd.ntmps43
  go_wp2_with fail
  refine (PA.fixes_reader_take.calls g s b c (s.extract 1 s.size) b w0 _ HR.out.is HR.out.below HT.out).mono ?_
  rintro e w25 ⟨rfl, hI, hB, hk⟩
  have n0_ := Lib.hid (HR.out.next hI hB hk)
  clear HR hI hB hk
  have HR := n0_
  clear n0_
  go_wp2_with fail
  refine (PA.fixes_isMark.calls c false _ HM.out).mono ?_
  rintro e w26 ⟨rfl, hd⟩
  have n0_ := Lib.hid (HR.out.drawn hd)
  clear HR hd
  have HR := n0_
  clear n0_
  go_wp2_with fail
  refine (PA.fixes_isLetter.calls c true _ HL.out).mono ?_
  rintro e w27 ⟨rfl, hd⟩
  have n0_ := Lib.hid (HR.out.drawn hd)
  clear HR hd
  have HR := n0_
  clear n0_
  obtain ⟨HG, hg⟩ := HR.out.is
  have hcell := PA.cellS93_1 HG
  clear HG hg
  go_wp2_with fail
  refine (Tryd.strings_IndexByte b c _).mono ?_
  rintro e wi ⟨rfl, rfl⟩
  rw [HIX.out]
  go_wp2
  go_ret
  exact post_nil HR.out
set_option maxRecDepth 100000 in
set_option maxHeartbeats 2000000 in
theorem read_none (g : Nat) (s b : ByteArray) (w0 w : World) (hI : PA.IsS93 w0 w g s b) (hB : Below w0.heap.size w0 w) (c : Nat) (r : List Nat) (hs : cs s = c :: r) (hm : isMk c = false) (hl : isLt c = false) (h1 : ((c : Int) == 45) = false) (h2 : ((c : Int) == 116) = false) (h3 : ((c : Int) == 102) = false) (h4 : ((c : Int) == 109) = false) (h5 : ((c : Int) == 103) = false) (h6 : (findL (putL (putL (putL (putL ([] : List (Int × Int)) 38 2) 124 2) 60 1) 91 1) (c : Int)).getD 0 = 0) :
    Calls Tryd.prog 43 #[.pointer (some ⟨g, 0, none⟩)] w (ReadPost none w0 w g b) := by
  obtain ⟨ht, hr⟩ := take_cons (b := b) hs
  have HT := Lib.hid ht
  have HC := Lib.hid hr
  clear ht hr hs
  have HM := Lib.hid (mark_no hm)
  have HL := Lib.hid (letter_no hl)
  have H6 := Lib.hid h6
  clear hm hl h6
  have HR := Lib.hid (Rd.start hI hB)
  clear hI hB
  go_enter Tryd.func43, Tryd.ntmps43
  go_wp2_with fail
  refine (PA.fixes_reader_take.calls g s b c (s.extract 1 s.size) b w0 _ HR.out.is HR.out.below HT.out).mono ?_
  rintro e w28 ⟨rfl, hI, hB, hk⟩
  have n0_ := Lib.hid (HR.out.next hI hB hk)
  clear HR hI hB hk
  have HR := n0_
  clear n0_
  go_wp2_with fail
  refine (PA.fixes_isMark.calls c false _ HM.out).mono ?_
  rintro e w29 ⟨rfl, hd⟩
  have n0_ := Lib.hid (HR.out.drawn hd)
  clear HR hd
  have HR := n0_
  clear n0_
  go_wp2_with fail
  refine (PA.fixes_isLetter.calls c false _ HL.out).mono ?_
  rintro e w30 ⟨rfl, hd⟩
  have n0_ := Lib.hid (HR.out.drawn hd)
  clear HR hd
  have HR := n0_
  clear n0_
  have hz0 : ∀ w, (zeroValue 3).run Tryd.prog w = .ok (.int .i64 0) w := fun _ => by kernel_rfl
  have HZ := Lib.hid hz0
  have HF := Lib.hid (show (findL (putL (putL (putL (putL ([] : List (Int × Int)) 38 2) 124 2) 60 1) 91 1) (c : Int)).getD 0 = 0 from H6.out)
  clear hz0
  go_wp2_with (first | ((with_reducible refine gate_op (op := .makeMap 45 none) rfl ?_); refine map_make_event rfl 45 rfl ?_; intro r0 wm hr0 hm hb; have HM_ := Lib.hid (IsM.mk' (enc := Value.int .u8) (encv := Value.int .i64) (l := []) hm rfl); have HW_ := Lib.hid hb; have HZ_ := Lib.hid (Nat.le_of_eq hr0.symm); clear hm hb hr0) | ((with_reducible refine gate_op (op := .insert 45 (.tmp 63) (.const (.int .u8 38)) (.const (.int .i64 2))) rfl ?_); refine map_put_event rfl 45 (.tmp 63) (.const (.int .u8 38)) (.const (.int .i64 2)) (Or.inl rfl) Tryd.underlying45 (keyOk_int Tryd.underlying5) (enc := Value.int .u8) (encv := Value.int .i64) 38 2 rfl rfl rfl HM_.out ?_; intro wm hm _ hb; have n0_ := Lib.hid hm; have n1_ := Lib.hid (hb _ _ HW_.out HZ_.out); clear hm hb HM_ HW_; have HM_ := n0_; have HW_ := n1_; clear n0_ n1_) | ((with_reducible refine gate_op (op := .insert 45 (.tmp 63) (.const (.int .u8 124)) (.const (.int .i64 2))) rfl ?_); refine map_put_event rfl 45 (.tmp 63) (.const (.int .u8 124)) (.const (.int .i64 2)) (Or.inl rfl) Tryd.underlying45 (keyOk_int Tryd.underlying5) (enc := Value.int .u8) (encv := Value.int .i64) 124 2 rfl rfl rfl HM_.out ?_; intro wm hm _ hb; have n0_ := Lib.hid hm; have n1_ := Lib.hid (hb _ _ HW_.out HZ_.out); clear hm hb HM_ HW_; have HM_ := n0_; have HW_ := n1_; clear n0_ n1_) | ((with_reducible refine gate_op (op := .insert 45 (.tmp 63) (.const (.int .u8 60)) (.const (.int .i64 1))) rfl ?_); refine map_put_event rfl 45 (.tmp 63) (.const (.int .u8 60)) (.const (.int .i64 1)) (Or.inl rfl) Tryd.underlying45 (keyOk_int Tryd.underlying5) (enc := Value.int .u8) (encv := Value.int .i64) 60 1 rfl rfl rfl HM_.out ?_; intro wm hm _ hb; have n0_ := Lib.hid hm; have n1_ := Lib.hid (hb _ _ HW_.out HZ_.out); clear hm hb HM_ HW_; have HM_ := n0_; have HW_ := n1_; clear n0_ n1_) | ((with_reducible refine gate_op (op := .insert 45 (.tmp 63) (.const (.int .u8 91)) (.const (.int .i64 1))) rfl ?_); refine map_put_event rfl 45 (.tmp 63) (.const (.int .u8 91)) (.const (.int .i64 1)) (Or.inl rfl) Tryd.underlying45 (keyOk_int Tryd.underlying5) (enc := Value.int .u8) (encv := Value.int .i64) 91 1 rfl rfl rfl HM_.out ?_; intro wm hm _ hb; have n0_ := Lib.hid hm; have n1_ := Lib.hid (hb _ _ HW_.out HZ_.out); clear hm hb HM_ HW_; have HM_ := n0_; have HW_ := n1_; clear n0_ n1_) | ((with_reducible refine gate_dst (N := 66) rfl ?_); refine map_get_event rfl 45 (.tmp 64) (.tmp 65) false rfl Tryd.underlying45 (enc := Value.int .u8) (encv := Value.int .i64) HZ.out (keyOk_int Tryd.underlying5) c rfl rfl HM_.out ?_; rw [HF.out]; simp only [Bool.false_eq_true, if_false]; have n0_ := Lib.hid (HR.out.step HW_.out); clear HR HM_ HW_ HZ_; have HR := n0_; clear n0_) | fail)
  go_wp2
  go_ret
  exact post_nil HR.out
end Go.Proofs.YtjffhhalmicodaaDoor.X
end
section
set_option linter.unusedVariables false
set_option linter.unusedSimpArgs false
namespace Go.Proofs.YtjffhhalmicodaaDoor.X
open Go.RowKit Go.Proofs.YtjffhhalmicodaaDoorW.PrintWords Go.Proofs.YtjffhhalmicodaaDoorW.PrintLast Go.Proofs.YtjffhhalmicodaaDoorW.PrintMore
def ReadUpto (n : Nat) : Prop := ∀ (g : Nat) (s b : ByteArray) (w0 w : World), (cs s).length < n → b.size + (cs s).length ≤ 1000000 → PA.IsS93 w0 w g s b → Below w0.heap.size w0 w →
  Calls Tryd.prog 43 #[.pointer (some ⟨g, 0, none⟩)] w (ReadPost (parse n (cs s) (cs b)) w0 w g b)
theorem Node.kid1 (W : World) {ok : Nat → Prop} (ho : ok W.heap.size) (ho2 : ok (W.heap.size + 1)) (u : Value) (d m nm : Int) : Node ((W.alloc (.cells #[u] 41)).alloc (.cells #[.int .u8 d, .int .i64 m, .int .u8 nm, .slice (some ⟨W.heap.size, 0, none⟩) 1 1] 54)) ok (.pointer (some ⟨W.heap.size + 1, 0, none⟩)) d m nm [u] := by
  refine ⟨W.heap.size + 1, W.heap.size, 0, 1, rfl, ho2, fun _ => ho, ?_, ?_, ?_, ?_, ?_⟩
  · simp
  · simp
  · simp
  · simp
  · intro i u' hu
    cases i with
    | zero => simp at hu; subst hu; simp
    | succ i => simp at hu
theorem Rd.setB {w0 w W : World} {g : Nat} {s b : ByteArray} (h : Rd w0 w g s b W) (x : ByteArray) : Rd w0 w g s x (W.setCell ⟨g, 1, none⟩ (.string x)) :=
  ⟨h.is.set_1 x, below_set h.below h.is.2, h.keep.set_ 1 _⟩
def parseFix (n c : Nat) (l b : List Nat) : Option (Fm × List Nat) := match l with
  | x :: r => if isLt x = true ∧ x ∉ b then (parse n r (b ++ [x])).bind fun p => some (.fix c x p.1, p.2) else none
  | [] => none
theorem cs_push (b : ByteArray) (x : Nat) (hx : x < 256) : cs (b ++ ⟨#[UInt8.ofNat x]⟩) = cs b ++ [x] := by
  unfold cs
  rw [ByteArray.data_append]
  simp
  omega
theorem run_x (w : World) : (convert 5 9 (.int .u8 120)).run Tryd.prog w = .ok (.string ⟨#[120]⟩) w := by kernel_rfl
theorem run_y (w : World) : (convert 5 9 (.int .u8 121)).run Tryd.prog w = .ok (.string ⟨#[121]⟩) w := by kernel_rfl
theorem run_z (w : World) : (convert 5 9 (.int .u8 122)).run Tryd.prog w = .ok (.string ⟨#[122]⟩) w := by kernel_rfl
theorem run_letter (x : Nat) (h1 : 120 ≤ x) (h2 : x ≤ 122) (w : World) : (convert 5 9 (.int .u8 (x : Int))).run Tryd.prog w = .ok (.string ⟨#[x.toUInt8]⟩) w := by
  have h : x = 120 ∨ x = 121 ∨ x = 122 := by omega
  rcases h with rfl | rfl | rfl
  · exact run_x w
  · exact run_y w
  · exact run_z w
set_option maxRecDepth 100000 in
set_option maxHeartbeats 2000000 in
theorem fix_end (g : Nat) (s b : ByteArray) (w0 w : World) (hI : PA.IsS93 w0 w g s b) (hB : Below w0.heap.size w0 w) (c : Nat) (hs : cs s = []) :
    Calls Tryd.prog 55 #[.pointer (some ⟨g, 0, none⟩), .int .u8 c] w (ReadPost none w0 w g b) := by
  have HT := Lib.hid (take_nil (b := b) hs)
  have HL := Lib.hid (show PA.fixes_isLetter.f 0 = some false from letter_no (c := 0) rfl)
  clear hs
  have HR := Lib.hid (Rd.start hI hB)
  clear hI hB
  go_enter Tryd.func55, Tryd.ntmps55
  go_wp2_with fail
  refine (PA.fixes_reader_take.calls g s b 0 s b w0 _ HR.out.is HR.out.below HT.out).mono ?_
  rintro e w1 ⟨rfl, hI, hB, hk⟩
  have n0_ := Lib.hid (HR.out.next hI hB hk)
  clear HR hI hB hk
  have HR := n0_
  clear n0_
  go_wp2_with fail
  refine (PA.fixes_isLetter.calls 0 false _ HL.out).mono ?_
  rintro e w2 ⟨rfl, hd⟩
  have n0_ := Lib.hid (HR.out.drawn hd)
  clear HR hd
  have HR := n0_
  clear n0_
  go_wp2
  go_ret
  exact post_nil HR.out
set_option maxRecDepth 100000 in
set_option maxHeartbeats 2000000 in
theorem fix_no (g : Nat) (s b : ByteArray) (w0 w : World) (hI : PA.IsS93 w0 w g s b) (hB : Below w0.heap.size w0 w) (c : Nat) (x : Nat) (r : List Nat) (hs : cs s = x :: r) (hm : isLt x = false) :
    Calls Tryd.prog 55 #[.pointer (some ⟨g, 0, none⟩), .int .u8 c] w (ReadPost none w0 w g b) := by
  obtain ⟨ht, hr⟩ := take_cons (b := b) hs
  have HT := Lib.hid ht
  have HC := Lib.hid hr
  clear ht hr hs
  have HL := Lib.hid (letter_no hm)
  clear hm
  have HR := Lib.hid (Rd.start hI hB)
  clear hI hB
  go_enter Tryd.func55, Tryd.ntmps55
  go_wp2_with fail
  refine (PA.fixes_reader_take.calls g s b x (s.extract 1 s.size) b w0 _ HR.out.is HR.out.below HT.out).mono ?_
  rintro e w3 ⟨rfl, hI, hB, hk⟩
  have n0_ := Lib.hid (HR.out.next hI hB hk)
  clear HR hI hB hk
  have HR := n0_
  clear n0_
  go_wp2_with fail
  refine (PA.fixes_isLetter.calls x false _ HL.out).mono ?_
  rintro e w4 ⟨rfl, hd⟩
  have n0_ := Lib.hid (HR.out.drawn hd)
  clear HR hd
  have HR := n0_
  clear n0_
  go_wp2
  go_ret
  exact post_nil HR.out
set_option maxRecDepth 100000 in
set_option maxHeartbeats 2000000 in
theorem fix_in (g : Nat) (s b : ByteArray) (w0 w : World) (hI : PA.IsS93 w0 w g s b) (hB : Below w0.heap.size w0 w) (c : Nat) (x : Nat) (r : List Nat) (hs : cs s = x :: r) (hm : isLt x = true) (hb : x ∈ cs b) :
    Calls Tryd.prog 55 #[.pointer (some ⟨g, 0, none⟩), .int .u8 c] w (ReadPost none w0 w g b) := by
  obtain ⟨ht, hr⟩ := take_cons (b := b) hs
  have HT := Lib.hid ht
  have HC := Lib.hid hr
  clear ht hr hs
  have HL := Lib.hid (letter_yes hm)
  have hc : 120 ≤ x ∧ x ≤ 122 := by simpa [isLt] using hm
  obtain ⟨hc1, hc2⟩ := hc
  clear hm
  have hix := idx_in hb
  generalize hIe : Lib.indexByte b.data.toList ((x : Int)).toNat.toUInt8 = ix at hix
  have HIX := Lib.hid hIe
  clear hIe hb
  have HR := Lib.hid (Rd.start hI hB)
  clear hI hB
  go_enter Tryd.func55, Tryd.ntmps55
  go_wp2_with fail
  refine (PA.fixes_reader_take.calls g s b x (s.extract 1 s.size) b w0 _ HR.out.is HR.out.below HT.out).mono ?_
  rintro e w5 ⟨rfl, hI, hB, hk⟩
  have n0_ := Lib.hid (HR.out.next hI hB hk)
  clear HR hI hB hk
  have HR := n0_
  clear n0_
  go_wp2_with fail
  refine (PA.fixes_isLetter.calls x true _ HL.out).mono ?_
  rintro e w6 ⟨rfl, hd⟩
  have n0_ := Lib.hid (HR.out.drawn hd)
  clear HR hd
  have HR := n0_
  clear n0_
  obtain ⟨HG, hg⟩ := HR.out.is
  have hcell := PA.cellS93_1 HG
  clear HG hg
  go_wp2_with fail
  refine (Tryd.strings_IndexByte b x _).mono ?_
  rintro e wi ⟨rfl, rfl⟩
  rw [HIX.out]
  go_wp2
  go_ret
  exact post_nil HR.out
set_option maxRecDepth 100000 in
set_option maxHeartbeats 2000000 in
theorem fix_out_none (g : Nat) (s b : ByteArray) (w0 w : World) (hI : PA.IsS93 w0 w g s b) (hB : Below w0.heap.size w0 w) (c : Nat) (x : Nat) (r : List Nat) (hs : cs s = x :: r) (hm : isLt x = true) (hb : x ∉ cs b) (n : Nat) (hn : r.length < n) (hsz : b.size + (r.length + 1) ≤ 1000000) (ih : ReadUpto n) (ho : parse n r (cs b ++ [x]) = none) :
    Calls Tryd.prog 55 #[.pointer (some ⟨g, 0, none⟩), .int .u8 c] w (ReadPost none w0 w g b) := by
  obtain ⟨ht, hr⟩ := take_cons (b := b) hs
  have HT := Lib.hid ht
  have HC := Lib.hid hr
  clear ht hr hs
  have HO := Lib.hid ho
  clear ho
  have IH := Lib.hid ih
  clear ih
  have hcv := run_letter x (by simp [isLt] at hm; omega) (by simp [isLt] at hm; omega)
  have HL := Lib.hid (letter_yes hm)
  have hc : 120 ≤ x ∧ x ≤ 122 := by simpa [isLt] using hm
  obtain ⟨hc1, hc2⟩ := hc
  clear hm
  have hix := idx_out (by omega) hb
  generalize hIe : Lib.indexByte b.data.toList ((x : Int)).toNat.toUInt8 = ix at hix
  have HIX := Lib.hid hIe
  clear hIe hb
  have HR := Lib.hid (Rd.start hI hB)
  clear hI hB
  go_enter Tryd.func55, Tryd.ntmps55
  go_wp2_with fail
  refine (PA.fixes_reader_take.calls g s b x (s.extract 1 s.size) b w0 _ HR.out.is HR.out.below HT.out).mono ?_
  rintro e w7 ⟨rfl, hI, hB, hk⟩
  have n0_ := Lib.hid (HR.out.next hI hB hk)
  clear HR hI hB hk
  have HR := n0_
  clear n0_
  go_wp2_with fail
  refine (PA.fixes_isLetter.calls x true _ HL.out).mono ?_
  rintro e w8 ⟨rfl, hd⟩
  have n0_ := Lib.hid (HR.out.drawn hd)
  clear HR hd
  have HR := n0_
  clear n0_
  obtain ⟨HG, hg⟩ := HR.out.is
  have hcell := PA.cellS93_1 HG
  clear HG hg
  go_wp2_with fail
  refine (Tryd.strings_IndexByte b x _).mono ?_
  rintro e wi ⟨rfl, rfl⟩
  rw [HIX.out]
  have hfr := blk_frozen HR.out.is.1 1
  go_wp2_with fail
  refine (IH.out g (s.extract 1 s.size) (b ++ ⟨#[UInt8.ofNat x]⟩) w0 (wi.setCell ⟨g, 1, none⟩ (.string (b ++ ⟨#[UInt8.ofNat x]⟩))) (by rw [HC.out]; exact hn) (by rw [HC.out, ByteArray.size_append]; show b.size + 1 + r.length ≤ 1000000; omega) (HR.out.is.set_1 _) (below_set HR.out.below HR.out.is.2)).mono ?_
  rintro e w2 ⟨hB2, hK2, hres⟩
  rw [HC.out, cs_push b x (by omega)] at hres
  rw [HO.out] at hres
  have HN := Lib.hid (fun (s' b' : ByteArray) (hI2 : PA.IsS93 w0 w2 g s' b') => (HR.out.setB (b ++ ⟨#[UInt8.ofNat x]⟩)).next hI2 hB2 hK2)
  have HR1 := HR
  clear hK2 hB2 hcell hfr HR
  obtain ⟨rfl, s', b', hI2⟩ := hres
  have HR := Lib.hid (HN.out s' b' hI2)
  have hcell := PA.cellS93_1 hI2.1
  have hfr := blk_frozen hI2.1 1
  clear hI2
  go_wp2
  go_ret
  exact post_nil (HR.out.setB b)
set_option maxRecDepth 100000 in
set_option maxHeartbeats 2000000 in
theorem fix_out_some (g : Nat) (s b : ByteArray) (w0 w : World) (hI : PA.IsS93 w0 w g s b) (hB : Below w0.heap.size w0 w) (c : Nat) (x : Nat) (r : List Nat) (hs : cs s = x :: r) (hm : isLt x = true) (hb : x ∉ cs b) (n : Nat) (hn : r.length < n) (hsz : b.size + (r.length + 1) ≤ 1000000) (ih : ReadUpto n) (p : Fm × List Nat) (ho : parse n r (cs b ++ [x]) = some p) :
    Calls Tryd.prog 55 #[.pointer (some ⟨g, 0, none⟩), .int .u8 c] w (ReadPost (some (.fix c x p.1, p.2)) w0 w g b) := by
  obtain ⟨ht, hr⟩ := take_cons (b := b) hs
  have HT := Lib.hid ht
  have HC := Lib.hid hr
  clear ht hr hs
  have HO := Lib.hid ho
  clear ho
  have IH := Lib.hid ih
  clear ih
  have hcv := run_letter x (by simp [isLt] at hm; omega) (by simp [isLt] at hm; omega)
  have HL := Lib.hid (letter_yes hm)
  have hc : 120 ≤ x ∧ x ≤ 122 := by simpa [isLt] using hm
  obtain ⟨hc1, hc2⟩ := hc
  clear hm
  have hix := idx_out (by omega) hb
  generalize hIe : Lib.indexByte b.data.toList ((x : Int)).toNat.toUInt8 = ix at hix
  have HIX := Lib.hid hIe
  clear hIe hb
  have HR := Lib.hid (Rd.start hI hB)
  clear hI hB
  go_enter Tryd.func55, Tryd.ntmps55
  go_wp2_with fail
  refine (PA.fixes_reader_take.calls g s b x (s.extract 1 s.size) b w0 _ HR.out.is HR.out.below HT.out).mono ?_
  rintro e w9 ⟨rfl, hI, hB, hk⟩
  have n0_ := Lib.hid (HR.out.next hI hB hk)
  clear HR hI hB hk
  have HR := n0_
  clear n0_
  go_wp2_with fail
  refine (PA.fixes_isLetter.calls x true _ HL.out).mono ?_
  rintro e w10 ⟨rfl, hd⟩
  have n0_ := Lib.hid (HR.out.drawn hd)
  clear HR hd
  have HR := n0_
  clear n0_
  obtain ⟨HG, hg⟩ := HR.out.is
  have hcell := PA.cellS93_1 HG
  clear HG hg
  go_wp2_with fail
  refine (Tryd.strings_IndexByte b x _).mono ?_
  rintro e wi ⟨rfl, rfl⟩
  rw [HIX.out]
  have hfr := blk_frozen HR.out.is.1 1
  go_wp2_with fail
  refine (IH.out g (s.extract 1 s.size) (b ++ ⟨#[UInt8.ofNat x]⟩) w0 (wi.setCell ⟨g, 1, none⟩ (.string (b ++ ⟨#[UInt8.ofNat x]⟩))) (by rw [HC.out]; exact hn) (by rw [HC.out, ByteArray.size_append]; show b.size + 1 + r.length ≤ 1000000; omega) (HR.out.is.set_1 _) (below_set HR.out.below HR.out.is.2)).mono ?_
  rintro e w2 ⟨hB2, hK2, hres⟩
  rw [HC.out, cs_push b x (by omega)] at hres
  rw [HO.out] at hres
  have HN := Lib.hid (fun (s' b' : ByteArray) (hI2 : PA.IsS93 w0 w2 g s' b') => (HR.out.setB (b ++ ⟨#[UInt8.ofNat x]⟩)).next hI2 hB2 hK2)
  have HR1 := HR
  clear hK2 hB2 hcell hfr HR
  obtain ⟨v, s', rfl, hT, hI2, hs'⟩ := hres
  obtain ⟨gk, rfl⟩ := hT.ptr
  have HR := Lib.hid (HN.out s' _ hI2)
  have hcell := PA.cellS93_1 hI2.1
  have hfr := blk_frozen hI2.1 1
  have HS := Lib.hid hs'
  have HT2 := Lib.hid hT
  clear hI2 hs' hT
  go_wp2
  go_ret
  have h1 := HR.out.setB b
  have h2 := h1.step (below_alloc (below_alloc (Below.refl _ _) (.cells #[.pointer (some ⟨gk, 0, none⟩)] 41)) (.cells #[.int .u8 c, .int .i64 0, .int .u8 x, .slice (some ⟨w2.heap.size, 0, none⟩) 1 1] 54))
  refine ⟨h2.below, h2.keep, _, s', rfl, ⟨.pointer (some ⟨gk, 0, none⟩), ?_, ?_⟩, h2.is, HS.out⟩
  · have hn := Node.kid1 (w2.setCell ⟨g, 1, none⟩ (.string b)) (ok := fun k => w.heap.size ≤ k) h1.keep.1 (Nat.le_succ_of_le h1.keep.1) (.pointer (some ⟨gk, 0, none⟩)) c 0 x
    rw [show (w2.setCell ⟨g, 1, none⟩ (.string b)).heap.size = w2.heap.size by simp [World.setCell]] at hn
    exact hn
  · refine Tree.same ?_ (fun k _ h => Nat.le_trans (Nat.le_trans HR1.out.keep.1 (by simp [World.setCell])) h) _ _ HT2.out
    exact (SameBut.of_keep HR.out.is.1 ((KeepBut.refl _ _ _).set_ _ _)).trans (SameBut.of_below (below_alloc (below_alloc (Below.refl _ _) _) _))
end Go.Proofs.YtjffhhalmicodaaDoor.X
end
section
set_option linter.unusedVariables false
set_option linter.unusedSimpArgs false
namespace Go.Proofs.YtjffhhalmicodaaDoor.X
open Go.RowKit Go.Proofs.YtjffhhalmicodaaDoorW.PrintWords Go.Proofs.YtjffhhalmicodaaDoorW.PrintLast Go.Proofs.YtjffhhalmicodaaDoorW.PrintMore
theorem ReadPost.behind {o : Option (Fm × List Nat)} {w0 w w1 : World} {g : Nat} {s b : ByteArray} {e : Ending} {w' : World} (h : Rd w0 w g s b w1) (hp : ReadPost o w0 w1 g b e w') : ReadPost o w0 w g b e w' := by
  obtain ⟨h1, h2, h3⟩ := hp
  refine ⟨h1, h.keep.trans h2 (Or.inl rfl), ?_⟩
  cases o with
  | none => exact h3
  | some p =>
    obtain ⟨v, s', rfl, ht, hi, hs⟩ := h3
    exact ⟨v, s', rfl, Tree.same (fun a v _ hc _ => hc) (fun k _ hk => Nat.le_trans h.keep.1 hk) _ _ ht, hi, hs⟩
theorem ReadPost.returned {o : Option (Fm × List Nat)} {w0 w : World} {g : Nat} {b : ByteArray} {e : Ending} {w' : World} (hp : ReadPost o w0 w g b e w') : ∃ v, e = .returned v := by
  obtain ⟨h1, h2, h3⟩ := hp
  cases o with
  | none => exact ⟨_, h3.1⟩
  | some p => exact ⟨_, h3.choose_spec.choose_spec.1⟩
theorem fix_all (n c : Nat) (ih : ReadUpto n) (g : Nat) (s b : ByteArray) (w0 w : World) (hn : (cs s).length ≤ n) (hsz : b.size + (cs s).length ≤ 1000000) (hI : PA.IsS93 w0 w g s b) (hB : Below w0.heap.size w0 w) :
    Calls Tryd.prog 55 #[.pointer (some ⟨g, 0, none⟩), .int .u8 c] w (ReadPost (parseFix n c (cs s) (cs b)) w0 w g b) := by
  cases hs : cs s with
  | nil => exact fix_end g s b w0 w hI hB c hs
  | cons x r =>
    rw [hs] at hn hsz
    simp only [List.length_cons] at hn hsz
    by_cases hm : isLt x = true
    · by_cases hb : x ∈ cs b
      · have : parseFix n c (x :: r) (cs b) = none := by simp [parseFix, hb]
        rw [this]
        exact fix_in g s b w0 w hI hB c x r hs hm hb
      · have : parseFix n c (x :: r) (cs b) = (parse n r (cs b ++ [x])).bind fun p => some (.fix c x p.1, p.2) := by simp only [parseFix]; rw [if_pos ⟨hm, hb⟩]
        rw [this]
        cases ho : parse n r (cs b ++ [x]) with
        | none => exact fix_out_none g s b w0 w hI hB c x r hs hm hb n (by omega) (by omega) ih ho
        | some p => exact fix_out_some g s b w0 w hI hB c x r hs hm hb n (by omega) (by omega) ih p ho
    · have : parseFix n c (x :: r) (cs b) = none := by simp [parseFix, hm]
      rw [this]
      exact fix_no g s b w0 w hI hB c x r hs (by simpa using hm)
set_option maxRecDepth 100000 in
set_option maxHeartbeats 2000000 in
theorem read_fix109 (g : Nat) (s b : ByteArray) (w0 w : World) (hI : PA.IsS93 w0 w g s b) (hB : Below w0.heap.size w0 w) (r : List Nat) (hs : cs s = 109 :: r) (n : Nat) (hn : r.length ≤ n) (hsz : b.size + (r.length + 1) ≤ 1000000) (ih : ReadUpto n) :
    Calls Tryd.prog 43 #[.pointer (some ⟨g, 0, none⟩)] w (ReadPost (parseFix n 109 r (cs b)) w0 w g b) := by
  obtain ⟨ht, hr⟩ := take_cons (b := b) hs
  have HT := Lib.hid ht
  have HC := Lib.hid hr
  clear ht hr hs
  have IH := Lib.hid ih
  clear ih
  have HM := Lib.hid (show PA.fixes_isMark.f ((109 : Nat) : Int) = some false from mark_no rfl)
  have HL := Lib.hid (show PA.fixes_isLetter.f ((109 : Nat) : Int) = some false from letter_no rfl)
  have HR := Lib.hid (Rd.start hI hB)
  clear hI hB
  go_enter Tryd.func43, Tryd.ntmps43
  go_wp2_with fail
  refine (PA.fixes_reader_take.calls g s b ((109 : Nat) : Int) (s.extract 1 s.size) b w0 _ HR.out.is HR.out.below HT.out).mono ?_
  rintro e w101 ⟨rfl, hI, hB, hk⟩
  have n0_ := Lib.hid (HR.out.next hI hB hk)
  clear HR hI hB hk
  have HR := n0_
  clear n0_
  go_wp2_with fail
  refine (PA.fixes_isMark.calls ((109 : Nat) : Int) false _ HM.out).mono ?_
  rintro e w102 ⟨rfl, hd⟩
  have n0_ := Lib.hid (HR.out.drawn hd)
  clear HR hd
  have HR := n0_
  clear n0_
  go_wp2_with fail
  refine (PA.fixes_isLetter.calls ((109 : Nat) : Int) false _ HL.out).mono ?_
  rintro e w103 ⟨rfl, hd⟩
  have n0_ := Lib.hid (HR.out.drawn hd)
  clear HR hd
  have HR := n0_
  clear n0_
  go_wp2_with fail
  refine (fix_all n 109 IH.out g (s.extract 1 s.size) b w0 _ (by rw [HC.out]; exact hn) (by rw [HC.out]; omega) HR.out.is HR.out.below).mono ?_
  intro e w2 hp
  rw [HC.out] at hp
  obtain ⟨v, rfl⟩ := hp.returned
  have HP := Lib.hid (hp.behind HR.out)
  clear hp
  go_wp2
  go_ret
  exact HP.out
set_option maxRecDepth 100000 in
set_option maxHeartbeats 2000000 in
theorem read_fix103 (g : Nat) (s b : ByteArray) (w0 w : World) (hI : PA.IsS93 w0 w g s b) (hB : Below w0.heap.size w0 w) (r : List Nat) (hs : cs s = 103 :: r) (n : Nat) (hn : r.length ≤ n) (hsz : b.size + (r.length + 1) ≤ 1000000) (ih : ReadUpto n) :
    Calls Tryd.prog 43 #[.pointer (some ⟨g, 0, none⟩)] w (ReadPost (parseFix n 103 r (cs b)) w0 w g b) := by
  obtain ⟨ht, hr⟩ := take_cons (b := b) hs
  have HT := Lib.hid ht
  have HC := Lib.hid hr
  clear ht hr hs
  have IH := Lib.hid ih
  clear ih
  have HM := Lib.hid (show PA.fixes_isMark.f ((103 : Nat) : Int) = some false from mark_no rfl)
  have HL := Lib.hid (show PA.fixes_isLetter.f ((103 : Nat) : Int) = some false from letter_no rfl)
  have HR := Lib.hid (Rd.start hI hB)
  clear hI hB
  go_enter Tryd.func43, Tryd.ntmps43
  go_wp2_with fail
  refine (PA.fixes_reader_take.calls g s b ((103 : Nat) : Int) (s.extract 1 s.size) b w0 _ HR.out.is HR.out.below HT.out).mono ?_
  rintro e w104 ⟨rfl, hI, hB, hk⟩
  have n0_ := Lib.hid (HR.out.next hI hB hk)
  clear HR hI hB hk
  have HR := n0_
  clear n0_
  go_wp2_with fail
  refine (PA.fixes_isMark.calls ((103 : Nat) : Int) false _ HM.out).mono ?_
  rintro e w105 ⟨rfl, hd⟩
  have n0_ := Lib.hid (HR.out.drawn hd)
  clear HR hd
  have HR := n0_
  clear n0_
  go_wp2_with fail
  refine (PA.fixes_isLetter.calls ((103 : Nat) : Int) false _ HL.out).mono ?_
  rintro e w106 ⟨rfl, hd⟩
  have n0_ := Lib.hid (HR.out.drawn hd)
  clear HR hd
  have HR := n0_
  clear n0_
  go_wp2_with fail
  refine (fix_all n 103 IH.out g (s.extract 1 s.size) b w0 _ (by rw [HC.out]; exact hn) (by rw [HC.out]; omega) HR.out.is HR.out.below).mono ?_
  intro e w2 hp
  rw [HC.out] at hp
  obtain ⟨v, rfl⟩ := hp.returned
  have HP := Lib.hid (hp.behind HR.out)
  clear hp
  go_wp2
  go_ret
  exact HP.out
end Go.Proofs.YtjffhhalmicodaaDoor.X
end
section
set_option linter.unusedVariables false
set_option linter.unusedSimpArgs false
namespace Go.Proofs.YtjffhhalmicodaaDoor.X
open Go.RowKit Go.Proofs.YtjffhhalmicodaaDoorW.PrintWords Go.Proofs.YtjffhhalmicodaaDoorW.PrintLast Go.Proofs.YtjffhhalmicodaaDoorW.PrintMore
theorem info60 : (Tryd.prog.info? 41).map (fun i => (i.zero, i.size, i.bytes)) = some (some (.pointer none), 1, 8) := by kernel_rfl
def PK : Kd (Option Addr) := Kd.scalar Value.pointer (fun _ => rfl)
structure KS (w0 w : World) (g : Nat) (s' b : ByteArray) (gf c k : Nat) (fs : List Fm) (xs : List (Option Addr)) (sl : Value) (wr : World) : Prop where
  rd : Rd w0 w g s' b wr
  blk : wr.heap[gf]? = some (.cells #[.int .u8 c, .int .i64 0, .int .u8 0, sl] 54 (0, 0))
  new : w.heap.size ≤ gf
  own : PK.R 41 wr w0.heap.size (fun k => w.heap.size ≤ k) sl xs
  len : xs.length = k
  lenf : fs.length = k
  tree : ∀ (i : Nat) (f : Fm) (a : Option Addr), fs[i]? = some f → xs[i]? = some a → Tree wr (fun k => w.heap.size ≤ k ∧ k ≠ gf ∧ some k ≠ sl.ownBlock) f (.pointer a)
theorem KS.ne {w0 w : World} {g : Nat} {s' b : ByteArray} {gf c k : Nat} {fs : List Fm} {xs : List (Option Addr)} {sl : Value} {wr : World} (h : KS w0 w g s' b gf c k fs xs sl wr) : g ≠ gf := by
  intro e
  have h1 := h.rd.is.1
  rw [e, h.blk] at h1
  injection h1 with h1
  injection h1 with _ h1
  cases h1
theorem KS.call {w0 w : World} {g : Nat} {s' b s2 : ByteArray} {gf c k : Nat} {fs : List Fm} {xs : List (Option Addr)} {sl : Value} {wr w2 : World} (h : KS w0 w g s' b gf c k fs xs sl wr)
    (h1 : PA.IsS93 w0 w2 g s2 b) (h2 : Below w0.heap.size w0 w2) (h3 : KeepBut wr w2 g none) : KS w0 w g s2 b gf c k fs xs sl w2 := by
  refine ⟨h.rd.next h1 h2 h3, h3.blk h.blk (Ne.symm h.ne) (by simp), h.new, ?_, h.len, h.lenf, fun i f a hf ha => ?_⟩
  · have h4 := Kd.R_types h.own h.rd.is.1 (by intro q hq; simp [PK, Kd.scalar] at hq; subst hq; decide)
    exact Kd.R_mono (Kd.R_keep h4 h3 (fun _ hk => hk.2)) (fun _ hk => hk.1)
  · exact Tree.same (SameBut.of_keep h.rd.is.1 h3) (fun _ _ hk => hk) _ _ (h.tree i f a hf ha)
theorem KS.push {w0 w : World} {g : Nat} {s' b : ByteArray} {gf c k : Nat} {fs : List Fm} {xs : List (Option Addr)} {sl v1 : Value} {w2 w1 wr : World} {f : Fm} {a : Option Addr} (h : KS w0 w g s' b gf c k fs xs sl w2)
    (hgw : g ≤ w.heap.size) (hwr : sl.ownBlock = none ∨ ∃ q, sl.ownBlock = some q ∧ q < wr.heap.size) (hws : wr.heap.size ≤ w2.heap.size) (hwg : gf < wr.heap.size) (hk : w.heap.size ≤ wr.heap.size) (ht : Tree w2 (fun k => wr.heap.size ≤ k) f (.pointer a))
    (hv : PK.R 41 w1 w0.heap.size (fun k => w.heap.size ≤ k) v1 (xs ++ [a])) (hb : Below w0.heap.size w0 w1) (hg : w2.grownBy w1 sl.ownBlock) (hat : v1.ownBlock = sl.ownBlock ∨ ∃ q, v1.ownBlock = some q ∧ w2.heap.size ≤ q) :
    KS w0 w g s' b gf c (k + 1) (fs ++ [f]) (xs ++ [a]) v1 (w1.setCell ⟨gf, 3, none⟩ v1) := by
  have hgne : some g ≠ sl.ownBlock := h.rd.is.own_ne h.own (by decide)
  have hfne : some gf ≠ sl.ownBlock := Kd.R_ne h.own h.blk (by decide)
  have hblk1 : w1.heap[gf]? = some (.cells #[.int .u8 c, .int .i64 0, .int .u8 0, sl] 54 (0, 0)) := blk_grown h.blk hg hfne
  have hk1 : KeepBut w w1 g none := h.rd.keep.trans (KeepBut.of_grown hg g) (by
    cases ho : sl.ownBlock with
    | none => exact Or.inl rfl
    | some q => exact Or.inr ⟨q, rfl, h.own.1 q ho⟩)
  have hfne1 : some gf ≠ v1.ownBlock := Kd.R_ne hv hblk1 (by decide)
  refine ⟨⟨(h.rd.is.grown hg hgne).far h.ne _, hb.setCell (Nat.le_trans h.rd.is.2 ?_) _, keep_far hk1 h.new _⟩, by simpa using blk_set hblk1 3 v1, h.new, ?_, by simp [h.len], by simp [h.lenf], fun i f' a' hf ha => ?_⟩
  · exact Nat.le_trans hgw h.new
  · exact Kd.R_set hv hblk1 (by intro q hq; simp [PK, Kd.scalar] at hq; subst hq; decide) 3 v1
  · have hs : ∀ ok : Nat → Prop, (∀ k, ok k → k ≠ gf ∧ some k ≠ sl.ownBlock) → SameBut ok w2 (w1.setCell ⟨gf, 3, none⟩ v1) := fun ok ho =>
      (SameBut.of_grown hg (fun k hk => (ho k hk).2)).trans (SameBut.of_set v1 (fun k hk => (ho k hk).1))
    have hnew : ∀ k, k < w2.heap.size → some k ≠ sl.ownBlock → some k ≠ v1.ownBlock := by
      intro k hlt hne e
      rcases hat with h7 | ⟨q, h7, h8⟩
      · exact hne (e.trans h7)
      · rw [h7] at e
        injection e with e
        omega
    rcases Nat.lt_or_ge i fs.length with hi | hi
    · rw [List.getElem?_append_left hi] at hf
      rw [List.getElem?_append_left (by rw [h.len, ← h.lenf]; exact hi)] at ha
      exact Tree.same (hs _ (fun k hk => hk.2)) (fun k hlt hk => ⟨hk.1, hk.2.1, hnew k hlt hk.2.2⟩) _ _ (h.tree i f' a' hf ha)
    · have hi2 : i = fs.length := by
        have := (List.getElem?_eq_some_iff.1 hf).1
        simp at this
        omega
      rw [hi2, List.getElem?_concat_length] at hf
      rw [hi2, h.lenf, ← h.len, List.getElem?_concat_length] at ha
      injection hf with hf
      injection ha with ha
      subst hf
      subst ha
      have hne : ∀ k, wr.heap.size ≤ k → some k ≠ sl.ownBlock := by
        intro k hk e
        rcases hwr with h7 | ⟨q, h7, h8⟩
        · rw [h7] at e; cases e
        · rw [h7] at e
          injection e with e
          omega
      exact Tree.same (hs _ (fun k hk => ⟨by omega, hne k hk⟩)) (fun k hlt hkk => ⟨by omega, by omega, hnew k hlt (hne k hkk)⟩) _ _ ht
theorem kids_start {w0 w W W1 : World} {g : Nat} {s' b : ByteArray} {gf c : Nat} (h : Rd w0 w g s' b W) (hb : Below W.heap.size W W1) (hw : W.heap.size ≤ gf) (hbox : W1.heap[gf]? = some (.cells #[.int .u8 c, .int .i64 0, .int .u8 0, .slice none 0 0] 54 (0, 0))) :
    KS w0 w g s' b gf c 0 [] [] (.slice none 0 0) W1 :=
  ⟨h.step hb, hbox, Nat.le_trans h.keep.1 hw, Kd.R_nil _ _ _ _ _, rfl, rfl, fun i f a hf => by simp at hf⟩
theorem ptrs_at {w : World} {A : Option Addr} {n : Nat} {xs : List (Option Addr)} (h : PK.C w A n xs) (hn : 0 < n) :
    ∃ b off, A = some ⟨b, off, none⟩ ∧ ∀ i a, xs[i]? = some a → w.cell? ⟨b, off + i, none⟩ = some (.pointer a) := by
  obtain ⟨hl, _, hr⟩ := h
  obtain ⟨ad, e, hc⟩ := hr hn
  have key : ∀ i a, xs[i]? = some a → w.cell? (ad.add i) = some (.pointer a) := by
    intro i a ha
    obtain ⟨c, _, hR, hcell⟩ := hc i a ha
    have hR' : c = [Value.pointer a] := hR
    subst hR'
    have := hcell 0 _ rfl
    simpa [PK, Kd.scalar] using this
  have h0 : ∃ a, xs[0]? = some a := by
    cases xs with
    | nil => simp at hl; omega
    | cons a l => exact ⟨a, rfl⟩
  obtain ⟨a0, ha0⟩ := h0
  have hsp : ad.spot = none := by
    have h1 := key 0 a0 ha0
    cases hs : ad.spot with
    | none => rfl
    | some q =>
      have : w.cell? ad = some (.pointer a0) := by simpa [Addr.add] using h1
      unfold World.cell? at this
      split at this <;> simp [hs] at this
  refine ⟨ad.block, ad.off, by rw [e, ← hsp], fun i a ha => ?_⟩
  have : ad.add i = ⟨ad.block, ad.off + i, none⟩ := by
    unfold Addr.add
    split
    · rename_i h0; subst h0; rw [← hsp]; simp
    · rfl
  rw [← this]
  exact key i a ha
theorem kids_post {w0 w wr : World} {g : Nat} {s' b : ByteArray} {gf c m : Nat} {fs : List Fm} {rest : List Nat} {xs : List (Option Addr)} {sl : Value} (h : KS w0 w g s' b gf c m fs xs sl wr) (hs : cs s' = rest) (hm1 : 1 ≤ m) (hm2 : m ≤ 2) :
    ReadPost ((some (fs, rest)).bind fun p => some (mkN c p.1, p.2)) w0 w g b (.returned (.pointer (some ⟨gf, 0, none⟩))) wr := by
  obtain ⟨A, cp, rfl, hle, hC⟩ := Kd.R_reads h.own
  obtain ⟨bl, off, rfl, hat⟩ := ptrs_at hC (by rw [h.len]; omega)
  have hown : w.heap.size ≤ bl := h.own.1 bl rfl
  have hlf := h.lenf
  have hlx := h.len
  have hnode : ∀ kids : List Value, kids ≠ [] → kids = xs.map Value.pointer → Node wr (fun k => w.heap.size ≤ k) (.pointer (some ⟨gf, 0, none⟩)) c 0 0 kids := by
    intro kids hne hk
    refine ⟨gf, bl, off, cp, rfl, h.new, fun _ => hown, (blk_cell h.blk 0).trans rfl, (blk_cell h.blk 1).trans rfl, (blk_cell h.blk 2).trans rfl, ?_, ?_⟩
    · rw [if_neg hne, hk, List.length_map]
      exact (blk_cell h.blk 3).trans rfl
    · intro i u hu
      rw [hk, List.getElem?_map] at hu
      cases hx : xs[i]? with
      | none => rw [hx] at hu; cases hu
      | some a =>
        rw [hx] at hu
        injection hu with hu
        rw [← hu]
        exact hat i a hx
  refine ⟨h.rd.below, h.rd.keep, _, s', rfl, ?_, h.rd.is, hs⟩
  have htr := h.tree
  rcases (show m = 1 ∨ m = 2 by omega) with rfl | rfl
  · obtain ⟨f0, rfl⟩ := List.length_eq_one_iff.1 hlf
    obtain ⟨a0, rfl⟩ := List.length_eq_one_iff.1 hlx
    exact ⟨_, hnode [.pointer a0] (by simp) rfl, Tree.same (fun _ _ _ hc _ => hc) (fun _ _ hk => hk.1) _ _ (htr 0 f0 a0 rfl rfl)⟩
  · match fs, hlf, xs, hlx with
    | [f0, f1], _, [a0, a1], _ =>
      exact ⟨_, _, hnode [.pointer a0, .pointer a1] (by simp) rfl, Tree.same (fun _ _ _ hc _ => hc) (fun _ _ hk => hk.1) _ _ (htr 0 f0 a0 rfl rfl), Tree.same (fun _ _ _ hc _ => hc) (fun _ _ hk => hk.1) _ _ (htr 1 f1 a1 rfl rfl)⟩
set_option maxRecDepth 100000 in
set_option maxHeartbeats 2000000 in
theorem read_kids (g : Nat) (s b : ByteArray) (w0 w : World) (hI : PA.IsS93 w0 w g s b) (hB : Below w0.heap.size w0 w) (hgw : g < w.heap.size) (c : Nat) (r : List Nat) (hs : cs s = c :: r) (hm : isMk c = false) (hl : isLt c = false) (h1 : ((c : Int) == 45) = false) (h2 : ((c : Int) == 116) = false) (h3 : ((c : Int) == 102) = false) (h4 : ((c : Int) == 109) = false) (h5 : ((c : Int) == 103) = false) (m : Nat) (hm1 : 1 ≤ m) (hm2 : m ≤ 2) (h6 : (findL (putL (putL (putL (putL ([] : List (Int × Int)) 38 2) 124 2) 60 1) 91 1) (c : Int)).getD 0 = (m : Int)) (n : Nat) (hn : r.length < n) (hsz : b.size + (r.length + 1) ≤ 1000000) (ih : ReadUpto n) :
    Calls Tryd.prog 43 #[.pointer (some ⟨g, 0, none⟩)] w (ReadPost ((kidsTo n m r (cs b)).bind fun p => some (mkN c p.1, p.2)) w0 w g b) := by
  obtain ⟨ht, hr⟩ := take_cons (b := b) hs
  have HT := Lib.hid ht
  have HC := Lib.hid hr
  clear ht hr hs
  have HM := Lib.hid (mark_no hm)
  have HL := Lib.hid (letter_no hl)
  have H6 := Lib.hid h6
  have IH := Lib.hid ih
  have h0 : ((m : Int) == 0) = false := beq_eq_false_iff_ne.2 (by omega)
  clear hm hl h6 ih
  have HR := Lib.hid (Rd.start hI hB)
  clear hI hB
  go_enter Tryd.func43, Tryd.ntmps43
  go_wp2_with fail
  refine (PA.fixes_reader_take.calls g s b c (s.extract 1 s.size) b w0 _ HR.out.is HR.out.below HT.out).mono ?_
  rintro e w201 ⟨rfl, hI, hB, hk⟩
  have n0_ := Lib.hid (HR.out.next hI hB hk)
  clear HR hI hB hk
  have HR := n0_
  clear n0_
  go_wp2_with fail
  refine (PA.fixes_isMark.calls c false _ HM.out).mono ?_
  rintro e w202 ⟨rfl, hd⟩
  have n0_ := Lib.hid (HR.out.drawn hd)
  clear HR hd
  have HR := n0_
  clear n0_
  go_wp2_with fail
  refine (PA.fixes_isLetter.calls c false _ HL.out).mono ?_
  rintro e w203 ⟨rfl, hd⟩
  have n0_ := Lib.hid (HR.out.drawn hd)
  clear HR hd
  have HR := n0_
  clear n0_
  have hz0 : ∀ w, (zeroValue 3).run Tryd.prog w = .ok (.int .i64 0) w := fun _ => by kernel_rfl
  have HZ := Lib.hid hz0
  have HF := Lib.hid (show (findL (putL (putL (putL (putL ([] : List (Int × Int)) 38 2) 124 2) 60 1) 91 1) (c : Int)).getD 0 = (m : Int) from H6.out)
  clear hz0
  go_wp2_with (first | ((with_reducible refine gate_op (op := .makeMap 45 none) rfl ?_); refine map_make_event rfl 45 rfl ?_; intro r0 wm hr0 hm hb; have HM_ := Lib.hid (IsM.mk' (enc := Value.int .u8) (encv := Value.int .i64) (l := []) hm rfl); have HW_ := Lib.hid hb; have HZ_ := Lib.hid (Nat.le_of_eq hr0.symm); clear hm hb hr0) | ((with_reducible refine gate_op (op := .insert 45 (.tmp 63) (.const (.int .u8 38)) (.const (.int .i64 2))) rfl ?_); refine map_put_event rfl 45 (.tmp 63) (.const (.int .u8 38)) (.const (.int .i64 2)) (Or.inl rfl) Tryd.underlying45 (keyOk_int Tryd.underlying5) (enc := Value.int .u8) (encv := Value.int .i64) 38 2 rfl rfl rfl HM_.out ?_; intro wm hm _ hb; have n0_ := Lib.hid hm; have n1_ := Lib.hid (hb _ _ HW_.out HZ_.out); clear hm hb HM_ HW_; have HM_ := n0_; have HW_ := n1_; clear n0_ n1_) | ((with_reducible refine gate_op (op := .insert 45 (.tmp 63) (.const (.int .u8 124)) (.const (.int .i64 2))) rfl ?_); refine map_put_event rfl 45 (.tmp 63) (.const (.int .u8 124)) (.const (.int .i64 2)) (Or.inl rfl) Tryd.underlying45 (keyOk_int Tryd.underlying5) (enc := Value.int .u8) (encv := Value.int .i64) 124 2 rfl rfl rfl HM_.out ?_; intro wm hm _ hb; have n0_ := Lib.hid hm; have n1_ := Lib.hid (hb _ _ HW_.out HZ_.out); clear hm hb HM_ HW_; have HM_ := n0_; have HW_ := n1_; clear n0_ n1_) | ((with_reducible refine gate_op (op := .insert 45 (.tmp 63) (.const (.int .u8 60)) (.const (.int .i64 1))) rfl ?_); refine map_put_event rfl 45 (.tmp 63) (.const (.int .u8 60)) (.const (.int .i64 1)) (Or.inl rfl) Tryd.underlying45 (keyOk_int Tryd.underlying5) (enc := Value.int .u8) (encv := Value.int .i64) 60 1 rfl rfl rfl HM_.out ?_; intro wm hm _ hb; have n0_ := Lib.hid hm; have n1_ := Lib.hid (hb _ _ HW_.out HZ_.out); clear hm hb HM_ HW_; have HM_ := n0_; have HW_ := n1_; clear n0_ n1_) | ((with_reducible refine gate_op (op := .insert 45 (.tmp 63) (.const (.int .u8 91)) (.const (.int .i64 1))) rfl ?_); refine map_put_event rfl 45 (.tmp 63) (.const (.int .u8 91)) (.const (.int .i64 1)) (Or.inl rfl) Tryd.underlying45 (keyOk_int Tryd.underlying5) (enc := Value.int .u8) (encv := Value.int .i64) 91 1 rfl rfl rfl HM_.out ?_; intro wm hm _ hb; have n0_ := Lib.hid hm; have n1_ := Lib.hid (hb _ _ HW_.out HZ_.out); clear hm hb HM_ HW_; have HM_ := n0_; have HW_ := n1_; clear n0_ n1_) | ((with_reducible refine gate_dst (N := 66) rfl ?_); refine map_get_event rfl 45 (.tmp 64) (.tmp 65) false rfl Tryd.underlying45 (enc := Value.int .u8) (encv := Value.int .i64) HZ.out (keyOk_int Tryd.underlying5) c rfl rfl HM_.out ?_; rw [HF.out]; simp only [Bool.false_eq_true, if_false]; have n0_ := Lib.hid (HR.out.step HW_.out); clear HR HM_ HW_ HZ_; have HR := n0_; clear n0_) | ((with_reducible refine gate_dst (N := 71) rfl ?_); refine box_event ?hg (N := 71) ?hd (cs := #[.int .u8 c, .int .i64 0, .int .u8 0, .slice none 0 0]) (t := 54) ?hr ?_; (case hd => rfl); (case hg => rfl); (case hr => first | (go_simp; done) | (go_simp; rfl)); intro gf hg wb hbox hb; have HKS := Lib.hid (kids_start HR.out hb (Nat.le_of_eq hg.symm) hbox); clear hg hbox hb HR) | fail)
  clear HZ HF HM HL HT H6
  go_loopw [73] (fun i wr => ∃ (k : Nat) (fs : List Fm) (rest : List Nat) (s' : ByteArray) (xs : List (Option Addr)) (sl : Value), k ≤ m ∧ i = .int .i64 k ∧ Hid (kidsTo n k r (cs b) = some (fs, rest)) ∧ Hid (cs s' = rest) ∧ Hid (KS w0 w g s' b gf c k fs xs sl wr)) (fun i _ => m - (intOf i).toNat)
  case atStart => exact ⟨0, [], r, _, [], _, by omega, rfl, rfl, HC.out, HKS.out⟩
  case round =>
    clear HKS HC
    obtain ⟨k, fs, rest, s', xs, sl, hk, rfl, HT, HC, HKS⟩ := hrel
    by_cases hlt : k < m
    · have hlen := (kidsTo_len HT.out).1
      go_wp2_with fail
      refine (IH.out g s' b w0 wr (by rw [HC.out]; omega) (by rw [HC.out]; omega) HKS.out.rd.is HKS.out.rd.below).mono ?_
      rintro e w2 ⟨hB2, hK2, hres⟩
      rw [HC.out] at hres
      clear hlen
      cases hp : parse n rest (cs b) with
      | none =>
        rw [hp] at hres
        obtain ⟨rfl, s2, b2, hI2⟩ := hres
        have HR := Lib.hid (HKS.out.rd.next hI2 hB2 hK2)
        have HN := Lib.hid (show kidsTo n m r (cs b) = none from kidsTo_none (k := k + 1) (by simp only [kidsTo]; rw [HT.out]; simp [hp]) (by omega))
        clear hI2 hB2 hK2 hp
        go_wp2
        go_ret
        rw [HN.out]
        exact post_nil HR.out
      | some q =>
        rw [hp] at hres
        obtain ⟨v, s2, rfl, htree, hI2, hs2⟩ := hres
        obtain ⟨gk, rfl⟩ := htree.ptr
        have HK2 := Lib.hid (HKS.out.call hI2 hB2 hK2)
        have HS2 := Lib.hid hs2
        have HTR := Lib.hid htree
        have HN := Lib.hid (show kidsTo n (k + 1) r (cs b) = some (fs ++ [q.1], q.2) by simp only [kidsTo]; rw [HT.out]; simp [hp])
        have hle : wr.heap.size ≤ w2.heap.size := hK2.1
        have hwg : gf < wr.heap.size := blk_lt HKS.out.blk
        have hkw : w.heap.size ≤ wr.heap.size := HKS.out.rd.keep.1
        have hown : sl.ownBlock = none ∨ ∃ q, sl.ownBlock = some q ∧ q < wr.heap.size := by
          cases ho : sl.ownBlock with
          | none => exact Or.inl rfl
          | some q => exact Or.inr ⟨q, rfl, Kd.R_lt HKS.out.own q ho⟩
        have HOWN := Lib.hid hown
        clear hI2 hB2 hK2 hp htree hs2 hown HT HKS HC
        have hblk := HK2.out.blk
        have hcell : w2.cell? ⟨gf, 3, none⟩ = some sl := (blk_cell hblk 3).trans rfl
        have hfr := blk_frozen hblk 3
        have hxs : (xs.length + 1) * 8 ≤ 140737488355328 := by have := HK2.out.len; omega
        have HXS := Lib.hid hxs
        clear hblk hxs
        obtain ⟨A, cp, rfl⟩ := Kd.R_slice HK2.out.own
        go_wp2_with (first | (at_builtin; refine Kd.R_append PK (w0 := w0) w0.heap.size rfl (.tmp 83) (.tmp 85) 52 41 (.pointer none) 8 rfl Tryd.underlying52 info60 rfl (by decide) (by decide) (.slice A xs.length cp) xs (some ⟨gk, 0, none⟩) [.pointer (some ⟨gk, 0, none⟩)] (fun k => w.heap.size ≤ k) (fun _ => False) rfl rfl rfl (fun _ h => h.elim) (fun k hk => Nat.le_trans HK2.out.rd.keep.1 hk) HK2.out.own HK2.out.rd.below HK2.out.rd.below.size HXS.out ?_; intro v1 w1 hv hb hg hat; have HK3 := Lib.hid (HK2.out.push (Nat.le_of_lt hgw) HOWN.out hle hwg hkw HTR.out hv hb hg hat); have hfr1 : w1.frozen? ⟨gf, 3, none⟩ = false := blk_frozen (blk_grown HK2.out.blk hg (Kd.R_ne HK2.out.own HK2.out.blk (by decide))) 3; have hcell1 : w1.cell? ⟨gf, 3, none⟩ = some (.slice A xs.length cp) := (blk_cell (blk_grown HK2.out.blk hg (Kd.R_ne HK2.out.own HK2.out.blk (by decide))) 3).trans rfl; obtain ⟨A1, cp1, hv1⟩ := Kd.R_slice hv; subst hv1; clear hv hb hg hat hcell hfr) | fail)
        go_roundw
        case rel => exact ⟨k + 1, _, _, _, _, _, by omega, by go_num, HN.out, HS2.out, by have h := HK3.out; rw [show (xs ++ [some (⟨gk, 0, none⟩ : Addr)]).length = xs.length + 1 by simp] at h; exact h⟩
        case measure => simp [intOf]; omega
    · obtain rfl : k = m := by omega
      go_wp2
      go_ret
      rw [HT.out]
      exact kids_post HKS.out HC.out hm1 hm2
end Go.Proofs.YtjffhhalmicodaaDoor.X
end
section
set_option linter.unusedVariables false
set_option linter.unusedSimpArgs false
namespace Go.Proofs.YtjffhhalmicodaaDoor.X
open Go.RowKit Go.Proofs.YtjffhhalmicodaaDoorW.PrintWords Go.Proofs.YtjffhhalmicodaaDoorW.PrintLast Go.Proofs.YtjffhhalmicodaaDoorW.PrintMore
theorem kids_two (n c : Nat) (l b : List Nat) : ((kidsTo n 2 l b).bind fun p => some (mkN c p.1, p.2)) = (parse n l b).bind fun p => (parse n p.2 b).bind fun q => some (.two c p.1 q.1, q.2) := by
  simp only [kidsTo, Option.bind_some]
  cases h1 : parse n l b with
  | none => simp
  | some p =>
    simp only [Option.bind_some, List.nil_append]
    cases h2 : parse n p.2 b with
    | none => simp
    | some q => simp [mkN]
theorem kids_one (n c : Nat) (l b : List Nat) : ((kidsTo n 1 l b).bind fun p => some (mkN c p.1, p.2)) = (parse n l b).bind fun p => some (.one c p.1, p.2) := by
  simp only [kidsTo, Option.bind_some]
  cases h1 : parse n l b with
  | none => simp
  | some p => simp [mkN]
theorem beq_no {c k : Nat} (h : c ≠ k) : ((c : Int) == (k : Int)) = false := beq_eq_false_iff_ne.2 (by omega)
theorem read_all : ∀ n, ReadUpto n := by
  intro n
  induction n with
  | zero => intro g s b w0 w h; omega
  | succ n ih =>
    intro g s b w0 w hn hsz hI hB
    have hgw : g < w.heap.size := blk_lt hI.1
    cases hs : cs s with
    | nil => exact read_end g s b w0 w hI hB hs
    | cons c r =>
      rw [hs] at hn hsz
      simp only [List.length_cons] at hn hsz
      simp only [parse]
      by_cases h1 : isMk c = true
      · rw [if_pos h1]
        exact read_mark g s b w0 w hI hB c r hs h1
      · rw [if_neg h1]
        by_cases h2 : c = 45
        · subst h2
          rw [if_pos rfl]
          cases r with
          | nil => exact read_dash_end g s b w0 w hI hB hs
          | cons d t =>
            simp only
            by_cases h3 : isMk d = true
            · rw [if_pos h3]
              exact read_dash g s b w0 w hI hB d t hs h3
            · rw [if_neg h3]
              exact read_dash_no g s b w0 w hI hB d t hs (by simpa using h3)
        · rw [if_neg h2]
          by_cases h3 : c = 116 ∨ c = 102
          · rw [if_pos h3]
            rcases h3 with rfl | rfl
            · exact read_con116 g s b w0 w hI hB r hs
            · exact read_con102 g s b w0 w hI hB r hs
          · rw [if_neg h3]
            by_cases h4 : isLt c = true
            · rw [if_pos h4]
              by_cases h5 : c ∈ cs b
              · rw [if_pos h5]
                exact read_var g s b w0 w hI hB c r hs h4 h5
              · rw [if_neg h5]
                exact read_var_no g s b w0 w hI hB c r hs h4 h5
            · rw [if_neg h4]
              have e1 := beq_no h2
              have e2 := beq_no (show c ≠ 116 by omega)
              have e3 := beq_no (show c ≠ 102 by omega)
              by_cases h6 : c = 109 ∨ c = 103
              · rw [if_pos h6]
                rcases h6 with rfl | rfl
                · exact read_fix109 g s b w0 w hI hB r hs n (by omega) (by omega) ih
                · exact read_fix103 g s b w0 w hI hB r hs n (by omega) (by omega) ih
              · rw [if_neg h6]
                have e4 := beq_no (show c ≠ 109 by omega)
                have e5 := beq_no (show c ≠ 103 by omega)
                by_cases h7 : c = 38 ∨ c = 124
                · rw [if_pos h7, ← kids_two]
                  refine read_kids g s b w0 w hI hB hgw c r hs (by simpa using h1) (by simpa using h4) e1 e2 e3 e4 e5 2 (by omega) (by omega) ?_ n (by omega) (by omega) ih
                  rcases h7 with rfl | rfl <;> decide
                · rw [if_neg h7]
                  by_cases h8 : c = 60 ∨ c = 91
                  · rw [if_pos h8, ← kids_one]
                    refine read_kids g s b w0 w hI hB hgw c r hs (by simpa using h1) (by simpa using h4) e1 e2 e3 e4 e5 1 (by omega) (by omega) ?_ n (by omega) (by omega) ih
                    rcases h8 with rfl | rfl <;> decide
                  · rw [if_neg h8]
                    refine read_none g s b w0 w hI hB c r hs (by simpa using h1) (by simpa using h4) e1 e2 e3 e4 e5 ?_
                    have k1 : ¬ (38 : Int) = (c : Int) := by omega
                    have k2 : ¬ (124 : Int) = (c : Int) := by omega
                    have k3 : ¬ (60 : Int) = (c : Int) := by omega
                    have k4 : ¬ (91 : Int) = (c : Int) := by omega
                    simp [putL, findL, k1, k2, k3, k4]
def ParsePost (o : Option Fm) (w : World) (e : Ending) (w' : World) : Prop := Below w.heap.size w w' ∧ match o with
  | none => e = .returned (.pointer none)
  | some f => ∃ v, e = .returned v ∧ Tree w' (fun k => w.heap.size ≤ k) f v
end Go.Proofs.YtjffhhalmicodaaDoor.X
end
end

section
section
set_option linter.unusedVariables false
set_option linter.unusedSimpArgs false
namespace Go.Proofs.YtjffhhalmicodaaDoor.X
open Go.RowKit Go.Proofs.YtjffhhalmicodaaDoorW.PrintWords Go.Proofs.YtjffhhalmicodaaDoorW.PrintLast Go.Proofs.YtjffhhalmicodaaDoorW.PrintMore
theorem toList_nil {s : ByteArray} : s.toList = [] ↔ cs s = [] := by
  unfold cs
  rw [ByteArray.toList_eq]
  simp
theorem cs_length (s : ByteArray) : (cs s).length = s.size := by
  unfold cs
  rw [List.length_map, data_length]
set_option maxRecDepth 100000 in
set_option maxHeartbeats 2000000 in
theorem parse_long (s : ByteArray) (most : Int) (w : World) (h : most < (s.size : Int)) :
    Calls Tryd.prog 23 #[.string s, .int .i64 most] w (ParsePost none w) := by
  go_enter Tryd.func23, Tryd.ntmps23
  go_wp2
  go_ret
  exact ⟨Below.refl _ _, rfl⟩
set_option maxRecDepth 100000 in
set_option maxHeartbeats 2000000 in
theorem parse_short (s : ByteArray) (most : Int) (w : World) (h : (s.size : Int) ≤ most) (hsz : s.size ≤ 900000) :
    Calls Tryd.prog 23 #[.string s, .int .i64 most] w (ParsePost (whole (cs s)) w) := by
  have hB1 : Below w.heap.size w (w.alloc (.cells #[.string s, .string ⟨#[]⟩] 76)) := below_alloc (Below.refl _ _) _
  have hI : PA.IsS93 w (w.alloc (.cells #[.string s, .string ⟨#[]⟩] 76)) w.heap.size s ⟨#[]⟩ := PA.IsS93.new w w s ⟨#[]⟩ (Below.refl _ _)
  have hread := read_all ((cs s).length + 1) w.heap.size s ⟨#[]⟩ w (w.alloc (.cells #[.string s, .string ⟨#[]⟩] 76)) (by omega) (by rw [cs_length]; show 0 + s.size ≤ 1000000; omega) hI hB1
  have HREAD := Lib.hid hread
  clear hB1 hI hread
  cases hp : parse ((cs s).length + 1) (cs s) [] with
  | none =>
    have HW := Lib.hid (show whole (cs s) = none by unfold whole; rw [hp]; rfl)
    go_enter Tryd.func23, Tryd.ntmps23
    go_wp2_with fail
    refine HREAD.out.mono ?_
    rintro e w2 ⟨hB2, hK2, hres⟩
    rw [show cs ⟨#[]⟩ = [] from rfl, hp] at hres
    obtain ⟨rfl, s', b', hI2⟩ := hres
    have hcell := PA.cellS93_0 hI2.1
    have HB := Lib.hid hB2
    clear hI2 hB2 hK2 hp HREAD
    by_cases hs : s'.toList = ([] : List UInt8)
    · have e1 : (s'.toList == ([] : List UInt8)) = true := beq_iff_eq.mpr hs
      have e2 : (s'.toList != ([] : List UInt8)) = false := bne_eq_false_iff_eq.mpr hs
      clear hs
      go_wp2
      go_ret
      rw [HW.out]
      exact ⟨HB.out, rfl⟩
    · have e1 : (s'.toList == ([] : List UInt8)) = false := beq_eq_false_iff_ne.mpr hs
      have e2 : (s'.toList != ([] : List UInt8)) = true := bne_iff_ne.mpr hs
      go_wp2
      go_ret
      rw [HW.out]
      exact ⟨HB.out, rfl⟩
  | some p =>
    by_cases hrest : p.2 = []
    · have HW := Lib.hid (show whole (cs s) = some p.1 by unfold whole; rw [hp]; simp [hrest])
      go_enter Tryd.func23, Tryd.ntmps23
      go_wp2_with fail
      refine HREAD.out.mono ?_
      rintro e w2 ⟨hB2, hK2, hres⟩
      rw [show cs ⟨#[]⟩ = [] from rfl, hp] at hres
      obtain ⟨v, s', rfl, hT, hI2, hs'⟩ := hres
      have hcell := PA.cellS93_0 hI2.1
      have HB := Lib.hid hB2
      have hs : s'.toList = ([] : List UInt8) := toList_nil.2 (hs'.trans hrest)
      have e1 : (s'.toList == ([] : List UInt8)) = true := beq_iff_eq.mpr hs
      have e2 : (s'.toList != ([] : List UInt8)) = false := bne_eq_false_iff_eq.mpr hs
      have HT := Lib.hid hT
      clear hI2 hB2 hK2 hp HREAD hs hs' hrest hT
      go_wp2
      go_ret
      rw [HW.out]
      exact ⟨HB.out, v, rfl, Tree.same (fun _ _ _ hc _ => hc) (fun k _ hk => by simp at hk; omega) _ _ HT.out⟩
    · have HW := Lib.hid (show whole (cs s) = none by unfold whole; rw [hp]; simp [hrest])
      go_enter Tryd.func23, Tryd.ntmps23
      go_wp2_with fail
      refine HREAD.out.mono ?_
      rintro e w2 ⟨hB2, hK2, hres⟩
      rw [show cs ⟨#[]⟩ = [] from rfl, hp] at hres
      obtain ⟨v, s', rfl, hT, hI2, hs'⟩ := hres
      have hcell := PA.cellS93_0 hI2.1
      have HB := Lib.hid hB2
      have hs : ¬ s'.toList = ([] : List UInt8) := fun h => hrest (hs'.symm.trans (toList_nil.1 h))
      have e1 : (s'.toList == ([] : List UInt8)) = false := beq_eq_false_iff_ne.mpr hs
      have e2 : (s'.toList != ([] : List UInt8)) = true := bne_iff_ne.mpr hs
      clear hI2 hB2 hK2 hp HREAD hs' hrest hT
      go_wp2
      go_ret
      rw [HW.out]
      exact ⟨HB.out, rfl⟩
theorem parse_calls (s : ByteArray) (most : Int) (w : World) (hm : most ≤ 900000) :
    Calls Tryd.prog 23 #[.string s, .int .i64 most] w (ParsePost (if (s.size : Int) ≤ most then whole (cs s) else none) w) := by
  by_cases h : (s.size : Int) ≤ most
  · rw [if_pos h]
    exact parse_short s most w h (by omega)
  · rw [if_neg h]
    exact parse_long s most w (by omega)
end Go.Proofs.YtjffhhalmicodaaDoor.X
end
section
namespace Go.Proofs.YtjffhhalmicodaaDoor.X
open Go.RowKit Go.Proofs.YtjffhhalmicodaaDoorW.PrintWords Go.Proofs.YtjffhhalmicodaaDoorW.PrintLast Go.Proofs.YtjffhhalmicodaaDoorW.PrintMore
def whereTo (p : Nat → Bool) : Nat → Int
  | 0 => 0
  | n + 1 => if p n then bits BinOp.or .i64 (whereTo p n) (wrap64 (2 ^ min n 64)) else whereTo p n
def Pred (w : World) (g : Nat) (lb : Array Value) (n : Nat) (p : Nat → Bool) : Prop :=
  ∀ (W : World) (s : Nat), s < n → Below w.heap.size w W → Calls Tryd.prog g (#[.int .i64 s] ++ lb) W fun e w' => e = .returned (.bool (p s)) ∧ Below W.heap.size W w'
set_option maxHeartbeats 1000000 in
theorem where_calls (g : Nat) (lb : Array Value) (eg : ∀ args w, (callFunc g args).run Tryd.prog w = .ok (.enter g args) w) (p : Nat → Bool) (A0 : Option Addr) (n c0 : Nat) (A1 : Option Addr) (m c1 : Nat) (w : World) (hn : n ≤ 9223372036854775807) (hp : Pred w g lb n p) :
    Calls Tryd.prog 24 #[.agg #[.slice A0 n c0, .slice A1 m c1], .func (.func g) #[] lb] w fun e w' => e = .returned (.int .i64 (whereTo p n)) ∧ Below w.heap.size w w' := by
  have hu := Tryd.underlying32
  go_enter Tryd.func24, Tryd.ntmps24
  go_wp2_with fail
  go_loopw [5, 10] (fun v i wr => ∃ k : Nat, k ≤ n ∧ i = .int .i64 k ∧ v = .int .i64 (whereTo p k) ∧ Below w.heap.size w wr) (fun _ i _ => n - (intOf i).toNat)
  case atStart => exact ⟨0, by omega, rfl, rfl, (Below.refl _ _).alloc (Nat.le_refl _) _⟩
  case round =>
    obtain ⟨k, hk, rfl, rfl, hB⟩ := hrel
    have HB := Lib.hid hB; clear hB
    by_cases hlt : k < n
    · have hpk := hp wr k hlt HB.out
      have HP := Lib.hid hpk; clear hpk
      clear hp
      cases hb : p k
      · rw [hb] at HP
        have hbb := Lib.hid hb; clear hb
        go_wp2_with fail
        refine HP.out.mono ?_
        rintro e w' ⟨rfl, hb'⟩
        have HB' := Lib.hid hb'; clear hb'
        go_wp2
        go_roundw
        case rel => exact ⟨k + 1, by omega, by go_num, by simp [whereTo, hbb.out], HB.out.trans (HB'.out.mono HB.out.size)⟩
        case measure => simp [intOf]; omega
      · rw [hb] at HP
        have hbb := Lib.hid hb; clear hb
        go_wp2_with fail
        refine HP.out.mono ?_
        rintro e w' ⟨rfl, hb'⟩
        have HB' := Lib.hid hb'; clear hb'
        go_wp2
        go_roundw
        case rel => exact ⟨k + 1, by omega, by go_num, by simp [whereTo, hbb.out], HB.out.trans (HB'.out.mono HB.out.size)⟩
        case measure => simp [intOf]; omega
    · obtain rfl : k = n := by omega
      go_wp2
      go_ret
      exact ⟨rfl, HB.out⟩
end Go.Proofs.YtjffhhalmicodaaDoor.X
end
section
set_option linter.unusedVariables false
set_option linter.unusedSimpArgs false
namespace Go.Proofs.YtjffhhalmicodaaDoor.X
open Go.RowKit Go.Proofs.YtjffhhalmicodaaDoorW.PrintWords Go.Proofs.YtjffhhalmicodaaDoorW.PrintLast Go.Proofs.YtjffhhalmicodaaDoorW.PrintMore
def stepTo (nx : List Int) (set : Int) : Int := whereTo (fun s => bits .and .i64 (rd nx s) set != 0) nx.length
theorem enters_of' {P : Program} {f : Nat} {fn : Func} (hf : P.funcs[f]? = some fn) (h1 : (fn.name == "runtime.NumGoroutine") = false) (h2 : fn.body.isSome = true) : ∀ args w, (callFunc f args).run P w = .ok (.enter f args) w := fun args w => enters_ hf h1 h2 args w
end Go.Proofs.YtjffhhalmicodaaDoor.X
end
section
set_option linter.unusedVariables false
set_option linter.unusedSimpArgs false
namespace Go.Proofs.YtjffhhalmicodaaDoor.X
open Go.RowKit Go.Proofs.YtjffhhalmicodaaDoorW.PrintWords Go.Proofs.YtjffhhalmicodaaDoorW.PrintLast Go.Proofs.YtjffhhalmicodaaDoorW.PrintMore
def Cells (w w' : World) : Prop := ∀ a v, w.cell? a = some v → w'.cell? a = some v
theorem Cells.refl (w : World) : Cells w w := fun _ _ h => h
theorem Cells.trans {a b c : World} (h : Cells a b) (k : Cells b c) : Cells a c := fun p v hc => k p v (h p v hc)
theorem Cells.of_below {w w' : World} (h : Below w.heap.size w w') : Cells w w' := fun _ _ hc => pw_cell_below h hc
theorem Cells.of_map {w w' : World} {r : Nat} {es clock} (hm : w.heap[r]? = some (.map es clock)) (hk : KeepBut w w' r none) : Cells w w' := by
  intro a v hc
  refine keep_cell hk hc (fun e => ?_)
  unfold World.cell? at hc
  rw [e, hm] at hc
  cases hc
theorem Cells.same {ok : Nat → Prop} {w w' : World} (h : Cells w w') : SameBut ok w w' := fun a v _ hc _ => h a v hc
theorem Cells.ints {k : IntKind} {w w' : World} {A : Option Addr} {n : Nat} {xs : List Int} (hc : Cells w w') (h : (Kd.int k).C w A n xs) : (Kd.int k).C w' A n xs := by
  obtain ⟨h1, h2, h3⟩ := h
  refine ⟨h1, h2, fun hn => ?_⟩
  obtain ⟨ad, e, h4⟩ := h3 hn
  refine ⟨ad, e, fun j p hj => ?_⟩
  obtain ⟨c, hs, hR, hcell⟩ := h4 j p hj
  exact ⟨c, hs, hR, fun i u hu => hc _ _ (hcell i u hu)⟩
def markOf (mk : List Int) (k : Nat) (s : Nat) : Int := bits .and .i64 (rd mk s / 2 ^ min k 64) 1
set_option maxHeartbeats 1000000 in
theorem H1_calls (bw bf gn b off n c0 s k : Nat) (x : Int) (W : World) (hw : W.cell? ⟨bw, 1, none⟩ = some (.slice (some ⟨b, off, none⟩) n c0)) (hf : W.cell? ⟨bf, 0, none⟩ = some (.pointer (some ⟨gn, 0, none⟩))) (hm : W.cell? ⟨gn, 1, none⟩ = some (.int .i64 k))
    (hsn : s < n) (hn : n ≤ 9223372036854775807) (hx : W.cell? ⟨b, off + s, none⟩ = some (.int .i64 x)) :
    Calls Tryd.prog 25 #[.int .i64 s, .pointer (some ⟨bw, 0, none⟩), .pointer (some ⟨bf, 0, none⟩)] W fun e w' => e = .returned (.bool (bits .and .i64 (x / 2 ^ min k 64) 1 == 1)) ∧ ∃ q, w' = W.drewN q := by
  have hu := Tryd.underlying32
  have hu2 := Tryd.underlying54
  have h1 : (s : Int) < (n : Int) := by omega
  go_enter Tryd.func25, Tryd.ntmps25
  go_wp2_with fail
  go_quiet (fail)
  go_wp2
  go_ret
  exact ⟨rfl, _, rfl⟩
set_option maxHeartbeats 1000000 in
theorem H2_calls (bw bf gn b off n c0 s k : Nat) (x : Int) (W : World) (hw : W.cell? ⟨bw, 1, none⟩ = some (.slice (some ⟨b, off, none⟩) n c0)) (hf : W.cell? ⟨bf, 0, none⟩ = some (.pointer (some ⟨gn, 0, none⟩))) (hm : W.cell? ⟨gn, 1, none⟩ = some (.int .i64 k))
    (hsn : s < n) (hn : n ≤ 9223372036854775807) (hx : W.cell? ⟨b, off + s, none⟩ = some (.int .i64 x)) :
    Calls Tryd.prog 26 #[.int .i64 s, .pointer (some ⟨bw, 0, none⟩), .pointer (some ⟨bf, 0, none⟩)] W fun e w' => e = .returned (.bool (bits .and .i64 (x / 2 ^ min k 64) 1 == 0)) ∧ ∃ q, w' = W.drewN q := by
  have hu := Tryd.underlying32
  have hu2 := Tryd.underlying54
  have h1 : (s : Int) < (n : Int) := by omega
  go_enter Tryd.func26, Tryd.ntmps26
  go_wp2_with fail
  go_quiet (fail)
  go_wp2
  go_ret
  exact ⟨rfl, _, rfl⟩
set_option maxHeartbeats 1000000 in
theorem H3_calls (bw bs b off n c0 s : Nat) (x set : Int) (W : World) (hw : W.cell? ⟨bw, 0, none⟩ = some (.slice (some ⟨b, off, none⟩) n c0)) (hs : W.cell? ⟨bs, 0, none⟩ = some (.int .i64 set))
    (hsn : s < n) (hn : n ≤ 9223372036854775807) (hx : W.cell? ⟨b, off + s, none⟩ = some (.int .i64 x)) :
    Calls Tryd.prog 28 #[.int .i64 s, .pointer (some ⟨bw, 0, none⟩), .pointer (some ⟨bs, 0, none⟩)] W fun e w' => e = .returned (.bool (bits .and .i64 x set != 0)) ∧ ∃ q, w' = W.drewN q := by
  have hu := Tryd.underlying32
  have h1 : (s : Int) < (n : Int) := by omega
  go_enter Tryd.func28, Tryd.ntmps28
  go_wp2_with fail
  go_quiet (fail)
  go_wp2
  go_ret
  exact ⟨rfl, _, rfl⟩
set_option maxHeartbeats 1000000 in
theorem H4_calls (bw bs b off n c0 s : Nat) (x set : Int) (W : World) (hw : W.cell? ⟨bw, 0, none⟩ = some (.slice (some ⟨b, off, none⟩) n c0)) (hs : W.cell? ⟨bs, 0, none⟩ = some (.int .i64 set))
    (hsn : s < n) (hn : n ≤ 9223372036854775807) (hx : W.cell? ⟨b, off + s, none⟩ = some (.int .i64 x)) :
    Calls Tryd.prog 29 #[.int .i64 s, .pointer (some ⟨bw, 0, none⟩), .pointer (some ⟨bs, 0, none⟩)] W fun e w' => e = .returned (.bool (bits .andNot .i64 x set == 0)) ∧ ∃ q, w' = W.drewN q := by
  have hu := Tryd.underlying32
  have h1 : (s : Int) < (n : Int) := by omega
  go_enter Tryd.func29, Tryd.ntmps29
  go_wp2_with fail
  go_quiet (fail)
  go_wp2
  go_ret
  exact ⟨rfl, _, rfl⟩
theorem pred_h1 (w : World) (bw bf gn : Nat) (A1 : Option Addr) (c1 k n : Nat) (mk : List Int) (hr : Kd.C (Kd.int .i64) w A1 mk.length mk) (hn : n = mk.length) (hw : w.cell? ⟨bw, 1, none⟩ = some (.slice A1 mk.length c1)) (hf : w.cell? ⟨bf, 0, none⟩ = some (.pointer (some ⟨gn, 0, none⟩))) (hm : w.cell? ⟨gn, 1, none⟩ = some (.int .i64 k)) :
    Pred w 25 #[.pointer (some ⟨bw, 0, none⟩), .pointer (some ⟨bf, 0, none⟩)] n (fun s => markOf mk k s == 1) := by
  intro W s hsn hb
  subst hn
  obtain ⟨b, off, rfl, hlt, hc⟩ := ints_at hr (by omega)
  have k1 := pw_cell_below hb hw
  have k2 := pw_cell_below hb hf
  have k3 := pw_cell_below hb hm
  have k4 := pw_cell_below hb (hc s hsn)
  exact (H1_calls bw bf gn b off mk.length c1 s k (rd mk s) W k1 k2 k3 hsn hr.2.1 k4).mono fun e w' ⟨he, q, hq⟩ => ⟨he, hq ▸ pw_below_drewN (Below.refl _ _) q⟩
theorem pred_h2 (w : World) (bw bf gn : Nat) (A1 : Option Addr) (c1 k n : Nat) (mk : List Int) (hr : Kd.C (Kd.int .i64) w A1 mk.length mk) (hn : n = mk.length) (hw : w.cell? ⟨bw, 1, none⟩ = some (.slice A1 mk.length c1)) (hf : w.cell? ⟨bf, 0, none⟩ = some (.pointer (some ⟨gn, 0, none⟩))) (hm : w.cell? ⟨gn, 1, none⟩ = some (.int .i64 k)) :
    Pred w 26 #[.pointer (some ⟨bw, 0, none⟩), .pointer (some ⟨bf, 0, none⟩)] n (fun s => markOf mk k s == 0) := by
  intro W s hsn hb
  subst hn
  obtain ⟨b, off, rfl, hlt, hc⟩ := ints_at hr (by omega)
  have k1 := pw_cell_below hb hw
  have k2 := pw_cell_below hb hf
  have k3 := pw_cell_below hb hm
  have k4 := pw_cell_below hb (hc s hsn)
  exact (H2_calls bw bf gn b off mk.length c1 s k (rd mk s) W k1 k2 k3 hsn hr.2.1 k4).mono fun e w' ⟨he, q, hq⟩ => ⟨he, hq ▸ pw_below_drewN (Below.refl _ _) q⟩
theorem pred_h3 (w : World) (bw bs : Nat) (A0 : Option Addr) (c0 : Nat) (nx : List Int) (set : Int) (hr : Kd.C (Kd.int .i64) w A0 nx.length nx) (hw : w.cell? ⟨bw, 0, none⟩ = some (.slice A0 nx.length c0)) (hs : w.cell? ⟨bs, 0, none⟩ = some (.int .i64 set)) :
    Pred w 28 #[.pointer (some ⟨bw, 0, none⟩), .pointer (some ⟨bs, 0, none⟩)] nx.length (fun s => bits .and .i64 (rd nx s) set != 0) := by
  intro W s hsn hb
  obtain ⟨b, off, rfl, hlt, hc⟩ := ints_at hr (by omega)
  have k1 := pw_cell_below hb hw
  have k2 := pw_cell_below hb hs
  have k3 := pw_cell_below hb (hc s hsn)
  exact (H3_calls bw bs b off nx.length c0 s (rd nx s) set W k1 k2 hsn hr.2.1 k3).mono fun e w' ⟨he, q, hq⟩ => ⟨he, hq ▸ pw_below_drewN (Below.refl _ _) q⟩
theorem pred_h4 (w : World) (bw bs : Nat) (A0 : Option Addr) (c0 : Nat) (nx : List Int) (set : Int) (hr : Kd.C (Kd.int .i64) w A0 nx.length nx) (hw : w.cell? ⟨bw, 0, none⟩ = some (.slice A0 nx.length c0)) (hs : w.cell? ⟨bs, 0, none⟩ = some (.int .i64 set)) :
    Pred w 29 #[.pointer (some ⟨bw, 0, none⟩), .pointer (some ⟨bs, 0, none⟩)] nx.length (fun s => bits .andNot .i64 (rd nx s) set == 0) := by
  intro W s hsn hb
  obtain ⟨b, off, rfl, hlt, hc⟩ := ints_at hr (by omega)
  have k1 := pw_cell_below hb hw
  have k2 := pw_cell_below hb hs
  have k3 := pw_cell_below hb (hc s hsn)
  exact (H4_calls bw bs b off nx.length c0 s (rd nx s) set W k1 k2 hsn hr.2.1 k3).mono fun e w' ⟨he, q, hq⟩ => ⟨he, hq ▸ pw_below_drewN (Below.refl _ _) q⟩
end Go.Proofs.YtjffhhalmicodaaDoor.X
end
section
set_option linter.unusedVariables false
set_option linter.unusedSimpArgs false
namespace Go.Proofs.YtjffhhalmicodaaDoor.X
open Go.RowKit Go.Proofs.YtjffhhalmicodaaDoorW.PrintWords Go.Proofs.YtjffhhalmicodaaDoorW.PrintLast Go.Proofs.YtjffhhalmicodaaDoorW.PrintMore
def allOf (nx : List Int) : Int := wrap64 ((shl .i64 1 (nx.length : Int)) - 1)
def boxTo (nx : List Int) (set : Int) : Int := whereTo (fun s => bits .andNot .i64 (rd nx s) set == 0) nx.length
set_option maxRecDepth 100000 in
set_option maxHeartbeats 2000000 in
theorem holds_mark (A0 : Option Addr) (c0 : Nat) (nx : List Int) (A1 : Option Addr) (c1 : Nat) (mk : List Int) (gn r : Nat) (w : World) (hr0 : Kd.C (Kd.int .i64) w A0 nx.length nx) (hc0 : nx.length ≤ c0) (hr1 : Kd.C (Kd.int .i64) w A1 mk.length mk) (hc1 : mk.length ≤ c1) (hlen : nx.length = mk.length) (j : Nat) (hn0 : w.cell? ⟨gn, 0, none⟩ = some (.int .u8 48)) (hn1 : w.cell? ⟨gn, 1, none⟩ = some (.int .i64 j)) :
    Calls Tryd.prog 16 #[.agg #[.slice A0 nx.length c0, .slice A1 mk.length c1], .pointer (some ⟨gn, 0, none⟩), .map (some r)] w fun e w' => e = .returned (.int .i64 (whereTo (fun s => markOf mk j s == 1) nx.length)) ∧ Below w.heap.size w w' := by
  have hu := Tryd.underlying32
  have hu2 := Tryd.underlying54
  have HR0 := Lib.hid hr0
  have HR1 := Lib.hid hr1
  have HLEN := Lib.hid hlen
  have hle := hr0.2.1
  clear hr0 hr1 hlen
  go_enter Tryd.func16, Tryd.ntmps16
  go_wp2_with (first | ((with_reducible refine gate_dst (N := 3) rfl ?_); refine box_event ?hg (N := 3) ?hd (cs := #[.slice A0 nx.length c0, .slice A1 mk.length c1]) (t := 32) ?hr ?_; (case hd => rfl); (case hg => rfl); (case hr => first | (go_simp; done) | (go_simp; rfl)); intro gw hgw wb hbw hbb; have k0_ := pw_cell_below hbb hn0; clear hn0; have hn0 := k0_; clear k0_; have k1_ := pw_cell_below hbb hn1; clear hn1; have hn1 := k1_; clear k1_; have HGW := Lib.hid hbw; have HBW := Lib.hid (below_step (Below.refl w.heap.size w) hbb); clear hgw hbw hbb) | ((with_reducible refine gate_dst (N := 4) rfl ?_); refine box_event ?hg (N := 4) ?hd (cs := #[.pointer (some ⟨gn, 0, none⟩)]) (t := 41) ?hr ?_; (case hd => rfl); (case hg => rfl); (case hr => first | (go_simp; done) | (go_simp; rfl)); intro gf hgf wc hbf hbb; have k0_ := pw_cell_below hbb hn0; clear hn0; have hn0 := k0_; clear k0_; have k1_ := pw_cell_below hbb hn1; clear hn1; have hn1 := k1_; clear k1_; have k0_ := Lib.hid (blk_below HGW.out hbb); have k1_ := Lib.hid (below_step HBW.out hbb); clear HGW HBW; have HGW := k0_; have HBW := k1_; clear k0_ k1_; have HGF := Lib.hid hbf; have hw0 : wc.cell? ⟨gw, 0, none⟩ = some (.slice A0 nx.length c0) := (blk_cell HGW.out 0).trans rfl; have hw1 : wc.cell? ⟨gw, 1, none⟩ = some (.slice A1 mk.length c1) := (blk_cell HGW.out 1).trans rfl; have hf0 : wc.cell? ⟨gf, 0, none⟩ = some (.pointer (some ⟨gn, 0, none⟩)) := (blk_cell HGF.out 0).trans rfl; clear hgf hbf hbb) | fail)
  have EG := Lib.hid (enters_of' Tryd.func25 (by kernel_rfl) rfl)
  refine (where_calls 25 _ EG.out (fun s => markOf mk j s == 1) A0 nx.length c0 A1 mk.length c1 _ hle (pred_h1 _ gw gf gn A1 c1 j nx.length mk (Kd.C_below HR1.out HBW.out) HLEN.out hw1 hf0 hn1)).mono ?_
  rintro e w' ⟨rfl, hb⟩
  have HB := Lib.hid (below_step HBW.out hb)
  clear hb
  go_wp2
  go_ret
  exact ⟨rfl, HB.out⟩
set_option maxRecDepth 100000 in
set_option maxHeartbeats 2000000 in
theorem holds_neg (A0 : Option Addr) (c0 : Nat) (nx : List Int) (A1 : Option Addr) (c1 : Nat) (mk : List Int) (gn r : Nat) (w : World) (hr0 : Kd.C (Kd.int .i64) w A0 nx.length nx) (hc0 : nx.length ≤ c0) (hr1 : Kd.C (Kd.int .i64) w A1 mk.length mk) (hc1 : mk.length ≤ c1) (hlen : nx.length = mk.length) (j : Nat) (hn0 : w.cell? ⟨gn, 0, none⟩ = some (.int .u8 45)) (hn1 : w.cell? ⟨gn, 1, none⟩ = some (.int .i64 j)) :
    Calls Tryd.prog 16 #[.agg #[.slice A0 nx.length c0, .slice A1 mk.length c1], .pointer (some ⟨gn, 0, none⟩), .map (some r)] w fun e w' => e = .returned (.int .i64 (whereTo (fun s => markOf mk j s == 0) nx.length)) ∧ Below w.heap.size w w' := by
  have hu := Tryd.underlying32
  have hu2 := Tryd.underlying54
  have HR0 := Lib.hid hr0
  have HR1 := Lib.hid hr1
  have HLEN := Lib.hid hlen
  have hle := hr0.2.1
  clear hr0 hr1 hlen
  go_enter Tryd.func16, Tryd.ntmps16
  go_wp2_with (first | ((with_reducible refine gate_dst (N := 3) rfl ?_); refine box_event ?hg (N := 3) ?hd (cs := #[.slice A0 nx.length c0, .slice A1 mk.length c1]) (t := 32) ?hr ?_; (case hd => rfl); (case hg => rfl); (case hr => first | (go_simp; done) | (go_simp; rfl)); intro gw hgw wb hbw hbb; have k0_ := pw_cell_below hbb hn0; clear hn0; have hn0 := k0_; clear k0_; have k1_ := pw_cell_below hbb hn1; clear hn1; have hn1 := k1_; clear k1_; have HGW := Lib.hid hbw; have HBW := Lib.hid (below_step (Below.refl w.heap.size w) hbb); clear hgw hbw hbb) | ((with_reducible refine gate_dst (N := 4) rfl ?_); refine box_event ?hg (N := 4) ?hd (cs := #[.pointer (some ⟨gn, 0, none⟩)]) (t := 41) ?hr ?_; (case hd => rfl); (case hg => rfl); (case hr => first | (go_simp; done) | (go_simp; rfl)); intro gf hgf wc hbf hbb; have k0_ := pw_cell_below hbb hn0; clear hn0; have hn0 := k0_; clear k0_; have k1_ := pw_cell_below hbb hn1; clear hn1; have hn1 := k1_; clear k1_; have k0_ := Lib.hid (blk_below HGW.out hbb); have k1_ := Lib.hid (below_step HBW.out hbb); clear HGW HBW; have HGW := k0_; have HBW := k1_; clear k0_ k1_; have HGF := Lib.hid hbf; have hw0 : wc.cell? ⟨gw, 0, none⟩ = some (.slice A0 nx.length c0) := (blk_cell HGW.out 0).trans rfl; have hw1 : wc.cell? ⟨gw, 1, none⟩ = some (.slice A1 mk.length c1) := (blk_cell HGW.out 1).trans rfl; have hf0 : wc.cell? ⟨gf, 0, none⟩ = some (.pointer (some ⟨gn, 0, none⟩)) := (blk_cell HGF.out 0).trans rfl; clear hgf hbf hbb) | fail)
  have EG := Lib.hid (enters_of' Tryd.func26 (by kernel_rfl) rfl)
  refine (where_calls 26 _ EG.out (fun s => markOf mk j s == 0) A0 nx.length c0 A1 mk.length c1 _ hle (pred_h2 _ gw gf gn A1 c1 j nx.length mk (Kd.C_below HR1.out HBW.out) HLEN.out hw1 hf0 hn1)).mono ?_
  rintro e w' ⟨rfl, hb⟩
  have HB := Lib.hid (below_step HBW.out hb)
  clear hb
  go_wp2
  go_ret
  exact ⟨rfl, HB.out⟩
set_option maxRecDepth 100000 in
set_option maxHeartbeats 2000000 in
theorem holds_t (A0 : Option Addr) (c0 : Nat) (nx : List Int) (A1 : Option Addr) (c1 : Nat) (mk : List Int) (gn r : Nat) (w : World) (hr0 : Kd.C (Kd.int .i64) w A0 nx.length nx) (hc0 : nx.length ≤ c0) (hr1 : Kd.C (Kd.int .i64) w A1 mk.length mk) (hc1 : mk.length ≤ c1) (hlen : nx.length = mk.length) (hn0 : w.cell? ⟨gn, 0, none⟩ = some (.int .u8 116)) :
    Calls Tryd.prog 16 #[.agg #[.slice A0 nx.length c0, .slice A1 mk.length c1], .pointer (some ⟨gn, 0, none⟩), .map (some r)] w fun e w' => e = .returned (.int .i64 (allOf nx)) ∧ Below w.heap.size w w' := by
  have hu := Tryd.underlying32
  have hu2 := Tryd.underlying54
  have HR0 := Lib.hid hr0
  have HR1 := Lib.hid hr1
  have HLEN := Lib.hid hlen
  have hle := hr0.2.1
  clear hr0 hr1 hlen
  go_enter Tryd.func16, Tryd.ntmps16
  go_wp2_with (first | ((with_reducible refine gate_dst (N := 3) rfl ?_); refine box_event ?hg (N := 3) ?hd (cs := #[.slice A0 nx.length c0, .slice A1 mk.length c1]) (t := 32) ?hr ?_; (case hd => rfl); (case hg => rfl); (case hr => first | (go_simp; done) | (go_simp; rfl)); intro gw hgw wb hbw hbb; have k0_ := pw_cell_below hbb hn0; clear hn0; have hn0 := k0_; clear k0_; have HGW := Lib.hid hbw; have HBW := Lib.hid (below_step (Below.refl w.heap.size w) hbb); clear hgw hbw hbb) | ((with_reducible refine gate_dst (N := 4) rfl ?_); refine box_event ?hg (N := 4) ?hd (cs := #[.pointer (some ⟨gn, 0, none⟩)]) (t := 41) ?hr ?_; (case hd => rfl); (case hg => rfl); (case hr => first | (go_simp; done) | (go_simp; rfl)); intro gf hgf wc hbf hbb; have k0_ := pw_cell_below hbb hn0; clear hn0; have hn0 := k0_; clear k0_; have k0_ := Lib.hid (blk_below HGW.out hbb); have k1_ := Lib.hid (below_step HBW.out hbb); clear HGW HBW; have HGW := k0_; have HBW := k1_; clear k0_ k1_; have HGF := Lib.hid hbf; have hw0 : wc.cell? ⟨gw, 0, none⟩ = some (.slice A0 nx.length c0) := (blk_cell HGW.out 0).trans rfl; have hw1 : wc.cell? ⟨gw, 1, none⟩ = some (.slice A1 mk.length c1) := (blk_cell HGW.out 1).trans rfl; have hf0 : wc.cell? ⟨gf, 0, none⟩ = some (.pointer (some ⟨gn, 0, none⟩)) := (blk_cell HGF.out 0).trans rfl; clear hgf hbf hbb) | fail)
  refine (PA.fixes_Works_all.calls A0 c0 nx A1 c1 mk (allOf nx) _ (Kd.C_below HR0.out HBW.out) hc0 (Kd.C_below HR1.out HBW.out) hc1 rfl).mono ?_
  rintro e w' ⟨rfl, hb⟩
  have HB := Lib.hid (below_step HBW.out hb)
  clear hb
  go_wp2
  go_ret
  exact ⟨rfl, HB.out⟩
set_option maxRecDepth 100000 in
set_option maxHeartbeats 2000000 in
theorem holds_f (A0 : Option Addr) (c0 : Nat) (nx : List Int) (A1 : Option Addr) (c1 : Nat) (mk : List Int) (gn r : Nat) (w : World) (hr0 : Kd.C (Kd.int .i64) w A0 nx.length nx) (hc0 : nx.length ≤ c0) (hr1 : Kd.C (Kd.int .i64) w A1 mk.length mk) (hc1 : mk.length ≤ c1) (hlen : nx.length = mk.length) (hn0 : w.cell? ⟨gn, 0, none⟩ = some (.int .u8 102)) :
    Calls Tryd.prog 16 #[.agg #[.slice A0 nx.length c0, .slice A1 mk.length c1], .pointer (some ⟨gn, 0, none⟩), .map (some r)] w fun e w' => e = .returned (.int .i64 (0)) ∧ Below w.heap.size w w' := by
  have hu := Tryd.underlying32
  have hu2 := Tryd.underlying54
  have HR0 := Lib.hid hr0
  have HR1 := Lib.hid hr1
  have HLEN := Lib.hid hlen
  have hle := hr0.2.1
  clear hr0 hr1 hlen
  go_enter Tryd.func16, Tryd.ntmps16
  go_wp2_with (first | ((with_reducible refine gate_dst (N := 3) rfl ?_); refine box_event ?hg (N := 3) ?hd (cs := #[.slice A0 nx.length c0, .slice A1 mk.length c1]) (t := 32) ?hr ?_; (case hd => rfl); (case hg => rfl); (case hr => first | (go_simp; done) | (go_simp; rfl)); intro gw hgw wb hbw hbb; have k0_ := pw_cell_below hbb hn0; clear hn0; have hn0 := k0_; clear k0_; have HGW := Lib.hid hbw; have HBW := Lib.hid (below_step (Below.refl w.heap.size w) hbb); clear hgw hbw hbb) | ((with_reducible refine gate_dst (N := 4) rfl ?_); refine box_event ?hg (N := 4) ?hd (cs := #[.pointer (some ⟨gn, 0, none⟩)]) (t := 41) ?hr ?_; (case hd => rfl); (case hg => rfl); (case hr => first | (go_simp; done) | (go_simp; rfl)); intro gf hgf wc hbf hbb; have k0_ := pw_cell_below hbb hn0; clear hn0; have hn0 := k0_; clear k0_; have k0_ := Lib.hid (blk_below HGW.out hbb); have k1_ := Lib.hid (below_step HBW.out hbb); clear HGW HBW; have HGW := k0_; have HBW := k1_; clear k0_ k1_; have HGF := Lib.hid hbf; have hw0 : wc.cell? ⟨gw, 0, none⟩ = some (.slice A0 nx.length c0) := (blk_cell HGW.out 0).trans rfl; have hw1 : wc.cell? ⟨gw, 1, none⟩ = some (.slice A1 mk.length c1) := (blk_cell HGW.out 1).trans rfl; have hf0 : wc.cell? ⟨gf, 0, none⟩ = some (.pointer (some ⟨gn, 0, none⟩)) := (blk_cell HGF.out 0).trans rfl; clear hgf hbf hbb) | fail)
  go_ret
  exact ⟨rfl, HBW.out⟩
set_option maxRecDepth 100000 in
set_option maxHeartbeats 2000000 in
theorem holds_var (A0 : Option Addr) (c0 : Nat) (nx : List Int) (A1 : Option Addr) (c1 : Nat) (mk : List Int) (gn r : Nat) (w : World) (hr0 : Kd.C (Kd.int .i64) w A0 nx.length nx) (hc0 : nx.length ≤ c0) (hr1 : Kd.C (Kd.int .i64) w A1 mk.length mk) (hc1 : mk.length ≤ c1) (hlen : nx.length = mk.length) (c : Nat) (m : List (Int × Int)) (hm : IsM (Value.int .u8) (Value.int .i64) w r m) (hn0 : w.cell? ⟨gn, 0, none⟩ = some (.int .u8 120)) (hn2 : w.cell? ⟨gn, 2, none⟩ = some (.int .u8 c)) :
    Calls Tryd.prog 16 #[.agg #[.slice A0 nx.length c0, .slice A1 mk.length c1], .pointer (some ⟨gn, 0, none⟩), .map (some r)] w fun e w' => e = .returned (.int .i64 ((findL m (c : Int)).getD 0)) ∧ Below w.heap.size w w' := by
  have HM := Lib.hid hm
  have hz0 : ∀ w, (zeroValue 3).run Tryd.prog w = .ok (.int .i64 0) w := fun _ => by kernel_rfl
  have HZ := Lib.hid hz0
  clear hm hz0
  have hu := Tryd.underlying32
  have hu2 := Tryd.underlying54
  have HR0 := Lib.hid hr0
  have HR1 := Lib.hid hr1
  have HLEN := Lib.hid hlen
  have hle := hr0.2.1
  clear hr0 hr1 hlen
  go_enter Tryd.func16, Tryd.ntmps16
  go_wp2_with (first | ((with_reducible refine gate_dst (N := 3) rfl ?_); refine box_event ?hg (N := 3) ?hd (cs := #[.slice A0 nx.length c0, .slice A1 mk.length c1]) (t := 32) ?hr ?_; (case hd => rfl); (case hg => rfl); (case hr => first | (go_simp; done) | (go_simp; rfl)); intro gw hgw wb hbw hbb; have k0_ := pw_cell_below hbb hn0; clear hn0; have hn0 := k0_; clear k0_; have k1_ := pw_cell_below hbb hn2; clear hn2; have hn2 := k1_; clear k1_; have HGW := Lib.hid hbw; have HBW := Lib.hid (below_step (Below.refl w.heap.size w) hbb); clear hgw hbw hbb) | ((with_reducible refine gate_dst (N := 4) rfl ?_); refine box_event ?hg (N := 4) ?hd (cs := #[.pointer (some ⟨gn, 0, none⟩)]) (t := 41) ?hr ?_; (case hd => rfl); (case hg => rfl); (case hr => first | (go_simp; done) | (go_simp; rfl)); intro gf hgf wc hbf hbb; have k0_ := pw_cell_below hbb hn0; clear hn0; have hn0 := k0_; clear k0_; have k1_ := pw_cell_below hbb hn2; clear hn2; have hn2 := k1_; clear k1_; have k0_ := Lib.hid (blk_below HGW.out hbb); have k1_ := Lib.hid (below_step HBW.out hbb); clear HGW HBW; have HGW := k0_; have HBW := k1_; clear k0_ k1_; have HGF := Lib.hid hbf; have hw0 : wc.cell? ⟨gw, 0, none⟩ = some (.slice A0 nx.length c0) := (blk_cell HGW.out 0).trans rfl; have hw1 : wc.cell? ⟨gw, 1, none⟩ = some (.slice A1 mk.length c1) := (blk_cell HGW.out 1).trans rfl; have hf0 : wc.cell? ⟨gf, 0, none⟩ = some (.pointer (some ⟨gn, 0, none⟩)) := (blk_cell HGF.out 0).trans rfl; clear hgf hbf hbb) | ((with_reducible refine gate_dst (N := 38) rfl ?_); refine map_get_event rfl 46 (.tmp 33) (.tmp 37) false rfl Tryd.underlying46 (enc := Value.int .u8) (encv := Value.int .i64) HZ.out (keyOk_int Tryd.underlying5) (c : Int) rfl rfl (HM.out.below HBW.out) ?_; simp only [Bool.false_eq_true, if_false]) | fail)
  go_ret
  exact ⟨rfl, HBW.out⟩
end Go.Proofs.YtjffhhalmicodaaDoor.X
end
section
set_option linter.unusedVariables false
set_option linter.unusedSimpArgs false
namespace Go.Proofs.YtjffhhalmicodaaDoor.X
open Go.RowKit Go.Proofs.YtjffhhalmicodaaDoorW.PrintWords Go.Proofs.YtjffhhalmicodaaDoorW.PrintLast Go.Proofs.YtjffhhalmicodaaDoorW.PrintMore
structure HP (r : Nat) (m : List (Int × Int)) (W w' : World) : Prop where
  map : IsM (Value.int .u8) (Value.int .i64) w' r m
  keep : KeepBut W w' r none
  low : ∀ B u, Below B u W → B ≤ r → Below B u w'
theorem HP.of_below {r : Nat} {m : List (Int × Int)} {W w' : World} (hm : IsM (Value.int .u8) (Value.int .i64) W r m) (hb : Below W.heap.size W w') : HP r m W w' :=
  ⟨hm.below hb, KeepBut.of_below hb r none, fun B u h hr => h.trans (hb.mono (Nat.le_trans hr (Nat.le_of_lt hm.lt)))⟩
theorem HP.trans {r : Nat} {m m2 : List (Int × Int)} {a b c : World} (h : HP r m a b) (k : HP r m2 b c) : HP r m2 a c :=
  ⟨k.map, h.keep.trans k.keep (Or.inl rfl), fun B u hB hr => k.low B u (h.low B u hB hr) hr⟩
theorem HP.cells {r : Nat} {m m' : List (Int × Int)} {W w' : World} (h : HP r m W w') (hm : IsM (Value.int .u8) (Value.int .i64) W r m') : Cells W w' := by
  obtain ⟨es, clock, hb, _⟩ := hm
  exact Cells.of_map hb h.keep
def HoldsC (nx mk : List Int) (f : Fm) (m : List (Int × Int)) (res : Int) (m' : List (Int × Int)) : Prop :=
  ∀ (A0 : Option Addr) (c0 : Nat) (A1 : Option Addr) (c1 : Nat) (ok : Nat → Prop) (v : Value) (r : Nat) (w : World), Kd.C (Kd.int .i64) w A0 nx.length nx → nx.length ≤ c0 → Kd.C (Kd.int .i64) w A1 mk.length mk → mk.length ≤ c1 →
    Tree w ok f v → IsM (Value.int .u8) (Value.int .i64) w r m → Calls Tryd.prog 16 #[.agg #[.slice A0 nx.length c0, .slice A1 mk.length c1], v, .map (some r)] w fun e w' => e = .returned (.int .i64 res) ∧ HP r m' w w'
set_option maxRecDepth 100000 in
set_option maxHeartbeats 2000000 in
theorem holds_and (A0 : Option Addr) (c0 : Nat) (nx : List Int) (A1 : Option Addr) (c1 : Nat) (mk : List Int) (gn r : Nat) (w : World) (hr0 : Kd.C (Kd.int .i64) w A0 nx.length nx) (hc0 : nx.length ≤ c0) (hr1 : Kd.C (Kd.int .i64) w A1 mk.length mk) (hc1 : mk.length ≤ c1) (hlen : nx.length = mk.length) (kb ko cp : Nat) (va vb : Value) (a b : Fm) (m m1 m2 : List (Int × Int)) (x y : Int) (ok : Nat → Prop) (hn0 : w.cell? ⟨gn, 0, none⟩ = some (.int .u8 38)) (hn3 : w.cell? ⟨gn, 3, none⟩ = some (.slice (some ⟨kb, ko, none⟩) 2 cp)) (hka : w.cell? ⟨kb, ko, none⟩ = some va) (hkb : w.cell? ⟨kb, ko + 1, none⟩ = some vb) (ha : Tree w ok a va) (hb : Tree w ok b vb) (hm : IsM (Value.int .u8) (Value.int .i64) w r m) (iha : HoldsC nx mk a m x m1) (ihb : HoldsC nx mk b m1 y m2) :
    Calls Tryd.prog 16 #[.agg #[.slice A0 nx.length c0, .slice A1 mk.length c1], .pointer (some ⟨gn, 0, none⟩), .map (some r)] w fun e w' => e = .returned (.int .i64 (bits .and .i64 x y)) ∧ HP r m2 w w' := by
  have HM := Lib.hid hm
  have HA := Lib.hid ha
  have HB := Lib.hid hb
  have IA := Lib.hid iha
  have IB := Lib.hid ihb
  clear hm ha hb iha ihb
  have hu := Tryd.underlying32
  have hu2 := Tryd.underlying54
  have HR0 := Lib.hid hr0
  have HR1 := Lib.hid hr1
  have HLEN := Lib.hid hlen
  have hle := hr0.2.1
  clear hr0 hr1 hlen
  go_enter Tryd.func16, Tryd.ntmps16
  go_wp2_with (first | ((with_reducible refine gate_dst (N := 3) rfl ?_); refine box_event ?hg (N := 3) ?hd (cs := #[.slice A0 nx.length c0, .slice A1 mk.length c1]) (t := 32) ?hr ?_; (case hd => rfl); (case hg => rfl); (case hr => first | (go_simp; done) | (go_simp; rfl)); intro gw hgw wb hbw hbb; have k0_ := pw_cell_below hbb hn0; clear hn0; have hn0 := k0_; clear k0_; have k1_ := pw_cell_below hbb hn3; clear hn3; have hn3 := k1_; clear k1_; have k2_ := pw_cell_below hbb hka; clear hka; have hka := k2_; clear k2_; have k3_ := pw_cell_below hbb hkb; clear hkb; have hkb := k3_; clear k3_; have HGW := Lib.hid hbw; have HBW := Lib.hid (below_step (Below.refl w.heap.size w) hbb); clear hgw hbw hbb) | ((with_reducible refine gate_dst (N := 4) rfl ?_); refine box_event ?hg (N := 4) ?hd (cs := #[.pointer (some ⟨gn, 0, none⟩)]) (t := 41) ?hr ?_; (case hd => rfl); (case hg => rfl); (case hr => first | (go_simp; done) | (go_simp; rfl)); intro gf hgf wc hbf hbb; have k0_ := pw_cell_below hbb hn0; clear hn0; have hn0 := k0_; clear k0_; have k1_ := pw_cell_below hbb hn3; clear hn3; have hn3 := k1_; clear k1_; have k2_ := pw_cell_below hbb hka; clear hka; have hka := k2_; clear k2_; have k3_ := pw_cell_below hbb hkb; clear hkb; have hkb := k3_; clear k3_; have k0_ := Lib.hid (blk_below HGW.out hbb); have k1_ := Lib.hid (below_step HBW.out hbb); clear HGW HBW; have HGW := k0_; have HBW := k1_; clear k0_ k1_; have HGF := Lib.hid hbf; have hw0 : wc.cell? ⟨gw, 0, none⟩ = some (.slice A0 nx.length c0) := (blk_cell HGW.out 0).trans rfl; have hw1 : wc.cell? ⟨gw, 1, none⟩ = some (.slice A1 mk.length c1) := (blk_cell HGW.out 1).trans rfl; have hf0 : wc.cell? ⟨gf, 0, none⟩ = some (.pointer (some ⟨gn, 0, none⟩)) := (blk_cell HGF.out 0).trans rfl; clear hgf hbf hbb) | fail)
  go_wp2_with fail
  have HS := Lib.hid (show (fun w' => w'.cell? ⟨gw, 0, none⟩ = some (.slice A0 nx.length c0) ∧ w'.cell? ⟨gw, 1, none⟩ = some (.slice A1 mk.length c1) ∧ w'.cell? ⟨gf, 0, none⟩ = some (.pointer (some ⟨gn, 0, none⟩)) ∧ w'.cell? ⟨gn, 3, none⟩ = some (.slice (some ⟨kb, ko, none⟩) 2 cp) ∧ w'.cell? ⟨kb, ko, none⟩ = some va ∧ w'.cell? ⟨kb, ko + 1, none⟩ = some vb) wc.drew from ⟨by simpa using hw0, by simpa using hw1, by simpa using hf0, by simpa using hn3, by simpa using hka, by simpa using hkb⟩)
  have HBD := Lib.hid (below_drew1 HBW.out)
  have HMD := Lib.hid (HP.of_below HM.out HBD.out)
  clear hw0 hw1 hf0 hn3 hka hkb
  refine start_ (n := 20) (S := fun w' => w'.cell? ⟨gw, 0, none⟩ = some (.slice A0 nx.length c0) ∧ w'.cell? ⟨gw, 1, none⟩ = some (.slice A1 mk.length c1) ∧ w'.cell? ⟨gf, 0, none⟩ = some (.pointer (some ⟨gn, 0, none⟩)) ∧ w'.cell? ⟨gn, 3, none⟩ = some (.slice (some ⟨kb, ko, none⟩) 2 cp) ∧ w'.cell? ⟨kb, ko, none⟩ = some va ∧ w'.cell? ⟨kb, ko + 1, none⟩ = some vb) (ds := []) #[false, false, false, false, false, false, false, false, false, false, false, false, false, false, false, false, false, false, false, false] (by kernel_rfl) rfl rfl HS.out (fun hHeld => ?_)
  generalize wc.drew = wd at HS HBD HMD hHeld ⊢
  refine take_ (i := 0) (N := (some 41)) (v := ?_) (a' := ?_) #[true, false, false, false, false, false, false, false, false, false, false, false, false, false, false, false, false, false, false, false] rfl rfl (by kernel_rfl) (fun _ _ _ h => h) (Or.inl ⟨by rfl, ?_⟩) hHeld ?_ ?_
  rotate_left
  · rintro w' ⟨s0, s1, s2, s3, s4, s5⟩; go_simp; first | done | with_reducible rfl
  rotate_left
  · simp only [Act.put, List.setIfInBounds_toArray, List.set_cons_zero, List.set_cons_succ, i64_w, i32_w]; rfl
  refine take_ (i := 1) (N := (some 42)) (v := ?_) (a' := ?_) #[true, true, false, false, false, false, false, false, false, false, false, false, false, false, false, false, false, false, false, false] rfl rfl (by kernel_rfl) (fun _ _ _ h => h) (Or.inl ⟨by rfl, ?_⟩) hHeld ?_ ?_
  rotate_left
  · rintro w' ⟨s0, s1, s2, s3, s4, s5⟩; go_simp; first | done | with_reducible rfl
  rotate_left
  · simp only [Act.put, List.setIfInBounds_toArray, List.set_cons_zero, List.set_cons_succ, i64_w, i32_w]; rfl
  refine pure_ (i := 2) (N := (some 43)) (v := ?_) (a' := ?_) #[true, true, true, false, false, false, false, false, false, false, false, false, false, false, false, false, false, false, false, false] rfl rfl (by kernel_rfl) (fun _ _ _ h => h) (Or.inl ⟨by rfl, ?_⟩) ?_ ?_
  rotate_left
  · intro w'; go_simp; first | done | with_reducible rfl
  rotate_left
  · simp only [Act.put, List.setIfInBounds_toArray, List.set_cons_zero, List.set_cons_succ, i64_w, i32_w]; rfl
  refine pure_ (i := 3) (N := (some 44)) (v := ?_) (a' := ?_) #[true, true, true, true, false, false, false, false, false, false, false, false, false, false, false, false, false, false, false, false] rfl rfl (by kernel_rfl) (fun _ _ _ h => h) (Or.inl ⟨by rfl, ?_⟩) ?_ ?_
  rotate_left
  · intro w'; go_simp; first | done | with_reducible rfl
  rotate_left
  · simp only [Act.put, List.setIfInBounds_toArray, List.set_cons_zero, List.set_cons_succ, i64_w, i32_w]; rfl
  refine take_ (i := 4) (N := (some 45)) (v := ?_) (a' := ?_) #[true, true, true, true, true, false, false, false, false, false, false, false, false, false, false, false, false, false, false, false] rfl rfl (by kernel_rfl) (fun _ _ _ h => h) (Or.inl ⟨by rfl, ?_⟩) hHeld ?_ ?_
  rotate_left
  · rintro w' ⟨s0, s1, s2, s3, s4, s5⟩; go_simp; first | done | with_reducible rfl
  rotate_left
  · simp only [Act.put, List.setIfInBounds_toArray, List.set_cons_zero, List.set_cons_succ, i64_w, i32_w]; rfl
  refine pure_ (i := 5) (N := (some 46)) (v := ?_) (a' := ?_) #[true, true, true, true, true, true, false, false, false, false, false, false, false, false, false, false, false, false, false, false] rfl rfl (by kernel_rfl) (fun _ _ _ h => h) (Or.inl ⟨by rfl, ?_⟩) ?_ ?_
  rotate_left
  · intro w'; go_simp; first | done | with_reducible rfl
  rotate_left
  · simp only [Act.put, List.setIfInBounds_toArray, List.set_cons_zero, List.set_cons_succ, i64_w, i32_w]; rfl
  refine take_ (i := 6) (N := (some 47)) (v := ?_) (a' := ?_) #[true, true, true, true, true, true, true, false, false, false, false, false, false, false, false, false, false, false, false, false] rfl rfl (by kernel_rfl) (fun _ _ _ h => h) (Or.inl ⟨by rfl, ?_⟩) hHeld ?_ ?_
  rotate_left
  · rintro w' ⟨s0, s1, s2, s3, s4, s5⟩; go_simp; first | done | with_reducible rfl
  rotate_left
  · simp only [Act.put, List.setIfInBounds_toArray, List.set_cons_zero, List.set_cons_succ, i64_w, i32_w]; rfl
  refine pure_ (i := 7) (N := (some 48)) (v := ?_) (a' := ?_) #[true, true, true, true, true, true, true, true, false, false, false, false, false, false, false, false, false, false, false, false] rfl rfl (by kernel_rfl) (fun _ _ _ h => h) (Or.inl ⟨by rfl, ?_⟩) ?_ ?_
  rotate_left
  · intro w'; go_simp; first | done | with_reducible rfl
  rotate_left
  · simp only [Act.put, List.setIfInBounds_toArray, List.set_cons_zero, List.set_cons_succ, i64_w, i32_w]; rfl
  refine take_ (i := 9) (N := (some 50)) (v := ?_) (a' := ?_) #[true, true, true, true, true, true, true, true, false, true, false, false, false, false, false, false, false, false, false, false] rfl rfl (by kernel_rfl) (fun _ _ _ h => h) (Or.inl ⟨by rfl, ?_⟩) hHeld ?_ ?_
  rotate_left
  · rintro w' ⟨s0, s1, s2, s3, s4, s5⟩; go_simp; first | done | with_reducible rfl
  rotate_left
  · simp only [Act.put, List.setIfInBounds_toArray, List.set_cons_zero, List.set_cons_succ, i64_w, i32_w]; rfl
  refine take_ (i := 10) (N := (some 51)) (v := ?_) (a' := ?_) #[true, true, true, true, true, true, true, true, false, true, true, false, false, false, false, false, false, false, false, false] rfl rfl (by kernel_rfl) (fun _ _ _ h => h) (Or.inl ⟨by rfl, ?_⟩) hHeld ?_ ?_
  rotate_left
  · rintro w' ⟨s0, s1, s2, s3, s4, s5⟩; go_simp; first | done | with_reducible rfl
  rotate_left
  · simp only [Act.put, List.setIfInBounds_toArray, List.set_cons_zero, List.set_cons_succ, i64_w, i32_w]; rfl
  refine pure_ (i := 11) (N := (some 52)) (v := ?_) (a' := ?_) #[true, true, true, true, true, true, true, true, false, true, true, true, false, false, false, false, false, false, false, false] rfl rfl (by kernel_rfl) (fun _ _ _ h => h) (Or.inl ⟨by rfl, ?_⟩) ?_ ?_
  rotate_left
  · intro w'; go_simp; first | done | with_reducible rfl
  rotate_left
  · simp only [Act.put, List.setIfInBounds_toArray, List.set_cons_zero, List.set_cons_succ, i64_w, i32_w]; rfl
  refine pure_ (i := 12) (N := (some 53)) (v := ?_) (a' := ?_) #[true, true, true, true, true, true, true, true, false, true, true, true, true, false, false, false, false, false, false, false] rfl rfl (by kernel_rfl) (fun _ _ _ h => h) (Or.inl ⟨by rfl, ?_⟩) ?_ ?_
  rotate_left
  · intro w'; go_simp; first | done | with_reducible rfl
  rotate_left
  · simp only [Act.put, List.setIfInBounds_toArray, List.set_cons_zero, List.set_cons_succ, i64_w, i32_w]; rfl
  refine take_ (i := 13) (N := (some 54)) (v := ?_) (a' := ?_) #[true, true, true, true, true, true, true, true, false, true, true, true, true, true, false, false, false, false, false, false] rfl rfl (by kernel_rfl) (fun _ _ _ h => h) (Or.inl ⟨by rfl, ?_⟩) hHeld ?_ ?_
  rotate_left
  · rintro w' ⟨s0, s1, s2, s3, s4, s5⟩; go_simp; first | done | with_reducible rfl
  rotate_left
  · simp only [Act.put, List.setIfInBounds_toArray, List.set_cons_zero, List.set_cons_succ, i64_w, i32_w]; rfl
  refine pure_ (i := 14) (N := (some 55)) (v := ?_) (a' := ?_) #[true, true, true, true, true, true, true, true, false, true, true, true, true, true, true, false, false, false, false, false] rfl rfl (by kernel_rfl) (fun _ _ _ h => h) (Or.inl ⟨by rfl, ?_⟩) ?_ ?_
  rotate_left
  · intro w'; go_simp; first | done | with_reducible rfl
  rotate_left
  · simp only [Act.put, List.setIfInBounds_toArray, List.set_cons_zero, List.set_cons_succ, i64_w, i32_w]; rfl
  refine take_ (i := 15) (N := (some 56)) (v := ?_) (a' := ?_) #[true, true, true, true, true, true, true, true, false, true, true, true, true, true, true, true, false, false, false, false] rfl rfl (by kernel_rfl) (fun _ _ _ h => h) (Or.inl ⟨by rfl, ?_⟩) hHeld ?_ ?_
  rotate_left
  · rintro w' ⟨s0, s1, s2, s3, s4, s5⟩; go_simp; first | done | with_reducible rfl
  rotate_left
  · simp only [Act.put, List.setIfInBounds_toArray, List.set_cons_zero, List.set_cons_succ, i64_w, i32_w]; rfl
  refine pure_ (i := 16) (N := (some 57)) (v := ?_) (a' := ?_) #[true, true, true, true, true, true, true, true, false, true, true, true, true, true, true, true, true, false, false, false] rfl rfl (by kernel_rfl) (fun _ _ _ h => h) (Or.inl ⟨by rfl, ?_⟩) ?_ ?_
  rotate_left
  · intro w'; go_simp; first | done | with_reducible rfl
  rotate_left
  · simp only [Act.put, List.setIfInBounds_toArray, List.set_cons_zero, List.set_cons_succ, i64_w, i32_w]; rfl
  refine one_ (i := 8) (N := (some 49)) #[true, true, true, true, true, true, true, true, true, true, true, true, true, true, true, true, true, false, false, false] rfl rfl (by kernel_rfl) (by decide) (fun K hK => ?_)
  refine goes_ Tryd.func16 (by kernel_rfl) rfl #[.agg #[.slice A0 nx.length c0, .slice A1 mk.length c1], va, .map (some r)] (by rfl) rfl rfl (by (try simp only [List.map_toArray, List.map_cons, List.map_nil]); first | done | rfl) ?_
  refine (IA.out A0 c0 A1 c1 ok va r wd (Kd.C_below HR0.out HBD.out) hc0 (Kd.C_below HR1.out HBD.out) hc1 (Tree.same (Cells.of_below HBD.out).same (fun _ _ h => h) _ _ HA.out) HMD.out.map).mono ?_
  rintro e w1 ⟨rfl, hp1⟩
  have HC1 := Lib.hid (hp1.cells HMD.out.map)
  have HP1 := Lib.hid (HMD.out.trans hp1)
  have HCW := Lib.hid ((Cells.of_below HBD.out).trans HC1.out)
  clear hp1
  refine ⟨_, rfl, ?_⟩
  refine hK.out _ _ ⟨HC1.out _ _ HS.out.1, HC1.out _ _ HS.out.2.1, HC1.out _ _ HS.out.2.2.1, HC1.out _ _ HS.out.2.2.2.1, HC1.out _ _ HS.out.2.2.2.2.1, HC1.out _ _ HS.out.2.2.2.2.2⟩ (fun hHeld => ?_)
  clear hK K
  refine norm_ (a' := ?_) ?_ ?_
  rotate_left
  · show Act.put _ (some 49) _ = _; simp only [Act.put, List.setIfInBounds_toArray, List.set_cons_zero, List.set_cons_succ, i64_w, i32_w]; rfl
  refine one_ (i := 17) (N := (some 58)) #[true, true, true, true, true, true, true, true, true, true, true, true, true, true, true, true, true, true, false, false] rfl rfl (by kernel_rfl) (by decide) (fun K hK => ?_)
  refine goes_ Tryd.func16 (by kernel_rfl) rfl #[.agg #[.slice A0 nx.length c0, .slice A1 mk.length c1], vb, .map (some r)] (by rfl) rfl rfl (by (try simp only [List.map_toArray, List.map_cons, List.map_nil]); first | done | rfl) ?_
  refine (IB.out A0 c0 A1 c1 ok vb r w1 (HCW.out.ints HR0.out) hc0 (HCW.out.ints HR1.out) hc1 (Tree.same HCW.out.same (fun _ _ h => h) _ _ HB.out) HP1.out.map).mono ?_
  rintro e w2 ⟨rfl, hp2⟩
  have HC2 := Lib.hid (hp2.cells HP1.out.map)
  have HP2 := Lib.hid (HP1.out.trans hp2)
  clear hp2
  refine ⟨_, rfl, ?_⟩
  refine hK.out _ _ ⟨HC2.out _ _ hHeld.1, HC2.out _ _ hHeld.2.1, HC2.out _ _ hHeld.2.2.1, HC2.out _ _ hHeld.2.2.2.1, HC2.out _ _ hHeld.2.2.2.2.1, HC2.out _ _ hHeld.2.2.2.2.2⟩ (fun hHeld => ?_)
  clear hK K
  refine norm_ (a' := ?_) ?_ ?_
  rotate_left
  · show Act.put _ (some 58) _ = _; simp only [Act.put, List.setIfInBounds_toArray, List.set_cons_zero, List.set_cons_succ, i64_w, i32_w]; rfl
  refine pure_ (i := 18) (N := (some 59)) (v := ?_) (a' := ?_) #[true, true, true, true, true, true, true, true, true, true, true, true, true, true, true, true, true, true, true, false] rfl rfl (by kernel_rfl) (fun _ _ _ h => h) (Or.inl ⟨by rfl, ?_⟩) ?_ ?_
  rotate_left
  · intro w'; go_simp; first | done | with_reducible rfl
  rotate_left
  · simp only [Act.put, List.setIfInBounds_toArray, List.set_cons_zero, List.set_cons_succ, i64_w, i32_w]; rfl
  refine pure_ (i := 19) (N := (some 6)) (v := ?_) (a' := ?_) #[true, true, true, true, true, true, true, true, true, true, true, true, true, true, true, true, true, true, true, true] rfl rfl (by kernel_rfl) (fun _ _ _ h => h) (Or.inl ⟨by rfl, ?_⟩) ?_ ?_
  rotate_left
  · intro w'; go_simp; first | done | with_reducible rfl
  rotate_left
  · simp only [Act.put, List.setIfInBounds_toArray, List.set_cons_zero, List.set_cons_succ, i64_w, i32_w]; rfl
  refine done_ (by kernel_rfl) ?_
  go_wp2
  go_ret
  exact ⟨rfl, HP2.out⟩
set_option maxRecDepth 100000 in
set_option maxHeartbeats 2000000 in
theorem holds_or (A0 : Option Addr) (c0 : Nat) (nx : List Int) (A1 : Option Addr) (c1 : Nat) (mk : List Int) (gn r : Nat) (w : World) (hr0 : Kd.C (Kd.int .i64) w A0 nx.length nx) (hc0 : nx.length ≤ c0) (hr1 : Kd.C (Kd.int .i64) w A1 mk.length mk) (hc1 : mk.length ≤ c1) (hlen : nx.length = mk.length) (kb ko cp : Nat) (va vb : Value) (a b : Fm) (m m1 m2 : List (Int × Int)) (x y : Int) (ok : Nat → Prop) (hn0 : w.cell? ⟨gn, 0, none⟩ = some (.int .u8 124)) (hn3 : w.cell? ⟨gn, 3, none⟩ = some (.slice (some ⟨kb, ko, none⟩) 2 cp)) (hka : w.cell? ⟨kb, ko, none⟩ = some va) (hkb : w.cell? ⟨kb, ko + 1, none⟩ = some vb) (ha : Tree w ok a va) (hb : Tree w ok b vb) (hm : IsM (Value.int .u8) (Value.int .i64) w r m) (iha : HoldsC nx mk a m x m1) (ihb : HoldsC nx mk b m1 y m2) :
    Calls Tryd.prog 16 #[.agg #[.slice A0 nx.length c0, .slice A1 mk.length c1], .pointer (some ⟨gn, 0, none⟩), .map (some r)] w fun e w' => e = .returned (.int .i64 (bits .or .i64 x y)) ∧ HP r m2 w w' := by
  have HM := Lib.hid hm
  have HA := Lib.hid ha
  have HB := Lib.hid hb
  have IA := Lib.hid iha
  have IB := Lib.hid ihb
  clear hm ha hb iha ihb
  have hu := Tryd.underlying32
  have hu2 := Tryd.underlying54
  have HR0 := Lib.hid hr0
  have HR1 := Lib.hid hr1
  have HLEN := Lib.hid hlen
  have hle := hr0.2.1
  clear hr0 hr1 hlen
  go_enter Tryd.func16, Tryd.ntmps16
  go_wp2_with (first | ((with_reducible refine gate_dst (N := 3) rfl ?_); refine box_event ?hg (N := 3) ?hd (cs := #[.slice A0 nx.length c0, .slice A1 mk.length c1]) (t := 32) ?hr ?_; (case hd => rfl); (case hg => rfl); (case hr => first | (go_simp; done) | (go_simp; rfl)); intro gw hgw wb hbw hbb; have k0_ := pw_cell_below hbb hn0; clear hn0; have hn0 := k0_; clear k0_; have k1_ := pw_cell_below hbb hn3; clear hn3; have hn3 := k1_; clear k1_; have k2_ := pw_cell_below hbb hka; clear hka; have hka := k2_; clear k2_; have k3_ := pw_cell_below hbb hkb; clear hkb; have hkb := k3_; clear k3_; have HGW := Lib.hid hbw; have HBW := Lib.hid (below_step (Below.refl w.heap.size w) hbb); clear hgw hbw hbb) | ((with_reducible refine gate_dst (N := 4) rfl ?_); refine box_event ?hg (N := 4) ?hd (cs := #[.pointer (some ⟨gn, 0, none⟩)]) (t := 41) ?hr ?_; (case hd => rfl); (case hg => rfl); (case hr => first | (go_simp; done) | (go_simp; rfl)); intro gf hgf wc hbf hbb; have k0_ := pw_cell_below hbb hn0; clear hn0; have hn0 := k0_; clear k0_; have k1_ := pw_cell_below hbb hn3; clear hn3; have hn3 := k1_; clear k1_; have k2_ := pw_cell_below hbb hka; clear hka; have hka := k2_; clear k2_; have k3_ := pw_cell_below hbb hkb; clear hkb; have hkb := k3_; clear k3_; have k0_ := Lib.hid (blk_below HGW.out hbb); have k1_ := Lib.hid (below_step HBW.out hbb); clear HGW HBW; have HGW := k0_; have HBW := k1_; clear k0_ k1_; have HGF := Lib.hid hbf; have hw0 : wc.cell? ⟨gw, 0, none⟩ = some (.slice A0 nx.length c0) := (blk_cell HGW.out 0).trans rfl; have hw1 : wc.cell? ⟨gw, 1, none⟩ = some (.slice A1 mk.length c1) := (blk_cell HGW.out 1).trans rfl; have hf0 : wc.cell? ⟨gf, 0, none⟩ = some (.pointer (some ⟨gn, 0, none⟩)) := (blk_cell HGF.out 0).trans rfl; clear hgf hbf hbb) | fail)
  go_wp2_with fail
  have HS := Lib.hid (show (fun w' => w'.cell? ⟨gw, 0, none⟩ = some (.slice A0 nx.length c0) ∧ w'.cell? ⟨gw, 1, none⟩ = some (.slice A1 mk.length c1) ∧ w'.cell? ⟨gf, 0, none⟩ = some (.pointer (some ⟨gn, 0, none⟩)) ∧ w'.cell? ⟨gn, 3, none⟩ = some (.slice (some ⟨kb, ko, none⟩) 2 cp) ∧ w'.cell? ⟨kb, ko, none⟩ = some va ∧ w'.cell? ⟨kb, ko + 1, none⟩ = some vb) wc.drew from ⟨by simpa using hw0, by simpa using hw1, by simpa using hf0, by simpa using hn3, by simpa using hka, by simpa using hkb⟩)
  have HBD := Lib.hid (below_drew1 HBW.out)
  have HMD := Lib.hid (HP.of_below HM.out HBD.out)
  clear hw0 hw1 hf0 hn3 hka hkb
  refine start_ (n := 20) (S := fun w' => w'.cell? ⟨gw, 0, none⟩ = some (.slice A0 nx.length c0) ∧ w'.cell? ⟨gw, 1, none⟩ = some (.slice A1 mk.length c1) ∧ w'.cell? ⟨gf, 0, none⟩ = some (.pointer (some ⟨gn, 0, none⟩)) ∧ w'.cell? ⟨gn, 3, none⟩ = some (.slice (some ⟨kb, ko, none⟩) 2 cp) ∧ w'.cell? ⟨kb, ko, none⟩ = some va ∧ w'.cell? ⟨kb, ko + 1, none⟩ = some vb) (ds := []) #[false, false, false, false, false, false, false, false, false, false, false, false, false, false, false, false, false, false, false, false] (by kernel_rfl) rfl rfl HS.out (fun hHeld => ?_)
  generalize wc.drew = wd at HS HBD HMD hHeld ⊢
  refine take_ (i := 0) (N := (some 62)) (v := ?_) (a' := ?_) #[true, false, false, false, false, false, false, false, false, false, false, false, false, false, false, false, false, false, false, false] rfl rfl (by kernel_rfl) (fun _ _ _ h => h) (Or.inl ⟨by rfl, ?_⟩) hHeld ?_ ?_
  rotate_left
  · rintro w' ⟨s0, s1, s2, s3, s4, s5⟩; go_simp; first | done | with_reducible rfl
  rotate_left
  · simp only [Act.put, List.setIfInBounds_toArray, List.set_cons_zero, List.set_cons_succ, i64_w, i32_w]; rfl
  refine take_ (i := 1) (N := (some 63)) (v := ?_) (a' := ?_) #[true, true, false, false, false, false, false, false, false, false, false, false, false, false, false, false, false, false, false, false] rfl rfl (by kernel_rfl) (fun _ _ _ h => h) (Or.inl ⟨by rfl, ?_⟩) hHeld ?_ ?_
  rotate_left
  · rintro w' ⟨s0, s1, s2, s3, s4, s5⟩; go_simp; first | done | with_reducible rfl
  rotate_left
  · simp only [Act.put, List.setIfInBounds_toArray, List.set_cons_zero, List.set_cons_succ, i64_w, i32_w]; rfl
  refine pure_ (i := 2) (N := (some 64)) (v := ?_) (a' := ?_) #[true, true, true, false, false, false, false, false, false, false, false, false, false, false, false, false, false, false, false, false] rfl rfl (by kernel_rfl) (fun _ _ _ h => h) (Or.inl ⟨by rfl, ?_⟩) ?_ ?_
  rotate_left
  · intro w'; go_simp; first | done | with_reducible rfl
  rotate_left
  · simp only [Act.put, List.setIfInBounds_toArray, List.set_cons_zero, List.set_cons_succ, i64_w, i32_w]; rfl
  refine pure_ (i := 3) (N := (some 65)) (v := ?_) (a' := ?_) #[true, true, true, true, false, false, false, false, false, false, false, false, false, false, false, false, false, false, false, false] rfl rfl (by kernel_rfl) (fun _ _ _ h => h) (Or.inl ⟨by rfl, ?_⟩) ?_ ?_
  rotate_left
  · intro w'; go_simp; first | done | with_reducible rfl
  rotate_left
  · simp only [Act.put, List.setIfInBounds_toArray, List.set_cons_zero, List.set_cons_succ, i64_w, i32_w]; rfl
  refine take_ (i := 4) (N := (some 66)) (v := ?_) (a' := ?_) #[true, true, true, true, true, false, false, false, false, false, false, false, false, false, false, false, false, false, false, false] rfl rfl (by kernel_rfl) (fun _ _ _ h => h) (Or.inl ⟨by rfl, ?_⟩) hHeld ?_ ?_
  rotate_left
  · rintro w' ⟨s0, s1, s2, s3, s4, s5⟩; go_simp; first | done | with_reducible rfl
  rotate_left
  · simp only [Act.put, List.setIfInBounds_toArray, List.set_cons_zero, List.set_cons_succ, i64_w, i32_w]; rfl
  refine pure_ (i := 5) (N := (some 67)) (v := ?_) (a' := ?_) #[true, true, true, true, true, true, false, false, false, false, false, false, false, false, false, false, false, false, false, false] rfl rfl (by kernel_rfl) (fun _ _ _ h => h) (Or.inl ⟨by rfl, ?_⟩) ?_ ?_
  rotate_left
  · intro w'; go_simp; first | done | with_reducible rfl
  rotate_left
  · simp only [Act.put, List.setIfInBounds_toArray, List.set_cons_zero, List.set_cons_succ, i64_w, i32_w]; rfl
  refine take_ (i := 6) (N := (some 68)) (v := ?_) (a' := ?_) #[true, true, true, true, true, true, true, false, false, false, false, false, false, false, false, false, false, false, false, false] rfl rfl (by kernel_rfl) (fun _ _ _ h => h) (Or.inl ⟨by rfl, ?_⟩) hHeld ?_ ?_
  rotate_left
  · rintro w' ⟨s0, s1, s2, s3, s4, s5⟩; go_simp; first | done | with_reducible rfl
  rotate_left
  · simp only [Act.put, List.setIfInBounds_toArray, List.set_cons_zero, List.set_cons_succ, i64_w, i32_w]; rfl
  refine pure_ (i := 7) (N := (some 69)) (v := ?_) (a' := ?_) #[true, true, true, true, true, true, true, true, false, false, false, false, false, false, false, false, false, false, false, false] rfl rfl (by kernel_rfl) (fun _ _ _ h => h) (Or.inl ⟨by rfl, ?_⟩) ?_ ?_
  rotate_left
  · intro w'; go_simp; first | done | with_reducible rfl
  rotate_left
  · simp only [Act.put, List.setIfInBounds_toArray, List.set_cons_zero, List.set_cons_succ, i64_w, i32_w]; rfl
  refine take_ (i := 9) (N := (some 71)) (v := ?_) (a' := ?_) #[true, true, true, true, true, true, true, true, false, true, false, false, false, false, false, false, false, false, false, false] rfl rfl (by kernel_rfl) (fun _ _ _ h => h) (Or.inl ⟨by rfl, ?_⟩) hHeld ?_ ?_
  rotate_left
  · rintro w' ⟨s0, s1, s2, s3, s4, s5⟩; go_simp; first | done | with_reducible rfl
  rotate_left
  · simp only [Act.put, List.setIfInBounds_toArray, List.set_cons_zero, List.set_cons_succ, i64_w, i32_w]; rfl
  refine take_ (i := 10) (N := (some 72)) (v := ?_) (a' := ?_) #[true, true, true, true, true, true, true, true, false, true, true, false, false, false, false, false, false, false, false, false] rfl rfl (by kernel_rfl) (fun _ _ _ h => h) (Or.inl ⟨by rfl, ?_⟩) hHeld ?_ ?_
  rotate_left
  · rintro w' ⟨s0, s1, s2, s3, s4, s5⟩; go_simp; first | done | with_reducible rfl
  rotate_left
  · simp only [Act.put, List.setIfInBounds_toArray, List.set_cons_zero, List.set_cons_succ, i64_w, i32_w]; rfl
  refine pure_ (i := 11) (N := (some 73)) (v := ?_) (a' := ?_) #[true, true, true, true, true, true, true, true, false, true, true, true, false, false, false, false, false, false, false, false] rfl rfl (by kernel_rfl) (fun _ _ _ h => h) (Or.inl ⟨by rfl, ?_⟩) ?_ ?_
  rotate_left
  · intro w'; go_simp; first | done | with_reducible rfl
  rotate_left
  · simp only [Act.put, List.setIfInBounds_toArray, List.set_cons_zero, List.set_cons_succ, i64_w, i32_w]; rfl
  refine pure_ (i := 12) (N := (some 74)) (v := ?_) (a' := ?_) #[true, true, true, true, true, true, true, true, false, true, true, true, true, false, false, false, false, false, false, false] rfl rfl (by kernel_rfl) (fun _ _ _ h => h) (Or.inl ⟨by rfl, ?_⟩) ?_ ?_
  rotate_left
  · intro w'; go_simp; first | done | with_reducible rfl
  rotate_left
  · simp only [Act.put, List.setIfInBounds_toArray, List.set_cons_zero, List.set_cons_succ, i64_w, i32_w]; rfl
  refine take_ (i := 13) (N := (some 75)) (v := ?_) (a' := ?_) #[true, true, true, true, true, true, true, true, false, true, true, true, true, true, false, false, false, false, false, false] rfl rfl (by kernel_rfl) (fun _ _ _ h => h) (Or.inl ⟨by rfl, ?_⟩) hHeld ?_ ?_
  rotate_left
  · rintro w' ⟨s0, s1, s2, s3, s4, s5⟩; go_simp; first | done | with_reducible rfl
  rotate_left
  · simp only [Act.put, List.setIfInBounds_toArray, List.set_cons_zero, List.set_cons_succ, i64_w, i32_w]; rfl
  refine pure_ (i := 14) (N := (some 76)) (v := ?_) (a' := ?_) #[true, true, true, true, true, true, true, true, false, true, true, true, true, true, true, false, false, false, false, false] rfl rfl (by kernel_rfl) (fun _ _ _ h => h) (Or.inl ⟨by rfl, ?_⟩) ?_ ?_
  rotate_left
  · intro w'; go_simp; first | done | with_reducible rfl
  rotate_left
  · simp only [Act.put, List.setIfInBounds_toArray, List.set_cons_zero, List.set_cons_succ, i64_w, i32_w]; rfl
  refine take_ (i := 15) (N := (some 77)) (v := ?_) (a' := ?_) #[true, true, true, true, true, true, true, true, false, true, true, true, true, true, true, true, false, false, false, false] rfl rfl (by kernel_rfl) (fun _ _ _ h => h) (Or.inl ⟨by rfl, ?_⟩) hHeld ?_ ?_
  rotate_left
  · rintro w' ⟨s0, s1, s2, s3, s4, s5⟩; go_simp; first | done | with_reducible rfl
  rotate_left
  · simp only [Act.put, List.setIfInBounds_toArray, List.set_cons_zero, List.set_cons_succ, i64_w, i32_w]; rfl
  refine pure_ (i := 16) (N := (some 78)) (v := ?_) (a' := ?_) #[true, true, true, true, true, true, true, true, false, true, true, true, true, true, true, true, true, false, false, false] rfl rfl (by kernel_rfl) (fun _ _ _ h => h) (Or.inl ⟨by rfl, ?_⟩) ?_ ?_
  rotate_left
  · intro w'; go_simp; first | done | with_reducible rfl
  rotate_left
  · simp only [Act.put, List.setIfInBounds_toArray, List.set_cons_zero, List.set_cons_succ, i64_w, i32_w]; rfl
  refine one_ (i := 8) (N := (some 70)) #[true, true, true, true, true, true, true, true, true, true, true, true, true, true, true, true, true, false, false, false] rfl rfl (by kernel_rfl) (by decide) (fun K hK => ?_)
  refine goes_ Tryd.func16 (by kernel_rfl) rfl #[.agg #[.slice A0 nx.length c0, .slice A1 mk.length c1], va, .map (some r)] (by rfl) rfl rfl (by (try simp only [List.map_toArray, List.map_cons, List.map_nil]); first | done | rfl) ?_
  refine (IA.out A0 c0 A1 c1 ok va r wd (Kd.C_below HR0.out HBD.out) hc0 (Kd.C_below HR1.out HBD.out) hc1 (Tree.same (Cells.of_below HBD.out).same (fun _ _ h => h) _ _ HA.out) HMD.out.map).mono ?_
  rintro e w1 ⟨rfl, hp1⟩
  have HC1 := Lib.hid (hp1.cells HMD.out.map)
  have HP1 := Lib.hid (HMD.out.trans hp1)
  have HCW := Lib.hid ((Cells.of_below HBD.out).trans HC1.out)
  clear hp1
  refine ⟨_, rfl, ?_⟩
  refine hK.out _ _ ⟨HC1.out _ _ HS.out.1, HC1.out _ _ HS.out.2.1, HC1.out _ _ HS.out.2.2.1, HC1.out _ _ HS.out.2.2.2.1, HC1.out _ _ HS.out.2.2.2.2.1, HC1.out _ _ HS.out.2.2.2.2.2⟩ (fun hHeld => ?_)
  clear hK K
  refine norm_ (a' := ?_) ?_ ?_
  rotate_left
  · show Act.put _ (some 70) _ = _; simp only [Act.put, List.setIfInBounds_toArray, List.set_cons_zero, List.set_cons_succ, i64_w, i32_w]; rfl
  refine one_ (i := 17) (N := (some 79)) #[true, true, true, true, true, true, true, true, true, true, true, true, true, true, true, true, true, true, false, false] rfl rfl (by kernel_rfl) (by decide) (fun K hK => ?_)
  refine goes_ Tryd.func16 (by kernel_rfl) rfl #[.agg #[.slice A0 nx.length c0, .slice A1 mk.length c1], vb, .map (some r)] (by rfl) rfl rfl (by (try simp only [List.map_toArray, List.map_cons, List.map_nil]); first | done | rfl) ?_
  refine (IB.out A0 c0 A1 c1 ok vb r w1 (HCW.out.ints HR0.out) hc0 (HCW.out.ints HR1.out) hc1 (Tree.same HCW.out.same (fun _ _ h => h) _ _ HB.out) HP1.out.map).mono ?_
  rintro e w2 ⟨rfl, hp2⟩
  have HC2 := Lib.hid (hp2.cells HP1.out.map)
  have HP2 := Lib.hid (HP1.out.trans hp2)
  clear hp2
  refine ⟨_, rfl, ?_⟩
  refine hK.out _ _ ⟨HC2.out _ _ hHeld.1, HC2.out _ _ hHeld.2.1, HC2.out _ _ hHeld.2.2.1, HC2.out _ _ hHeld.2.2.2.1, HC2.out _ _ hHeld.2.2.2.2.1, HC2.out _ _ hHeld.2.2.2.2.2⟩ (fun hHeld => ?_)
  clear hK K
  refine norm_ (a' := ?_) ?_ ?_
  rotate_left
  · show Act.put _ (some 79) _ = _; simp only [Act.put, List.setIfInBounds_toArray, List.set_cons_zero, List.set_cons_succ, i64_w, i32_w]; rfl
  refine pure_ (i := 18) (N := (some 80)) (v := ?_) (a' := ?_) #[true, true, true, true, true, true, true, true, true, true, true, true, true, true, true, true, true, true, true, false] rfl rfl (by kernel_rfl) (fun _ _ _ h => h) (Or.inl ⟨by rfl, ?_⟩) ?_ ?_
  rotate_left
  · intro w'; go_simp; first | done | with_reducible rfl
  rotate_left
  · simp only [Act.put, List.setIfInBounds_toArray, List.set_cons_zero, List.set_cons_succ, i64_w, i32_w]; rfl
  refine pure_ (i := 19) (N := (some 6)) (v := ?_) (a' := ?_) #[true, true, true, true, true, true, true, true, true, true, true, true, true, true, true, true, true, true, true, true] rfl rfl (by kernel_rfl) (fun _ _ _ h => h) (Or.inl ⟨by rfl, ?_⟩) ?_ ?_
  rotate_left
  · intro w'; go_simp; first | done | with_reducible rfl
  rotate_left
  · simp only [Act.put, List.setIfInBounds_toArray, List.set_cons_zero, List.set_cons_succ, i64_w, i32_w]; rfl
  refine done_ (by kernel_rfl) ?_
  go_wp2
  go_ret
  exact ⟨rfl, HP2.out⟩
end Go.Proofs.YtjffhhalmicodaaDoor.X
end
end

section
section
set_option linter.unusedVariables false
set_option linter.unusedSimpArgs false
namespace Go.Proofs.YtjffhhalmicodaaDoor.X
open Go.RowKit Go.Proofs.YtjffhhalmicodaaDoorW.PrintWords Go.Proofs.YtjffhhalmicodaaDoorW.PrintLast Go.Proofs.YtjffhhalmicodaaDoorW.PrintMore
theorem HP.step {r : Nat} {m : List (Int × Int)} {W w' w2 : World} (h : HP r m W w') (hb : Below w'.heap.size w' w2) : HP r m W w2 :=
  h.trans (HP.of_below h.map hb)
theorem HP.set {r : Nat} {m : List (Int × Int)} {W w' : World} (h : HP r m W w') {b i : Nat} (u : Value) (hb : W.heap.size ≤ b) (hr : r < W.heap.size) : HP r m W (w'.setCell ⟨b, i, none⟩ u) :=
  ⟨h.map.setCell _ _, keep_far h.keep hb u, fun B v hB hB2 => (h.low B v hB hB2).setCell (Nat.le_trans hB2 (Nat.le_of_lt (Nat.lt_of_lt_of_le hr hb))) u⟩
set_option maxRecDepth 100000 in
set_option maxHeartbeats 2000000 in
theorem holds_dia (A0 : Option Addr) (c0 : Nat) (nx : List Int) (A1 : Option Addr) (c1 : Nat) (mk : List Int) (gn r : Nat) (w : World) (hr0 : Kd.C (Kd.int .i64) w A0 nx.length nx) (hc0 : nx.length ≤ c0) (hr1 : Kd.C (Kd.int .i64) w A1 mk.length mk) (hc1 : mk.length ≤ c1) (hlen : nx.length = mk.length) (kb ko cp : Nat) (va : Value) (a : Fm) (m m1 : List (Int × Int)) (x : Int) (ok : Nat → Prop) (hn0 : w.cell? ⟨gn, 0, none⟩ = some (.int .u8 60)) (hn3 : w.cell? ⟨gn, 3, none⟩ = some (.slice (some ⟨kb, ko, none⟩) 1 cp)) (hka : w.cell? ⟨kb, ko, none⟩ = some va) (ha : Tree w ok a va) (hm : IsM (Value.int .u8) (Value.int .i64) w r m) (iha : HoldsC nx mk a m x m1) :
    Calls Tryd.prog 16 #[.agg #[.slice A0 nx.length c0, .slice A1 mk.length c1], .pointer (some ⟨gn, 0, none⟩), .map (some r)] w fun e w' => e = .returned (.int .i64 (stepTo nx x)) ∧ HP r m1 w w' := by
  have HM := Lib.hid hm
  have HRW := Lib.hid hm.lt
  have HA := Lib.hid ha
  have IA := Lib.hid iha
  clear hm ha iha
  have hu := Tryd.underlying32
  have hu2 := Tryd.underlying54
  have HR0 := Lib.hid hr0
  have HR1 := Lib.hid hr1
  have HLEN := Lib.hid hlen
  have hle := hr0.2.1
  clear hr0 hr1 hlen
  go_enter Tryd.func16, Tryd.ntmps16
  go_wp2_with (first | ((with_reducible refine gate_dst (N := 3) rfl ?_); refine box_event ?hg (N := 3) ?hd (cs := #[.slice A0 nx.length c0, .slice A1 mk.length c1]) (t := 32) ?hr ?_; (case hd => rfl); (case hg => rfl); (case hr => first | (go_simp; done) | (go_simp; rfl)); intro gw hgw wb hbw hbb; have k0_ := pw_cell_below hbb hn0; clear hn0; have hn0 := k0_; clear k0_; have k1_ := pw_cell_below hbb hn3; clear hn3; have hn3 := k1_; clear k1_; have k2_ := pw_cell_below hbb hka; clear hka; have hka := k2_; clear k2_; have HGW := Lib.hid hbw; have HBW := Lib.hid (below_step (Below.refl w.heap.size w) hbb); clear hgw hbw hbb) | ((with_reducible refine gate_dst (N := 4) rfl ?_); refine box_event ?hg (N := 4) ?hd (cs := #[.pointer (some ⟨gn, 0, none⟩)]) (t := 41) ?hr ?_; (case hd => rfl); (case hg => rfl); (case hr => first | (go_simp; done) | (go_simp; rfl)); intro gf hgf wc hbf hbb; have k0_ := pw_cell_below hbb hn0; clear hn0; have hn0 := k0_; clear k0_; have k1_ := pw_cell_below hbb hn3; clear hn3; have hn3 := k1_; clear k1_; have k2_ := pw_cell_below hbb hka; clear hka; have hka := k2_; clear k2_; have k0_ := Lib.hid (blk_below HGW.out hbb); have k1_ := Lib.hid (below_step HBW.out hbb); clear HGW HBW; have HGW := k0_; have HBW := k1_; clear k0_ k1_; have HGF := Lib.hid hbf; have hw0 : wc.cell? ⟨gw, 0, none⟩ = some (.slice A0 nx.length c0) := (blk_cell HGW.out 0).trans rfl; have hw1 : wc.cell? ⟨gw, 1, none⟩ = some (.slice A1 mk.length c1) := (blk_cell HGW.out 1).trans rfl; have hf0 : wc.cell? ⟨gf, 0, none⟩ = some (.pointer (some ⟨gn, 0, none⟩)) := (blk_cell HGF.out 0).trans rfl; clear hgf hbf hbb) | fail)
  go_wp2_with fail
  have HS := Lib.hid (show (fun w' => w'.cell? ⟨gw, 0, none⟩ = some (.slice A0 nx.length c0) ∧ w'.cell? ⟨gw, 1, none⟩ = some (.slice A1 mk.length c1) ∧ w'.cell? ⟨gf, 0, none⟩ = some (.pointer (some ⟨gn, 0, none⟩)) ∧ w'.cell? ⟨gn, 3, none⟩ = some (.slice (some ⟨kb, ko, none⟩) 1 cp) ∧ w'.cell? ⟨kb, ko, none⟩ = some va) wc.drew from ⟨by simpa using hw0, by simpa using hw1, by simpa using hf0, by simpa using hn3, by simpa using hka⟩)
  have HBD := Lib.hid (below_drew1 HBW.out)
  have HMD := Lib.hid (HP.of_below HM.out HBD.out)
  have hgwlt : gw < wc.drew.heap.size := blk_lt (blk_drew HGW.out)
  clear HGW hw0 hw1 hf0 hn3 hka
  have HGW := Lib.hid hgwlt
  clear hgwlt
  refine start_ (n := 11) (S := fun w' => w'.cell? ⟨gw, 0, none⟩ = some (.slice A0 nx.length c0) ∧ w'.cell? ⟨gw, 1, none⟩ = some (.slice A1 mk.length c1) ∧ w'.cell? ⟨gf, 0, none⟩ = some (.pointer (some ⟨gn, 0, none⟩)) ∧ w'.cell? ⟨gn, 3, none⟩ = some (.slice (some ⟨kb, ko, none⟩) 1 cp) ∧ w'.cell? ⟨kb, ko, none⟩ = some va) (ds := [10]) #[false, false, false, false, false, false, false, false, false, false, false] (by kernel_rfl) rfl rfl HS.out (fun hHeld => ?_)
  generalize wc.drew = wd at HS HBD HMD HGW hHeld ⊢
  have HC0 := Lib.hid (Cells.of_below HBD.out)
  refine take_ (i := 0) (N := (some 83)) (v := ?_) (a' := ?_) #[true, false, false, false, false, false, false, false, false, false, false] rfl rfl (by kernel_rfl) (fun _ _ _ h => h) (Or.inl ⟨by rfl, ?_⟩) hHeld ?_ ?_
  rotate_left
  · rintro w' ⟨s0, s1, s2, s3, s4⟩; go_simp; first | done | with_reducible rfl
  rotate_left
  · simp only [Act.put, List.setIfInBounds_toArray, List.set_cons_zero, List.set_cons_succ, i64_w, i32_w]; rfl
  refine take_ (i := 1) (N := (some 84)) (v := ?_) (a' := ?_) #[true, true, false, false, false, false, false, false, false, false, false] rfl rfl (by kernel_rfl) (fun _ _ _ h => h) (Or.inl ⟨by rfl, ?_⟩) hHeld ?_ ?_
  rotate_left
  · rintro w' ⟨s0, s1, s2, s3, s4⟩; go_simp; first | done | with_reducible rfl
  rotate_left
  · simp only [Act.put, List.setIfInBounds_toArray, List.set_cons_zero, List.set_cons_succ, i64_w, i32_w]; rfl
  refine pure_ (i := 2) (N := (some 85)) (v := ?_) (a' := ?_) #[true, true, true, false, false, false, false, false, false, false, false] rfl rfl (by kernel_rfl) (fun _ _ _ h => h) (Or.inl ⟨by rfl, ?_⟩) ?_ ?_
  rotate_left
  · intro w'; go_simp; first | done | with_reducible rfl
  rotate_left
  · simp only [Act.put, List.setIfInBounds_toArray, List.set_cons_zero, List.set_cons_succ, i64_w, i32_w]; rfl
  refine pure_ (i := 3) (N := (some 86)) (v := ?_) (a' := ?_) #[true, true, true, true, false, false, false, false, false, false, false] rfl rfl (by kernel_rfl) (fun _ _ _ h => h) (Or.inl ⟨by rfl, ?_⟩) ?_ ?_
  rotate_left
  · intro w'; go_simp; first | done | with_reducible rfl
  rotate_left
  · simp only [Act.put, List.setIfInBounds_toArray, List.set_cons_zero, List.set_cons_succ, i64_w, i32_w]; rfl
  refine take_ (i := 4) (N := (some 87)) (v := ?_) (a' := ?_) #[true, true, true, true, true, false, false, false, false, false, false] rfl rfl (by kernel_rfl) (fun _ _ _ h => h) (Or.inl ⟨by rfl, ?_⟩) hHeld ?_ ?_
  rotate_left
  · rintro w' ⟨s0, s1, s2, s3, s4⟩; go_simp; first | done | with_reducible rfl
  rotate_left
  · simp only [Act.put, List.setIfInBounds_toArray, List.set_cons_zero, List.set_cons_succ, i64_w, i32_w]; rfl
  refine pure_ (i := 5) (N := (some 88)) (v := ?_) (a' := ?_) #[true, true, true, true, true, true, false, false, false, false, false] rfl rfl (by kernel_rfl) (fun _ _ _ h => h) (Or.inl ⟨by rfl, ?_⟩) ?_ ?_
  rotate_left
  · intro w'; go_simp; first | done | with_reducible rfl
  rotate_left
  · simp only [Act.put, List.setIfInBounds_toArray, List.set_cons_zero, List.set_cons_succ, i64_w, i32_w]; rfl
  refine take_ (i := 6) (N := (some 89)) (v := ?_) (a' := ?_) #[true, true, true, true, true, true, true, false, false, false, false] rfl rfl (by kernel_rfl) (fun _ _ _ h => h) (Or.inl ⟨by rfl, ?_⟩) hHeld ?_ ?_
  rotate_left
  · rintro w' ⟨s0, s1, s2, s3, s4⟩; go_simp; first | done | with_reducible rfl
  rotate_left
  · simp only [Act.put, List.setIfInBounds_toArray, List.set_cons_zero, List.set_cons_succ, i64_w, i32_w]; rfl
  refine pure_ (i := 7) (N := (some 90)) (v := ?_) (a' := ?_) #[true, true, true, true, true, true, true, true, false, false, false] rfl rfl (by kernel_rfl) (fun _ _ _ h => h) (Or.inl ⟨by rfl, ?_⟩) ?_ ?_
  rotate_left
  · intro w'; go_simp; first | done | with_reducible rfl
  rotate_left
  · simp only [Act.put, List.setIfInBounds_toArray, List.set_cons_zero, List.set_cons_succ, i64_w, i32_w]; rfl
  refine two_ (i := 8) (j := 9) (Ni := (some 91)) (Nj := (some 7)) #[true, true, true, true, true, true, true, true, true, false, false] #[true, true, true, true, true, true, true, true, false, true, false] rfl rfl rfl rfl (by kernel_rfl) (by decide) (by decide) (fun K hK => ?_) (fun K hK => ?_)
  · skip
    refine goes_ Tryd.func16 (by kernel_rfl) rfl #[.agg #[.slice A0 nx.length c0, .slice A1 mk.length c1], va, .map (some r)] (by rfl) rfl rfl (by (try simp only [List.map_toArray, List.map_cons, List.map_nil]); first | done | rfl) ?_
    refine (IA.out A0 c0 A1 c1 ok va r wd (HC0.out.ints HR0.out) hc0 (HC0.out.ints HR1.out) hc1 (Tree.same HC0.out.same (fun _ _ h => h) _ _ HA.out) HMD.out.map).mono ?_
    rintro e w1 ⟨rfl, hp1⟩
    have HC1 := Lib.hid (hp1.cells HMD.out.map)
    have HP1 := Lib.hid (HMD.out.trans hp1)
    have hlt1 : wd.heap.size ≤ w1.heap.size := hp1.keep.1
    clear hp1
    refine ⟨_, rfl, ?_⟩
    refine hK.out _ _ ⟨HC1.out _ _ hHeld.1, HC1.out _ _ hHeld.2.1, HC1.out _ _ hHeld.2.2.1, HC1.out _ _ hHeld.2.2.2.1, HC1.out _ _ hHeld.2.2.2.2⟩ (fun hHeld => ?_)
    clear hK K
    refine norm_ (a' := ?_) ?_ ?_
    rotate_left
    · show Act.put _ (some 91) _ = _; simp only [Act.put, List.setIfInBounds_toArray, List.set_cons_zero, List.set_cons_succ, i64_w, i32_w]; rfl
    refine one_ (i := 9) (N := (some 7)) #[true, true, true, true, true, true, true, true, true, true, false] rfl rfl (by kernel_rfl) (by decide) (fun K hK => ?_)
    refine alloc_step (cs := #[.int .i64 0]) (t := 3) (by rfl) rfl (by go_simp) ?_
    intro ga hga w3 hba0 hba
    have hca : w3.cell? ⟨ga, 0, none⟩ = some (.int .i64 0) := (blk_cell hba0 0).trans rfl
    have hfa := blk_frozen hba0 0
    have HPL := Lib.hid (HP1.out.step hba)
    have GNE : gw ≠ ga ∧ w.heap.size ≤ ga := ⟨fun e => by have := HGW.out; omega, by have := HP1.out.keep.1; omega⟩
    have hS3 : (fun w' => w'.cell? ⟨gw, 0, none⟩ = some (.slice A0 nx.length c0) ∧ w'.cell? ⟨gw, 1, none⟩ = some (.slice A1 mk.length c1) ∧ w'.cell? ⟨gf, 0, none⟩ = some (.pointer (some ⟨gn, 0, none⟩)) ∧ w'.cell? ⟨gn, 3, none⟩ = some (.slice (some ⟨kb, ko, none⟩) 1 cp) ∧ w'.cell? ⟨kb, ko, none⟩ = some va) w3 := ⟨(Cells.of_below hba) _ _ hHeld.1, (Cells.of_below hba) _ _ hHeld.2.1, (Cells.of_below hba) _ _ hHeld.2.2.1, (Cells.of_below hba) _ _ hHeld.2.2.2.1, (Cells.of_below hba) _ _ hHeld.2.2.2.2⟩
    clear hba0 hba hga hlt1
    refine hK.out _ _ hS3 (fun hHeld => ?_)
    clear hK K
    refine norm_ (a' := ?_) ?_ ?_
    rotate_left
    · show Act.put _ (some 7) _ = _; simp only [Act.put, List.setIfInBounds_toArray, List.set_cons_zero, List.set_cons_succ, i64_w, i32_w]; rfl
    have HGN := Lib.hid GNE
    clear GNE
    refine last_ (i := 10) (N := none) #[true, true, true, true, true, true, true, true, true, true, true] rfl rfl (by kernel_rfl) (by decide) (fun K hK => ?_)
    refine skip_step (w1 := w3.setCell ⟨ga, 0, none⟩ (.int .i64 x)) (by rfl) (by go_simp) ?_
    refine hK.out _ _ ?_
    clear hK K
    refine norm_ (a' := ?_) ?_ ?_
    rotate_left
    · show Act.put _ none _ = _; simp only [Act.put, List.setIfInBounds_toArray, List.set_cons_zero, List.set_cons_succ, i64_w, i32_w]; rfl
    refine done_ (by kernel_rfl) ?_
    have g0 : (w3.setCell ⟨ga, 0, none⟩ (.int .i64 x)).cell? ⟨gw, 0, none⟩ = some (.slice A0 nx.length c0) := (cell_set_other _ (show gw ≠ ga from HGN.out.1)).trans hHeld.1
    have g1 : (w3.setCell ⟨ga, 0, none⟩ (.int .i64 x)).cell? ⟨gw, 1, none⟩ = some (.slice A1 mk.length c1) := (cell_set_other _ (show gw ≠ ga from HGN.out.1)).trans hHeld.2.1
    have g2 : (w3.setCell ⟨ga, 0, none⟩ (.int .i64 x)).cell? ⟨ga, 0, none⟩ = some (.int .i64 x) := cell_set_self _ hca
    have HPF := Lib.hid (HPL.out.set (b := ga) (i := 0) (.int .i64 x) HGN.out.2 HRW.out)
    have HCF := Lib.hid (HPF.out.cells HM.out)
    clear hca hfa hHeld
    have EG := Lib.hid (enters_of' Tryd.func28 (by kernel_rfl) rfl)
    go_wp2_with fail
    refine (where_calls 28 _ EG.out (fun s => bits .and .i64 (rd nx s) x != 0) A0 nx.length c0 A1 mk.length c1 _ hle (pred_h3 _ gw ga A0 c0 nx x (HCF.out.ints HR0.out) g0 g2)).mono ?_
    rintro e w9 ⟨rfl, hb9⟩
    have HP9 := Lib.hid (HPF.out.step hb9)
    clear hb9 g0 g1 g2
    go_wp2
    go_ret
    exact ⟨rfl, HP9.out⟩
  · skip
    refine alloc_step (cs := #[.int .i64 0]) (t := 3) (by rfl) rfl (by go_simp) ?_
    intro ga hga w3 hba0 hba
    have hca : w3.cell? ⟨ga, 0, none⟩ = some (.int .i64 0) := (blk_cell hba0 0).trans rfl
    have HMD2 := Lib.hid (HMD.out.step hba)
    have HC3 := Lib.hid ((HC0.out).trans (Cells.of_below hba))
    have GNE : gw ≠ ga ∧ w.heap.size ≤ ga := ⟨fun e => by have := HGW.out; omega, by have := HMD.out.keep.1; omega⟩
    have hS3 : (fun w' => w'.cell? ⟨gw, 0, none⟩ = some (.slice A0 nx.length c0) ∧ w'.cell? ⟨gw, 1, none⟩ = some (.slice A1 mk.length c1) ∧ w'.cell? ⟨gf, 0, none⟩ = some (.pointer (some ⟨gn, 0, none⟩)) ∧ w'.cell? ⟨gn, 3, none⟩ = some (.slice (some ⟨kb, ko, none⟩) 1 cp) ∧ w'.cell? ⟨kb, ko, none⟩ = some va) w3 := ⟨(Cells.of_below hba) _ _ hHeld.1, (Cells.of_below hba) _ _ hHeld.2.1, (Cells.of_below hba) _ _ hHeld.2.2.1, (Cells.of_below hba) _ _ hHeld.2.2.2.1, (Cells.of_below hba) _ _ hHeld.2.2.2.2⟩
    have HBA := Lib.hid hba0
    clear hba0 hba hga
    refine hK.out _ _ hS3 (fun hHeld => ?_)
    clear hK K
    refine norm_ (a' := ?_) ?_ ?_
    rotate_left
    · show Act.put _ (some 7) _ = _; simp only [Act.put, List.setIfInBounds_toArray, List.set_cons_zero, List.set_cons_succ, i64_w, i32_w]; rfl
    refine one_ (i := 8) (N := (some 91)) #[true, true, true, true, true, true, true, true, true, true, false] rfl rfl (by kernel_rfl) (by decide) (fun K hK => ?_)
    refine goes_ Tryd.func16 (by kernel_rfl) rfl #[.agg #[.slice A0 nx.length c0, .slice A1 mk.length c1], va, .map (some r)] (by rfl) rfl rfl (by (try simp only [List.map_toArray, List.map_cons, List.map_nil]); first | done | rfl) ?_
    refine (IA.out A0 c0 A1 c1 ok va r w3 (HC3.out.ints HR0.out) hc0 (HC3.out.ints HR1.out) hc1 (Tree.same HC3.out.same (fun _ _ h => h) _ _ HA.out) HMD2.out.map).mono ?_
    rintro e w1 ⟨rfl, hp1⟩
    have HC1 := Lib.hid (hp1.cells HMD2.out.map)
    have HPL := Lib.hid (HMD2.out.trans hp1)
    have hba1 : w1.heap[ga]? = some (.cells #[.int .i64 0] 3 (0, 0)) := hp1.keep.blk HBA.out (fun e => by have := HRW.out; have := GNE.2; omega) (by simp)
    have hca1 := HC1.out _ _ hca
    clear hca
    have hca := hca1
    have hfa := blk_frozen hba1 0
    clear hp1 hca1 hba1
    refine ⟨_, rfl, ?_⟩
    refine hK.out _ _ ⟨HC1.out _ _ hHeld.1, HC1.out _ _ hHeld.2.1, HC1.out _ _ hHeld.2.2.1, HC1.out _ _ hHeld.2.2.2.1, HC1.out _ _ hHeld.2.2.2.2⟩ (fun hHeld => ?_)
    clear hK K
    refine norm_ (a' := ?_) ?_ ?_
    rotate_left
    · show Act.put _ (some 91) _ = _; simp only [Act.put, List.setIfInBounds_toArray, List.set_cons_zero, List.set_cons_succ, i64_w, i32_w]; rfl
    have HGN := Lib.hid GNE
    clear GNE
    refine last_ (i := 10) (N := none) #[true, true, true, true, true, true, true, true, true, true, true] rfl rfl (by kernel_rfl) (by decide) (fun K hK => ?_)
    refine skip_step (w1 := w1.setCell ⟨ga, 0, none⟩ (.int .i64 x)) (by rfl) (by go_simp) ?_
    refine hK.out _ _ ?_
    clear hK K
    refine norm_ (a' := ?_) ?_ ?_
    rotate_left
    · show Act.put _ none _ = _; simp only [Act.put, List.setIfInBounds_toArray, List.set_cons_zero, List.set_cons_succ, i64_w, i32_w]; rfl
    refine done_ (by kernel_rfl) ?_
    have g0 : (w1.setCell ⟨ga, 0, none⟩ (.int .i64 x)).cell? ⟨gw, 0, none⟩ = some (.slice A0 nx.length c0) := (cell_set_other _ (show gw ≠ ga from HGN.out.1)).trans hHeld.1
    have g1 : (w1.setCell ⟨ga, 0, none⟩ (.int .i64 x)).cell? ⟨gw, 1, none⟩ = some (.slice A1 mk.length c1) := (cell_set_other _ (show gw ≠ ga from HGN.out.1)).trans hHeld.2.1
    have g2 : (w1.setCell ⟨ga, 0, none⟩ (.int .i64 x)).cell? ⟨ga, 0, none⟩ = some (.int .i64 x) := cell_set_self _ hca
    have HPF := Lib.hid (HPL.out.set (b := ga) (i := 0) (.int .i64 x) HGN.out.2 HRW.out)
    have HCF := Lib.hid (HPF.out.cells HM.out)
    clear hca hfa hHeld
    have EG := Lib.hid (enters_of' Tryd.func28 (by kernel_rfl) rfl)
    go_wp2_with fail
    refine (where_calls 28 _ EG.out (fun s => bits .and .i64 (rd nx s) x != 0) A0 nx.length c0 A1 mk.length c1 _ hle (pred_h3 _ gw ga A0 c0 nx x (HCF.out.ints HR0.out) g0 g2)).mono ?_
    rintro e w9 ⟨rfl, hb9⟩
    have HP9 := Lib.hid (HPF.out.step hb9)
    clear hb9 g0 g1 g2
    go_wp2
    go_ret
    exact ⟨rfl, HP9.out⟩
set_option maxRecDepth 100000 in
set_option maxHeartbeats 2000000 in
theorem holds_box (A0 : Option Addr) (c0 : Nat) (nx : List Int) (A1 : Option Addr) (c1 : Nat) (mk : List Int) (gn r : Nat) (w : World) (hr0 : Kd.C (Kd.int .i64) w A0 nx.length nx) (hc0 : nx.length ≤ c0) (hr1 : Kd.C (Kd.int .i64) w A1 mk.length mk) (hc1 : mk.length ≤ c1) (hlen : nx.length = mk.length) (kb ko cp : Nat) (va : Value) (a : Fm) (m m1 : List (Int × Int)) (x : Int) (ok : Nat → Prop) (hn0 : w.cell? ⟨gn, 0, none⟩ = some (.int .u8 91)) (hn3 : w.cell? ⟨gn, 3, none⟩ = some (.slice (some ⟨kb, ko, none⟩) 1 cp)) (hka : w.cell? ⟨kb, ko, none⟩ = some va) (ha : Tree w ok a va) (hm : IsM (Value.int .u8) (Value.int .i64) w r m) (iha : HoldsC nx mk a m x m1) :
    Calls Tryd.prog 16 #[.agg #[.slice A0 nx.length c0, .slice A1 mk.length c1], .pointer (some ⟨gn, 0, none⟩), .map (some r)] w fun e w' => e = .returned (.int .i64 (boxTo nx x)) ∧ HP r m1 w w' := by
  have HM := Lib.hid hm
  have HRW := Lib.hid hm.lt
  have HA := Lib.hid ha
  have IA := Lib.hid iha
  clear hm ha iha
  have hu := Tryd.underlying32
  have hu2 := Tryd.underlying54
  have HR0 := Lib.hid hr0
  have HR1 := Lib.hid hr1
  have HLEN := Lib.hid hlen
  have hle := hr0.2.1
  clear hr0 hr1 hlen
  go_enter Tryd.func16, Tryd.ntmps16
  go_wp2_with (first | ((with_reducible refine gate_dst (N := 3) rfl ?_); refine box_event ?hg (N := 3) ?hd (cs := #[.slice A0 nx.length c0, .slice A1 mk.length c1]) (t := 32) ?hr ?_; (case hd => rfl); (case hg => rfl); (case hr => first | (go_simp; done) | (go_simp; rfl)); intro gw hgw wb hbw hbb; have k0_ := pw_cell_below hbb hn0; clear hn0; have hn0 := k0_; clear k0_; have k1_ := pw_cell_below hbb hn3; clear hn3; have hn3 := k1_; clear k1_; have k2_ := pw_cell_below hbb hka; clear hka; have hka := k2_; clear k2_; have HGW := Lib.hid hbw; have HBW := Lib.hid (below_step (Below.refl w.heap.size w) hbb); clear hgw hbw hbb) | ((with_reducible refine gate_dst (N := 4) rfl ?_); refine box_event ?hg (N := 4) ?hd (cs := #[.pointer (some ⟨gn, 0, none⟩)]) (t := 41) ?hr ?_; (case hd => rfl); (case hg => rfl); (case hr => first | (go_simp; done) | (go_simp; rfl)); intro gf hgf wc hbf hbb; have k0_ := pw_cell_below hbb hn0; clear hn0; have hn0 := k0_; clear k0_; have k1_ := pw_cell_below hbb hn3; clear hn3; have hn3 := k1_; clear k1_; have k2_ := pw_cell_below hbb hka; clear hka; have hka := k2_; clear k2_; have k0_ := Lib.hid (blk_below HGW.out hbb); have k1_ := Lib.hid (below_step HBW.out hbb); clear HGW HBW; have HGW := k0_; have HBW := k1_; clear k0_ k1_; have HGF := Lib.hid hbf; have hw0 : wc.cell? ⟨gw, 0, none⟩ = some (.slice A0 nx.length c0) := (blk_cell HGW.out 0).trans rfl; have hw1 : wc.cell? ⟨gw, 1, none⟩ = some (.slice A1 mk.length c1) := (blk_cell HGW.out 1).trans rfl; have hf0 : wc.cell? ⟨gf, 0, none⟩ = some (.pointer (some ⟨gn, 0, none⟩)) := (blk_cell HGF.out 0).trans rfl; clear hgf hbf hbb) | fail)
  go_wp2_with fail
  have HS := Lib.hid (show (fun w' => w'.cell? ⟨gw, 0, none⟩ = some (.slice A0 nx.length c0) ∧ w'.cell? ⟨gw, 1, none⟩ = some (.slice A1 mk.length c1) ∧ w'.cell? ⟨gf, 0, none⟩ = some (.pointer (some ⟨gn, 0, none⟩)) ∧ w'.cell? ⟨gn, 3, none⟩ = some (.slice (some ⟨kb, ko, none⟩) 1 cp) ∧ w'.cell? ⟨kb, ko, none⟩ = some va) wc.drew from ⟨by simpa using hw0, by simpa using hw1, by simpa using hf0, by simpa using hn3, by simpa using hka⟩)
  have HBD := Lib.hid (below_drew1 HBW.out)
  have HMD := Lib.hid (HP.of_below HM.out HBD.out)
  have hgwlt : gw < wc.drew.heap.size := blk_lt (blk_drew HGW.out)
  clear HGW hw0 hw1 hf0 hn3 hka
  have HGW := Lib.hid hgwlt
  clear hgwlt
  refine start_ (n := 11) (S := fun w' => w'.cell? ⟨gw, 0, none⟩ = some (.slice A0 nx.length c0) ∧ w'.cell? ⟨gw, 1, none⟩ = some (.slice A1 mk.length c1) ∧ w'.cell? ⟨gf, 0, none⟩ = some (.pointer (some ⟨gn, 0, none⟩)) ∧ w'.cell? ⟨gn, 3, none⟩ = some (.slice (some ⟨kb, ko, none⟩) 1 cp) ∧ w'.cell? ⟨kb, ko, none⟩ = some va) (ds := [10]) #[false, false, false, false, false, false, false, false, false, false, false] (by kernel_rfl) rfl rfl HS.out (fun hHeld => ?_)
  generalize wc.drew = wd at HS HBD HMD HGW hHeld ⊢
  have HC0 := Lib.hid (Cells.of_below HBD.out)
  refine take_ (i := 0) (N := (some 97)) (v := ?_) (a' := ?_) #[true, false, false, false, false, false, false, false, false, false, false] rfl rfl (by kernel_rfl) (fun _ _ _ h => h) (Or.inl ⟨by rfl, ?_⟩) hHeld ?_ ?_
  rotate_left
  · rintro w' ⟨s0, s1, s2, s3, s4⟩; go_simp; first | done | with_reducible rfl
  rotate_left
  · simp only [Act.put, List.setIfInBounds_toArray, List.set_cons_zero, List.set_cons_succ, i64_w, i32_w]; rfl
  refine take_ (i := 1) (N := (some 98)) (v := ?_) (a' := ?_) #[true, true, false, false, false, false, false, false, false, false, false] rfl rfl (by kernel_rfl) (fun _ _ _ h => h) (Or.inl ⟨by rfl, ?_⟩) hHeld ?_ ?_
  rotate_left
  · rintro w' ⟨s0, s1, s2, s3, s4⟩; go_simp; first | done | with_reducible rfl
  rotate_left
  · simp only [Act.put, List.setIfInBounds_toArray, List.set_cons_zero, List.set_cons_succ, i64_w, i32_w]; rfl
  refine pure_ (i := 2) (N := (some 99)) (v := ?_) (a' := ?_) #[true, true, true, false, false, false, false, false, false, false, false] rfl rfl (by kernel_rfl) (fun _ _ _ h => h) (Or.inl ⟨by rfl, ?_⟩) ?_ ?_
  rotate_left
  · intro w'; go_simp; first | done | with_reducible rfl
  rotate_left
  · simp only [Act.put, List.setIfInBounds_toArray, List.set_cons_zero, List.set_cons_succ, i64_w, i32_w]; rfl
  refine pure_ (i := 3) (N := (some 100)) (v := ?_) (a' := ?_) #[true, true, true, true, false, false, false, false, false, false, false] rfl rfl (by kernel_rfl) (fun _ _ _ h => h) (Or.inl ⟨by rfl, ?_⟩) ?_ ?_
  rotate_left
  · intro w'; go_simp; first | done | with_reducible rfl
  rotate_left
  · simp only [Act.put, List.setIfInBounds_toArray, List.set_cons_zero, List.set_cons_succ, i64_w, i32_w]; rfl
  refine take_ (i := 4) (N := (some 101)) (v := ?_) (a' := ?_) #[true, true, true, true, true, false, false, false, false, false, false] rfl rfl (by kernel_rfl) (fun _ _ _ h => h) (Or.inl ⟨by rfl, ?_⟩) hHeld ?_ ?_
  rotate_left
  · rintro w' ⟨s0, s1, s2, s3, s4⟩; go_simp; first | done | with_reducible rfl
  rotate_left
  · simp only [Act.put, List.setIfInBounds_toArray, List.set_cons_zero, List.set_cons_succ, i64_w, i32_w]; rfl
  refine pure_ (i := 5) (N := (some 102)) (v := ?_) (a' := ?_) #[true, true, true, true, true, true, false, false, false, false, false] rfl rfl (by kernel_rfl) (fun _ _ _ h => h) (Or.inl ⟨by rfl, ?_⟩) ?_ ?_
  rotate_left
  · intro w'; go_simp; first | done | with_reducible rfl
  rotate_left
  · simp only [Act.put, List.setIfInBounds_toArray, List.set_cons_zero, List.set_cons_succ, i64_w, i32_w]; rfl
  refine take_ (i := 6) (N := (some 103)) (v := ?_) (a' := ?_) #[true, true, true, true, true, true, true, false, false, false, false] rfl rfl (by kernel_rfl) (fun _ _ _ h => h) (Or.inl ⟨by rfl, ?_⟩) hHeld ?_ ?_
  rotate_left
  · rintro w' ⟨s0, s1, s2, s3, s4⟩; go_simp; first | done | with_reducible rfl
  rotate_left
  · simp only [Act.put, List.setIfInBounds_toArray, List.set_cons_zero, List.set_cons_succ, i64_w, i32_w]; rfl
  refine pure_ (i := 7) (N := (some 104)) (v := ?_) (a' := ?_) #[true, true, true, true, true, true, true, true, false, false, false] rfl rfl (by kernel_rfl) (fun _ _ _ h => h) (Or.inl ⟨by rfl, ?_⟩) ?_ ?_
  rotate_left
  · intro w'; go_simp; first | done | with_reducible rfl
  rotate_left
  · simp only [Act.put, List.setIfInBounds_toArray, List.set_cons_zero, List.set_cons_succ, i64_w, i32_w]; rfl
  refine two_ (i := 8) (j := 9) (Ni := (some 105)) (Nj := (some 8)) #[true, true, true, true, true, true, true, true, true, false, false] #[true, true, true, true, true, true, true, true, false, true, false] rfl rfl rfl rfl (by kernel_rfl) (by decide) (by decide) (fun K hK => ?_) (fun K hK => ?_)
  · skip
    refine goes_ Tryd.func16 (by kernel_rfl) rfl #[.agg #[.slice A0 nx.length c0, .slice A1 mk.length c1], va, .map (some r)] (by rfl) rfl rfl (by (try simp only [List.map_toArray, List.map_cons, List.map_nil]); first | done | rfl) ?_
    refine (IA.out A0 c0 A1 c1 ok va r wd (HC0.out.ints HR0.out) hc0 (HC0.out.ints HR1.out) hc1 (Tree.same HC0.out.same (fun _ _ h => h) _ _ HA.out) HMD.out.map).mono ?_
    rintro e w1 ⟨rfl, hp1⟩
    have HC1 := Lib.hid (hp1.cells HMD.out.map)
    have HP1 := Lib.hid (HMD.out.trans hp1)
    have hlt1 : wd.heap.size ≤ w1.heap.size := hp1.keep.1
    clear hp1
    refine ⟨_, rfl, ?_⟩
    refine hK.out _ _ ⟨HC1.out _ _ hHeld.1, HC1.out _ _ hHeld.2.1, HC1.out _ _ hHeld.2.2.1, HC1.out _ _ hHeld.2.2.2.1, HC1.out _ _ hHeld.2.2.2.2⟩ (fun hHeld => ?_)
    clear hK K
    refine norm_ (a' := ?_) ?_ ?_
    rotate_left
    · show Act.put _ (some 105) _ = _; simp only [Act.put, List.setIfInBounds_toArray, List.set_cons_zero, List.set_cons_succ, i64_w, i32_w]; rfl
    refine one_ (i := 9) (N := (some 8)) #[true, true, true, true, true, true, true, true, true, true, false] rfl rfl (by kernel_rfl) (by decide) (fun K hK => ?_)
    refine alloc_step (cs := #[.int .i64 0]) (t := 3) (by rfl) rfl (by go_simp) ?_
    intro ga hga w3 hba0 hba
    have hca : w3.cell? ⟨ga, 0, none⟩ = some (.int .i64 0) := (blk_cell hba0 0).trans rfl
    have hfa := blk_frozen hba0 0
    have HPL := Lib.hid (HP1.out.step hba)
    have GNE : gw ≠ ga ∧ w.heap.size ≤ ga := ⟨fun e => by have := HGW.out; omega, by have := HP1.out.keep.1; omega⟩
    have hS3 : (fun w' => w'.cell? ⟨gw, 0, none⟩ = some (.slice A0 nx.length c0) ∧ w'.cell? ⟨gw, 1, none⟩ = some (.slice A1 mk.length c1) ∧ w'.cell? ⟨gf, 0, none⟩ = some (.pointer (some ⟨gn, 0, none⟩)) ∧ w'.cell? ⟨gn, 3, none⟩ = some (.slice (some ⟨kb, ko, none⟩) 1 cp) ∧ w'.cell? ⟨kb, ko, none⟩ = some va) w3 := ⟨(Cells.of_below hba) _ _ hHeld.1, (Cells.of_below hba) _ _ hHeld.2.1, (Cells.of_below hba) _ _ hHeld.2.2.1, (Cells.of_below hba) _ _ hHeld.2.2.2.1, (Cells.of_below hba) _ _ hHeld.2.2.2.2⟩
    clear hba0 hba hga hlt1
    refine hK.out _ _ hS3 (fun hHeld => ?_)
    clear hK K
    refine norm_ (a' := ?_) ?_ ?_
    rotate_left
    · show Act.put _ (some 8) _ = _; simp only [Act.put, List.setIfInBounds_toArray, List.set_cons_zero, List.set_cons_succ, i64_w, i32_w]; rfl
    have HGN := Lib.hid GNE
    clear GNE
    refine last_ (i := 10) (N := none) #[true, true, true, true, true, true, true, true, true, true, true] rfl rfl (by kernel_rfl) (by decide) (fun K hK => ?_)
    refine skip_step (w1 := w3.setCell ⟨ga, 0, none⟩ (.int .i64 x)) (by rfl) (by go_simp) ?_
    refine hK.out _ _ ?_
    clear hK K
    refine norm_ (a' := ?_) ?_ ?_
    rotate_left
    · show Act.put _ none _ = _; simp only [Act.put, List.setIfInBounds_toArray, List.set_cons_zero, List.set_cons_succ, i64_w, i32_w]; rfl
    refine done_ (by kernel_rfl) ?_
    have g0 : (w3.setCell ⟨ga, 0, none⟩ (.int .i64 x)).cell? ⟨gw, 0, none⟩ = some (.slice A0 nx.length c0) := (cell_set_other _ (show gw ≠ ga from HGN.out.1)).trans hHeld.1
    have g1 : (w3.setCell ⟨ga, 0, none⟩ (.int .i64 x)).cell? ⟨gw, 1, none⟩ = some (.slice A1 mk.length c1) := (cell_set_other _ (show gw ≠ ga from HGN.out.1)).trans hHeld.2.1
    have g2 : (w3.setCell ⟨ga, 0, none⟩ (.int .i64 x)).cell? ⟨ga, 0, none⟩ = some (.int .i64 x) := cell_set_self _ hca
    have HPF := Lib.hid (HPL.out.set (b := ga) (i := 0) (.int .i64 x) HGN.out.2 HRW.out)
    have HCF := Lib.hid (HPF.out.cells HM.out)
    clear hca hfa hHeld
    have EG := Lib.hid (enters_of' Tryd.func29 (by kernel_rfl) rfl)
    go_wp2_with fail
    refine (where_calls 29 _ EG.out (fun s => bits .andNot .i64 (rd nx s) x == 0) A0 nx.length c0 A1 mk.length c1 _ hle (pred_h4 _ gw ga A0 c0 nx x (HCF.out.ints HR0.out) g0 g2)).mono ?_
    rintro e w9 ⟨rfl, hb9⟩
    have HP9 := Lib.hid (HPF.out.step hb9)
    clear hb9 g0 g1 g2
    go_wp2
    go_ret
    exact ⟨rfl, HP9.out⟩
  · skip
    refine alloc_step (cs := #[.int .i64 0]) (t := 3) (by rfl) rfl (by go_simp) ?_
    intro ga hga w3 hba0 hba
    have hca : w3.cell? ⟨ga, 0, none⟩ = some (.int .i64 0) := (blk_cell hba0 0).trans rfl
    have HMD2 := Lib.hid (HMD.out.step hba)
    have HC3 := Lib.hid ((HC0.out).trans (Cells.of_below hba))
    have GNE : gw ≠ ga ∧ w.heap.size ≤ ga := ⟨fun e => by have := HGW.out; omega, by have := HMD.out.keep.1; omega⟩
    have hS3 : (fun w' => w'.cell? ⟨gw, 0, none⟩ = some (.slice A0 nx.length c0) ∧ w'.cell? ⟨gw, 1, none⟩ = some (.slice A1 mk.length c1) ∧ w'.cell? ⟨gf, 0, none⟩ = some (.pointer (some ⟨gn, 0, none⟩)) ∧ w'.cell? ⟨gn, 3, none⟩ = some (.slice (some ⟨kb, ko, none⟩) 1 cp) ∧ w'.cell? ⟨kb, ko, none⟩ = some va) w3 := ⟨(Cells.of_below hba) _ _ hHeld.1, (Cells.of_below hba) _ _ hHeld.2.1, (Cells.of_below hba) _ _ hHeld.2.2.1, (Cells.of_below hba) _ _ hHeld.2.2.2.1, (Cells.of_below hba) _ _ hHeld.2.2.2.2⟩
    have HBA := Lib.hid hba0
    clear hba0 hba hga
    refine hK.out _ _ hS3 (fun hHeld => ?_)
    clear hK K
    refine norm_ (a' := ?_) ?_ ?_
    rotate_left
    · show Act.put _ (some 8) _ = _; simp only [Act.put, List.setIfInBounds_toArray, List.set_cons_zero, List.set_cons_succ, i64_w, i32_w]; rfl
    refine one_ (i := 8) (N := (some 105)) #[true, true, true, true, true, true, true, true, true, true, false] rfl rfl (by kernel_rfl) (by decide) (fun K hK => ?_)
    refine goes_ Tryd.func16 (by kernel_rfl) rfl #[.agg #[.slice A0 nx.length c0, .slice A1 mk.length c1], va, .map (some r)] (by rfl) rfl rfl (by (try simp only [List.map_toArray, List.map_cons, List.map_nil]); first | done | rfl) ?_
    refine (IA.out A0 c0 A1 c1 ok va r w3 (HC3.out.ints HR0.out) hc0 (HC3.out.ints HR1.out) hc1 (Tree.same HC3.out.same (fun _ _ h => h) _ _ HA.out) HMD2.out.map).mono ?_
    rintro e w1 ⟨rfl, hp1⟩
    have HC1 := Lib.hid (hp1.cells HMD2.out.map)
    have HPL := Lib.hid (HMD2.out.trans hp1)
    have hba1 : w1.heap[ga]? = some (.cells #[.int .i64 0] 3 (0, 0)) := hp1.keep.blk HBA.out (fun e => by have := HRW.out; have := GNE.2; omega) (by simp)
    have hca1 := HC1.out _ _ hca
    clear hca
    have hca := hca1
    have hfa := blk_frozen hba1 0
    clear hp1 hca1 hba1
    refine ⟨_, rfl, ?_⟩
    refine hK.out _ _ ⟨HC1.out _ _ hHeld.1, HC1.out _ _ hHeld.2.1, HC1.out _ _ hHeld.2.2.1, HC1.out _ _ hHeld.2.2.2.1, HC1.out _ _ hHeld.2.2.2.2⟩ (fun hHeld => ?_)
    clear hK K
    refine norm_ (a' := ?_) ?_ ?_
    rotate_left
    · show Act.put _ (some 105) _ = _; simp only [Act.put, List.setIfInBounds_toArray, List.set_cons_zero, List.set_cons_succ, i64_w, i32_w]; rfl
    have HGN := Lib.hid GNE
    clear GNE
    refine last_ (i := 10) (N := none) #[true, true, true, true, true, true, true, true, true, true, true] rfl rfl (by kernel_rfl) (by decide) (fun K hK => ?_)
    refine skip_step (w1 := w1.setCell ⟨ga, 0, none⟩ (.int .i64 x)) (by rfl) (by go_simp) ?_
    refine hK.out _ _ ?_
    clear hK K
    refine norm_ (a' := ?_) ?_ ?_
    rotate_left
    · show Act.put _ none _ = _; simp only [Act.put, List.setIfInBounds_toArray, List.set_cons_zero, List.set_cons_succ, i64_w, i32_w]; rfl
    refine done_ (by kernel_rfl) ?_
    have g0 : (w1.setCell ⟨ga, 0, none⟩ (.int .i64 x)).cell? ⟨gw, 0, none⟩ = some (.slice A0 nx.length c0) := (cell_set_other _ (show gw ≠ ga from HGN.out.1)).trans hHeld.1
    have g1 : (w1.setCell ⟨ga, 0, none⟩ (.int .i64 x)).cell? ⟨gw, 1, none⟩ = some (.slice A1 mk.length c1) := (cell_set_other _ (show gw ≠ ga from HGN.out.1)).trans hHeld.2.1
    have g2 : (w1.setCell ⟨ga, 0, none⟩ (.int .i64 x)).cell? ⟨ga, 0, none⟩ = some (.int .i64 x) := cell_set_self _ hca
    have HPF := Lib.hid (HPL.out.set (b := ga) (i := 0) (.int .i64 x) HGN.out.2 HRW.out)
    have HCF := Lib.hid (HPF.out.cells HM.out)
    clear hca hfa hHeld
    have EG := Lib.hid (enters_of' Tryd.func29 (by kernel_rfl) rfl)
    go_wp2_with fail
    refine (where_calls 29 _ EG.out (fun s => bits .andNot .i64 (rd nx s) x == 0) A0 nx.length c0 A1 mk.length c1 _ hle (pred_h4 _ gw ga A0 c0 nx x (HCF.out.ints HR0.out) g0 g2)).mono ?_
    rintro e w9 ⟨rfl, hb9⟩
    have HP9 := Lib.hid (HPF.out.step hb9)
    clear hb9 g0 g1 g2
    go_wp2
    go_ret
    exact ⟨rfl, HP9.out⟩
end Go.Proofs.YtjffhhalmicodaaDoor.X
end
end

section
section
set_option linter.unusedVariables false
set_option linter.unusedSimpArgs false
namespace Go.Proofs.YtjffhhalmicodaaDoor.X
open Go.RowKit Go.Proofs.YtjffhhalmicodaaDoorW.PrintWords Go.Proofs.YtjffhhalmicodaaDoorW.PrintLast Go.Proofs.YtjffhhalmicodaaDoorW.PrintMore
mutual
def holdF (nx mk : List Int) : Nat → Fm → List (Int × Int) → Option (Int × List (Int × Int))
  | 0, _, _ => none
  | k + 1, .mark neg j, m => some (whereTo (fun s => markOf mk j s == if neg = true then 0 else 1) nx.length, m)
  | k + 1, .con c, m => if c = 116 then some (allOf nx, m) else if c = 102 then some (0, m) else none
  | k + 1, .var c, m => some ((findL m (c : Int)).getD 0, m)
  | k + 1, .two c a b, m => if c = 38 ∨ c = 124 then (holdF nx mk k a m).bind fun p => (holdF nx mk k b p.2).bind fun q => some (if c = 38 then bits .and .i64 p.1 q.1 else bits .or .i64 p.1 q.1, q.2) else none
  | k + 1, .one c a, m => if c = 60 ∨ c = 91 then (holdF nx mk k a m).bind fun p => some (if c = 60 then stepTo nx p.1 else boxTo nx p.1, p.2) else none
  | k + 1, .fix c x a, m => if c = 109 ∨ c = 103 then (loopF nx mk k x a (if c = 103 then allOf nx else 0) 0 m).bind fun p => some (p.1, p.2.2) else none
def loopF (nx mk : List Int) : Nat → Nat → Fm → Int → Int → List (Int × Int) → Option (Int × Int × List (Int × Int))
  | 0, _, _, _, _, _ => none
  | k + 1, x, a, set, cnt, m => (holdF nx mk k a (putL m (x : Int) set)).bind fun p => if p.1 = set then some (set, wrap64 (cnt + 1), p.2) else loopF nx mk k x a p.1 (wrap64 (cnt + 1)) p.2
end
set_option maxRecDepth 100000 in
set_option maxHeartbeats 2000000 in
theorem fix_g (A0 : Option Addr) (c0 : Nat) (nx : List Int) (A1 : Option Addr) (c1 : Nat) (mk : List Int) (gn r : Nat) (w : World) (hr0 : Kd.C (Kd.int .i64) w A0 nx.length nx) (hc0 : nx.length ≤ c0) (hr1 : Kd.C (Kd.int .i64) w A1 mk.length mk) (hc1 : mk.length ≤ c1) (hlen : nx.length = mk.length) (kb ko cp : Nat) (va : Value) (x : Nat) (a : Fm) (k : Nat) (m m1 : List (Int × Int)) (set cnt : Int) (ok : Nat → Prop) (hn0 : w.cell? ⟨gn, 0, none⟩ = some (.int .u8 103)) (hn2 : w.cell? ⟨gn, 2, none⟩ = some (.int .u8 x)) (hn3 : w.cell? ⟨gn, 3, none⟩ = some (.slice (some ⟨kb, ko, none⟩) 1 cp)) (hka : w.cell? ⟨kb, ko, none⟩ = some va) (ha : Tree w ok a va) (hm : IsM (Value.int .u8) (Value.int .i64) w r m) (ih : ∀ j, j < k → ∀ m res m', holdF nx mk j a m = some (res, m') → HoldsC nx mk a m res m') (hf : loopF nx mk k x a (allOf nx) 0 m = some (set, cnt, m1)) :
    Calls Tryd.prog 30 #[.agg #[.slice A0 nx.length c0, .slice A1 mk.length c1], .pointer (some ⟨gn, 0, none⟩), .map (some r)] w fun e w' => e = .returned (.tuple #[.int .i64 set, .int .i64 cnt]) ∧ HP r m1 w w' := by
  have HM := Lib.hid hm
  have HA := Lib.hid ha
  have IH := Lib.hid ih
  have HF := Lib.hid hf
  clear hm ha ih hf
  have hu := Tryd.underlying32
  have hu2 := Tryd.underlying54
  have HR0 := Lib.hid hr0
  have HR1 := Lib.hid hr1
  have HLEN := Lib.hid hlen
  have hle := hr0.2.1
  clear hr0 hr1 hlen
  go_enter Tryd.func30, Tryd.ntmps30
  go_wp2_with (first | ((with_reducible refine gate_dst (N := 3) rfl ?_); refine box_event ?hg (N := 3) ?hd (cs := #[.slice A0 nx.length c0, .slice A1 mk.length c1]) (t := 32) ?hr ?_; (case hd => rfl); (case hg => rfl); (case hr => first | (go_simp; done) | (go_simp; rfl)); intro gw hgw wb hbw hbb; have k0_ := pw_cell_below hbb hn0; have k1_ := pw_cell_below hbb hn2; have k2_ := pw_cell_below hbb hn3; have k3_ := pw_cell_below hbb hka; clear hn0 hn2 hn3 hka; have hn0 := k0_; have hn2 := k1_; have hn3 := k2_; have hka := k3_; clear k0_ k1_ k2_ k3_; have HBW := Lib.hid (below_step (Below.refl w.heap.size w) hbb); have hw0 : wb.cell? ⟨gw, 0, none⟩ = some (.slice A0 nx.length c0) := (blk_cell hbw 0).trans rfl; have hw1 : wb.cell? ⟨gw, 1, none⟩ = some (.slice A1 mk.length c1) := (blk_cell hbw 1).trans rfl; clear hgw hbb hbw) | fail)
  refine (PA.fixes_Works_all.calls A0 c0 nx A1 c1 mk (allOf nx) _ (Kd.C_below HR0.out HBW.out) hc0 (Kd.C_below HR1.out HBW.out) hc1 rfl).mono ?_
  rintro e wa ⟨rfl, hba⟩
  have HBA := Lib.hid (below_step HBW.out hba)
  have hw0a := pw_cell_below hba hw0
  have hw1a := pw_cell_below hba hw1
  have hn2a := pw_cell_below hba hn2
  have hn3a := pw_cell_below hba hn3
  have hkaa := pw_cell_below hba hka
  clear hba hw0 hw1 hn0 hn2 hn3 hka HBW
  go_wp2_with fail
  go_loopg [6, 7] k (fun kq v6 v7 wr => ∃ (s c : Int) (mm : List (Int × Int)), v6 = .int .i64 s ∧ v7 = .int .i64 c ∧ Hid (kq ≤ k) ∧ Hid (loopF nx mk kq x a s c mm = some (set, cnt, m1)) ∧ Hid (HP r mm w wr) ∧ wr.cell? ⟨gw, 0, none⟩ = some (.slice A0 nx.length c0) ∧ wr.cell? ⟨gw, 1, none⟩ = some (.slice A1 mk.length c1) ∧ wr.cell? ⟨gn, 2, none⟩ = some (.int .u8 x) ∧ wr.cell? ⟨gn, 3, none⟩ = some (.slice (some ⟨kb, ko, none⟩) 1 cp) ∧ wr.cell? ⟨kb, ko, none⟩ = some va)
  case atStart => exact ⟨_, _, m, rfl, rfl, Nat.le_refl _, HF.out, HP.of_below HM.out HBA.out, hw0a, hw1a, hn2a, hn3a, hkaa⟩
  case round =>
    clear hw0a hw1a hn2a hn3a hkaa HBA HF
    obtain ⟨s, c, mm, rfl, rfl, HK, HF, HPW, hw0, hw1, hn2, hn3, hka⟩ := hrel
    cases gk with
    | zero => exact absurd HF.out (by simp [loopF])
    | succ kq =>
      have hf := HF.out
      simp only [loopF] at hf
      obtain ⟨p, hp, hf⟩ := Option.bind_eq_some_iff.mp hf
      have HPP := Lib.hid hp
      have HF1 := Lib.hid hf
      clear hp hf HF
      have hcm := HPW.out.cells HM.out
      have HCM := Lib.hid hcm
      clear hcm
      go_wp2_with (first | ((with_reducible refine gate_op (op := .mapUpdate 46 (.tmp 16) (.tmp 20) (.tmp 21)) rfl ?_); refine map_put_event rfl 46 (.tmp 16) (.tmp 20) (.tmp 21) (Or.inr rfl) Tryd.underlying46 (keyOk_int Tryd.underlying5) (enc := Value.int .u8) (encv := Value.int .i64) (x : Int) s rfl rfl rfl HPW.out.map ?_; intro wm hmm hkm hlm; have n0_ := Lib.hid (HPW.out.trans (HP.mk hmm hkm hlm)); have k0_ := (HP.mk hmm hkm hlm).cells HPW.out.map; have j0_ := k0_ _ _ hw0; have j1_ := k0_ _ _ hw1; have j2_ := k0_ _ _ hn2; have j3_ := k0_ _ _ hn3; have j4_ := k0_ _ _ hka; have HC1 := Lib.hid (HCM.out.trans k0_); clear hmm hkm hlm k0_ HPW hw0 hw1 hn2 hn3 hka HCM; have HPW := n0_; have hw0 := j0_; have hw1 := j1_; have hn2 := j2_; have hn3 := j3_; have hka := j4_; clear n0_ j0_ j1_ j2_ j3_ j4_) | fail)
      have HS := Lib.hid (show (fun w' => w'.cell? ⟨gw, 0, none⟩ = some (.slice A0 nx.length c0) ∧ w'.cell? ⟨gw, 1, none⟩ = some (.slice A1 mk.length c1) ∧ w'.cell? ⟨gn, 3, none⟩ = some (.slice (some ⟨kb, ko, none⟩) 1 cp) ∧ w'.cell? ⟨kb, ko, none⟩ = some va) wm.drew from ⟨by simpa using hw0, by simpa using hw1, by simpa using hn3, by simpa using hka⟩)
      have HPD := Lib.hid (HPW.out.step (below_drew1 (Below.refl wm.heap.size wm)))
      have HCD := Lib.hid (HC1.out.trans (Cells.of_below (below_drew1 (Below.refl wm.heap.size wm))))
      have HN2 := Lib.hid (show wm.drew.cell? ⟨gn, 2, none⟩ = some (.int .u8 x) by simpa using hn2)
      clear hw0 hw1 hn2 hn3 hka HC1 HPW
      refine start_ (n := 10) (S := fun w' => w'.cell? ⟨gw, 0, none⟩ = some (.slice A0 nx.length c0) ∧ w'.cell? ⟨gw, 1, none⟩ = some (.slice A1 mk.length c1) ∧ w'.cell? ⟨gn, 3, none⟩ = some (.slice (some ⟨kb, ko, none⟩) 1 cp) ∧ w'.cell? ⟨kb, ko, none⟩ = some va) (ds := []) #[false, false, false, false, false, false, false, false, false, false] (by kernel_rfl) rfl rfl HS.out (fun hHeld => ?_)
      generalize wm.drew = wd at HS HPD HCD HN2 hHeld ⊢
      refine take_ (i := 0) (N := (some 22)) (v := ?_) (a' := ?_) #[true, false, false, false, false, false, false, false, false, false] rfl rfl (by kernel_rfl) (fun _ _ _ h => h) (Or.inl ⟨by rfl, ?_⟩) hHeld ?_ ?_
      rotate_left
      · rintro w' ⟨s0, s1, s2, s3⟩; go_simp; first | done | with_reducible rfl
      rotate_left
      · simp only [Act.put, List.setIfInBounds_toArray, List.set_cons_zero, List.set_cons_succ, i64_w, i32_w]; rfl
      refine pure_ (i := 1) (N := (some 23)) (v := ?_) (a' := ?_) #[true, true, false, false, false, false, false, false, false, false] rfl rfl (by kernel_rfl) (fun _ _ _ h => h) (Or.inl ⟨by rfl, ?_⟩) ?_ ?_
      rotate_left
      · intro w'; go_simp; first | done | with_reducible rfl
      rotate_left
      · simp only [Act.put, List.setIfInBounds_toArray, List.set_cons_zero, List.set_cons_succ, i64_w, i32_w]; rfl
      refine pure_ (i := 2) (N := (some 24)) (v := ?_) (a' := ?_) #[true, true, true, false, false, false, false, false, false, false] rfl rfl (by kernel_rfl) (fun _ _ _ h => h) (Or.inl ⟨by rfl, ?_⟩) ?_ ?_
      rotate_left
      · intro w'; go_simp; first | done | with_reducible rfl
      rotate_left
      · simp only [Act.put, List.setIfInBounds_toArray, List.set_cons_zero, List.set_cons_succ, i64_w, i32_w]; rfl
      refine pure_ (i := 3) (N := (some 25)) (v := ?_) (a' := ?_) #[true, true, true, true, false, false, false, false, false, false] rfl rfl (by kernel_rfl) (fun _ _ _ h => h) (Or.inl ⟨by rfl, ?_⟩) ?_ ?_
      rotate_left
      · intro w'; go_simp; first | done | with_reducible rfl
      rotate_left
      · simp only [Act.put, List.setIfInBounds_toArray, List.set_cons_zero, List.set_cons_succ, i64_w, i32_w]; rfl
      refine take_ (i := 4) (N := (some 26)) (v := ?_) (a' := ?_) #[true, true, true, true, true, false, false, false, false, false] rfl rfl (by kernel_rfl) (fun _ _ _ h => h) (Or.inl ⟨by rfl, ?_⟩) hHeld ?_ ?_
      rotate_left
      · rintro w' ⟨s0, s1, s2, s3⟩; go_simp; first | done | with_reducible rfl
      rotate_left
      · simp only [Act.put, List.setIfInBounds_toArray, List.set_cons_zero, List.set_cons_succ, i64_w, i32_w]; rfl
      refine pure_ (i := 5) (N := (some 27)) (v := ?_) (a' := ?_) #[true, true, true, true, true, true, false, false, false, false] rfl rfl (by kernel_rfl) (fun _ _ _ h => h) (Or.inl ⟨by rfl, ?_⟩) ?_ ?_
      rotate_left
      · intro w'; go_simp; first | done | with_reducible rfl
      rotate_left
      · simp only [Act.put, List.setIfInBounds_toArray, List.set_cons_zero, List.set_cons_succ, i64_w, i32_w]; rfl
      refine take_ (i := 6) (N := (some 28)) (v := ?_) (a' := ?_) #[true, true, true, true, true, true, true, false, false, false] rfl rfl (by kernel_rfl) (fun _ _ _ h => h) (Or.inl ⟨by rfl, ?_⟩) hHeld ?_ ?_
      rotate_left
      · rintro w' ⟨s0, s1, s2, s3⟩; go_simp; first | done | with_reducible rfl
      rotate_left
      · simp only [Act.put, List.setIfInBounds_toArray, List.set_cons_zero, List.set_cons_succ, i64_w, i32_w]; rfl
      refine pure_ (i := 7) (N := (some 29)) (v := ?_) (a' := ?_) #[true, true, true, true, true, true, true, true, false, false] rfl rfl (by kernel_rfl) (fun _ _ _ h => h) (Or.inl ⟨by rfl, ?_⟩) ?_ ?_
      rotate_left
      · intro w'; go_simp; first | done | with_reducible rfl
      rotate_left
      · simp only [Act.put, List.setIfInBounds_toArray, List.set_cons_zero, List.set_cons_succ, i64_w, i32_w]; rfl
      refine one_ (i := 8) (N := (some 30)) #[true, true, true, true, true, true, true, true, true, false] rfl rfl (by kernel_rfl) (by decide) (fun K hK => ?_)
      refine goes_ Tryd.func16 (by kernel_rfl) rfl #[.agg #[.slice A0 nx.length c0, .slice A1 mk.length c1], va, .map (some r)] (by rfl) rfl rfl (by (try simp only [List.map_toArray, List.map_cons, List.map_nil]); first | done | rfl) ?_
      refine (IH.out kq (by have := HK.out; omega) _ _ _ HPP.out A0 c0 A1 c1 ok va r wd (HCD.out.ints HR0.out) hc0 (HCD.out.ints HR1.out) hc1 (Tree.same HCD.out.same (fun _ _ h => h) _ _ HA.out) HPD.out.map).mono ?_
      rintro e w1 ⟨rfl, hp1⟩
      have hC1 := hp1.cells HPD.out.map
      have HP1 := Lib.hid (HPD.out.trans hp1)
      have hw0 := hC1 _ _ HS.out.1
      have hw1 := hC1 _ _ HS.out.2.1
      have hn3 := hC1 _ _ HS.out.2.2.1
      have hka := hC1 _ _ HS.out.2.2.2
      have hn2 := hC1 _ _ HN2.out
      clear hp1 hC1
      refine ⟨_, rfl, ?_⟩
      refine hK.out _ _ ⟨hw0, hw1, hn3, hka⟩ (fun hHeld => ?_)
      clear hK K
      refine norm_ (a' := ?_) ?_ ?_
      rotate_left
      · show Act.put _ (some 30) _ = _; simp only [Act.put, List.setIfInBounds_toArray, List.set_cons_zero, List.set_cons_succ, i64_w, i32_w]; rfl
      refine pure_ (i := 9) (N := (some 8)) (v := ?_) (a' := ?_) #[true, true, true, true, true, true, true, true, true, true] rfl rfl (by kernel_rfl) (fun _ _ _ h => h) (Or.inl ⟨by rfl, ?_⟩) ?_ ?_
      rotate_left
      · intro w'; go_simp; first | done | with_reducible rfl
      rotate_left
      · simp only [Act.put, List.setIfInBounds_toArray, List.set_cons_zero, List.set_cons_succ, i64_w, i32_w]; rfl
      refine done_ (by kernel_rfl) ?_
      clear hHeld
      by_cases he : p.1 = s
      · have e1 : (p.1 == s) = true := beq_iff_eq.2 he
        have HE := Lib.hid he
        clear he
        go_wp2
        go_ret2
        have hf := HF1.out
        rw [if_pos HE.out] at hf
        simp only [Option.some.injEq, Prod.mk.injEq] at hf
        obtain ⟨h1, h2, h3⟩ := hf
        exact ⟨by rw [h1, h2]; rfl, h3 ▸ HP1.out⟩
      · have e1 : (p.1 == s) = false := beq_eq_false_iff_ne.2 he
        have HE := Lib.hid he
        clear he
        go_wp2
        go_roundg kq
        case measure => omega
        case rel =>
          have hf := HF1.out
          rw [if_neg HE.out] at hf
          exact ⟨_, _, _, rfl, rfl, by have := HK.out; exact (by omega : kq ≤ k), hf, HP1.out, hw0, hw1, hn2, hn3, hka⟩
set_option maxRecDepth 100000 in
set_option maxHeartbeats 2000000 in
theorem fix_m (A0 : Option Addr) (c0 : Nat) (nx : List Int) (A1 : Option Addr) (c1 : Nat) (mk : List Int) (gn r : Nat) (w : World) (hr0 : Kd.C (Kd.int .i64) w A0 nx.length nx) (hc0 : nx.length ≤ c0) (hr1 : Kd.C (Kd.int .i64) w A1 mk.length mk) (hc1 : mk.length ≤ c1) (hlen : nx.length = mk.length) (kb ko cp : Nat) (va : Value) (x : Nat) (a : Fm) (k : Nat) (m m1 : List (Int × Int)) (set cnt : Int) (ok : Nat → Prop) (hn0 : w.cell? ⟨gn, 0, none⟩ = some (.int .u8 109)) (hn2 : w.cell? ⟨gn, 2, none⟩ = some (.int .u8 x)) (hn3 : w.cell? ⟨gn, 3, none⟩ = some (.slice (some ⟨kb, ko, none⟩) 1 cp)) (hka : w.cell? ⟨kb, ko, none⟩ = some va) (ha : Tree w ok a va) (hm : IsM (Value.int .u8) (Value.int .i64) w r m) (ih : ∀ j, j < k → ∀ m res m', holdF nx mk j a m = some (res, m') → HoldsC nx mk a m res m') (hf : loopF nx mk k x a 0 0 m = some (set, cnt, m1)) :
    Calls Tryd.prog 30 #[.agg #[.slice A0 nx.length c0, .slice A1 mk.length c1], .pointer (some ⟨gn, 0, none⟩), .map (some r)] w fun e w' => e = .returned (.tuple #[.int .i64 set, .int .i64 cnt]) ∧ HP r m1 w w' := by
  have HM := Lib.hid hm
  have HA := Lib.hid ha
  have IH := Lib.hid ih
  have HF := Lib.hid hf
  clear hm ha ih hf
  have hu := Tryd.underlying32
  have hu2 := Tryd.underlying54
  have HR0 := Lib.hid hr0
  have HR1 := Lib.hid hr1
  have HLEN := Lib.hid hlen
  have hle := hr0.2.1
  clear hr0 hr1 hlen
  go_enter Tryd.func30, Tryd.ntmps30
  go_wp2_with (first | ((with_reducible refine gate_dst (N := 3) rfl ?_); refine box_event ?hg (N := 3) ?hd (cs := #[.slice A0 nx.length c0, .slice A1 mk.length c1]) (t := 32) ?hr ?_; (case hd => rfl); (case hg => rfl); (case hr => first | (go_simp; done) | (go_simp; rfl)); intro gw hgw wb hbw hbb; have k0_ := pw_cell_below hbb hn0; have k1_ := pw_cell_below hbb hn2; have k2_ := pw_cell_below hbb hn3; have k3_ := pw_cell_below hbb hka; clear hn0 hn2 hn3 hka; have hn0 := k0_; have hn2 := k1_; have hn3 := k2_; have hka := k3_; clear k0_ k1_ k2_ k3_; have HBW := Lib.hid (below_step (Below.refl w.heap.size w) hbb); have hw0 : wb.cell? ⟨gw, 0, none⟩ = some (.slice A0 nx.length c0) := (blk_cell hbw 0).trans rfl; have hw1 : wb.cell? ⟨gw, 1, none⟩ = some (.slice A1 mk.length c1) := (blk_cell hbw 1).trans rfl; clear hgw hbb hbw) | fail)
  have HBA := HBW
  have hw0a := hw0
  have hw1a := hw1
  have hn2a := hn2
  have hn3a := hn3
  have hkaa := hka
  generalize wb = wa at HBA hw0a hw1a hn2a hn3a hkaa ⊢
  clear hw0 hw1 hn0 hn2 hn3 hka HBW
  go_loopg [6, 7] k (fun kq v6 v7 wr => ∃ (s c : Int) (mm : List (Int × Int)), v6 = .int .i64 s ∧ v7 = .int .i64 c ∧ Hid (kq ≤ k) ∧ Hid (loopF nx mk kq x a s c mm = some (set, cnt, m1)) ∧ Hid (HP r mm w wr) ∧ wr.cell? ⟨gw, 0, none⟩ = some (.slice A0 nx.length c0) ∧ wr.cell? ⟨gw, 1, none⟩ = some (.slice A1 mk.length c1) ∧ wr.cell? ⟨gn, 2, none⟩ = some (.int .u8 x) ∧ wr.cell? ⟨gn, 3, none⟩ = some (.slice (some ⟨kb, ko, none⟩) 1 cp) ∧ wr.cell? ⟨kb, ko, none⟩ = some va)
  case atStart => exact ⟨_, _, m, rfl, rfl, Nat.le_refl _, HF.out, HP.of_below HM.out HBA.out, hw0a, hw1a, hn2a, hn3a, hkaa⟩
  case round =>
    clear hw0a hw1a hn2a hn3a hkaa HBA HF
    obtain ⟨s, c, mm, rfl, rfl, HK, HF, HPW, hw0, hw1, hn2, hn3, hka⟩ := hrel
    cases gk with
    | zero => exact absurd HF.out (by simp [loopF])
    | succ kq =>
      have hf := HF.out
      simp only [loopF] at hf
      obtain ⟨p, hp, hf⟩ := Option.bind_eq_some_iff.mp hf
      have HPP := Lib.hid hp
      have HF1 := Lib.hid hf
      clear hp hf HF
      have hcm := HPW.out.cells HM.out
      have HCM := Lib.hid hcm
      clear hcm
      go_wp2_with (first | ((with_reducible refine gate_op (op := .mapUpdate 46 (.tmp 16) (.tmp 20) (.tmp 21)) rfl ?_); refine map_put_event rfl 46 (.tmp 16) (.tmp 20) (.tmp 21) (Or.inr rfl) Tryd.underlying46 (keyOk_int Tryd.underlying5) (enc := Value.int .u8) (encv := Value.int .i64) (x : Int) s rfl rfl rfl HPW.out.map ?_; intro wm hmm hkm hlm; have n0_ := Lib.hid (HPW.out.trans (HP.mk hmm hkm hlm)); have k0_ := (HP.mk hmm hkm hlm).cells HPW.out.map; have j0_ := k0_ _ _ hw0; have j1_ := k0_ _ _ hw1; have j2_ := k0_ _ _ hn2; have j3_ := k0_ _ _ hn3; have j4_ := k0_ _ _ hka; have HC1 := Lib.hid (HCM.out.trans k0_); clear hmm hkm hlm k0_ HPW hw0 hw1 hn2 hn3 hka HCM; have HPW := n0_; have hw0 := j0_; have hw1 := j1_; have hn2 := j2_; have hn3 := j3_; have hka := j4_; clear n0_ j0_ j1_ j2_ j3_ j4_) | fail)
      have HS := Lib.hid (show (fun w' => w'.cell? ⟨gw, 0, none⟩ = some (.slice A0 nx.length c0) ∧ w'.cell? ⟨gw, 1, none⟩ = some (.slice A1 mk.length c1) ∧ w'.cell? ⟨gn, 3, none⟩ = some (.slice (some ⟨kb, ko, none⟩) 1 cp) ∧ w'.cell? ⟨kb, ko, none⟩ = some va) wm.drew from ⟨by simpa using hw0, by simpa using hw1, by simpa using hn3, by simpa using hka⟩)
      have HPD := Lib.hid (HPW.out.step (below_drew1 (Below.refl wm.heap.size wm)))
      have HCD := Lib.hid (HC1.out.trans (Cells.of_below (below_drew1 (Below.refl wm.heap.size wm))))
      have HN2 := Lib.hid (show wm.drew.cell? ⟨gn, 2, none⟩ = some (.int .u8 x) by simpa using hn2)
      clear hw0 hw1 hn2 hn3 hka HC1 HPW
      refine start_ (n := 10) (S := fun w' => w'.cell? ⟨gw, 0, none⟩ = some (.slice A0 nx.length c0) ∧ w'.cell? ⟨gw, 1, none⟩ = some (.slice A1 mk.length c1) ∧ w'.cell? ⟨gn, 3, none⟩ = some (.slice (some ⟨kb, ko, none⟩) 1 cp) ∧ w'.cell? ⟨kb, ko, none⟩ = some va) (ds := []) #[false, false, false, false, false, false, false, false, false, false] (by kernel_rfl) rfl rfl HS.out (fun hHeld => ?_)
      generalize wm.drew = wd at HS HPD HCD HN2 hHeld ⊢
      refine take_ (i := 0) (N := (some 22)) (v := ?_) (a' := ?_) #[true, false, false, false, false, false, false, false, false, false] rfl rfl (by kernel_rfl) (fun _ _ _ h => h) (Or.inl ⟨by rfl, ?_⟩) hHeld ?_ ?_
      rotate_left
      · rintro w' ⟨s0, s1, s2, s3⟩; go_simp; first | done | with_reducible rfl
      rotate_left
      · simp only [Act.put, List.setIfInBounds_toArray, List.set_cons_zero, List.set_cons_succ, i64_w, i32_w]; rfl
      refine pure_ (i := 1) (N := (some 23)) (v := ?_) (a' := ?_) #[true, true, false, false, false, false, false, false, false, false] rfl rfl (by kernel_rfl) (fun _ _ _ h => h) (Or.inl ⟨by rfl, ?_⟩) ?_ ?_
      rotate_left
      · intro w'; go_simp; first | done | with_reducible rfl
      rotate_left
      · simp only [Act.put, List.setIfInBounds_toArray, List.set_cons_zero, List.set_cons_succ, i64_w, i32_w]; rfl
      refine pure_ (i := 2) (N := (some 24)) (v := ?_) (a' := ?_) #[true, true, true, false, false, false, false, false, false, false] rfl rfl (by kernel_rfl) (fun _ _ _ h => h) (Or.inl ⟨by rfl, ?_⟩) ?_ ?_
      rotate_left
      · intro w'; go_simp; first | done | with_reducible rfl
      rotate_left
      · simp only [Act.put, List.setIfInBounds_toArray, List.set_cons_zero, List.set_cons_succ, i64_w, i32_w]; rfl
      refine pure_ (i := 3) (N := (some 25)) (v := ?_) (a' := ?_) #[true, true, true, true, false, false, false, false, false, false] rfl rfl (by kernel_rfl) (fun _ _ _ h => h) (Or.inl ⟨by rfl, ?_⟩) ?_ ?_
      rotate_left
      · intro w'; go_simp; first | done | with_reducible rfl
      rotate_left
      · simp only [Act.put, List.setIfInBounds_toArray, List.set_cons_zero, List.set_cons_succ, i64_w, i32_w]; rfl
      refine take_ (i := 4) (N := (some 26)) (v := ?_) (a' := ?_) #[true, true, true, true, true, false, false, false, false, false] rfl rfl (by kernel_rfl) (fun _ _ _ h => h) (Or.inl ⟨by rfl, ?_⟩) hHeld ?_ ?_
      rotate_left
      · rintro w' ⟨s0, s1, s2, s3⟩; go_simp; first | done | with_reducible rfl
      rotate_left
      · simp only [Act.put, List.setIfInBounds_toArray, List.set_cons_zero, List.set_cons_succ, i64_w, i32_w]; rfl
      refine pure_ (i := 5) (N := (some 27)) (v := ?_) (a' := ?_) #[true, true, true, true, true, true, false, false, false, false] rfl rfl (by kernel_rfl) (fun _ _ _ h => h) (Or.inl ⟨by rfl, ?_⟩) ?_ ?_
      rotate_left
      · intro w'; go_simp; first | done | with_reducible rfl
      rotate_left
      · simp only [Act.put, List.setIfInBounds_toArray, List.set_cons_zero, List.set_cons_succ, i64_w, i32_w]; rfl
      refine take_ (i := 6) (N := (some 28)) (v := ?_) (a' := ?_) #[true, true, true, true, true, true, true, false, false, false] rfl rfl (by kernel_rfl) (fun _ _ _ h => h) (Or.inl ⟨by rfl, ?_⟩) hHeld ?_ ?_
      rotate_left
      · rintro w' ⟨s0, s1, s2, s3⟩; go_simp; first | done | with_reducible rfl
      rotate_left
      · simp only [Act.put, List.setIfInBounds_toArray, List.set_cons_zero, List.set_cons_succ, i64_w, i32_w]; rfl
      refine pure_ (i := 7) (N := (some 29)) (v := ?_) (a' := ?_) #[true, true, true, true, true, true, true, true, false, false] rfl rfl (by kernel_rfl) (fun _ _ _ h => h) (Or.inl ⟨by rfl, ?_⟩) ?_ ?_
      rotate_left
      · intro w'; go_simp; first | done | with_reducible rfl
      rotate_left
      · simp only [Act.put, List.setIfInBounds_toArray, List.set_cons_zero, List.set_cons_succ, i64_w, i32_w]; rfl
      refine one_ (i := 8) (N := (some 30)) #[true, true, true, true, true, true, true, true, true, false] rfl rfl (by kernel_rfl) (by decide) (fun K hK => ?_)
      refine goes_ Tryd.func16 (by kernel_rfl) rfl #[.agg #[.slice A0 nx.length c0, .slice A1 mk.length c1], va, .map (some r)] (by rfl) rfl rfl (by (try simp only [List.map_toArray, List.map_cons, List.map_nil]); first | done | rfl) ?_
      refine (IH.out kq (by have := HK.out; omega) _ _ _ HPP.out A0 c0 A1 c1 ok va r wd (HCD.out.ints HR0.out) hc0 (HCD.out.ints HR1.out) hc1 (Tree.same HCD.out.same (fun _ _ h => h) _ _ HA.out) HPD.out.map).mono ?_
      rintro e w1 ⟨rfl, hp1⟩
      have hC1 := hp1.cells HPD.out.map
      have HP1 := Lib.hid (HPD.out.trans hp1)
      have hw0 := hC1 _ _ HS.out.1
      have hw1 := hC1 _ _ HS.out.2.1
      have hn3 := hC1 _ _ HS.out.2.2.1
      have hka := hC1 _ _ HS.out.2.2.2
      have hn2 := hC1 _ _ HN2.out
      clear hp1 hC1
      refine ⟨_, rfl, ?_⟩
      refine hK.out _ _ ⟨hw0, hw1, hn3, hka⟩ (fun hHeld => ?_)
      clear hK K
      refine norm_ (a' := ?_) ?_ ?_
      rotate_left
      · show Act.put _ (some 30) _ = _; simp only [Act.put, List.setIfInBounds_toArray, List.set_cons_zero, List.set_cons_succ, i64_w, i32_w]; rfl
      refine pure_ (i := 9) (N := (some 8)) (v := ?_) (a' := ?_) #[true, true, true, true, true, true, true, true, true, true] rfl rfl (by kernel_rfl) (fun _ _ _ h => h) (Or.inl ⟨by rfl, ?_⟩) ?_ ?_
      rotate_left
      · intro w'; go_simp; first | done | with_reducible rfl
      rotate_left
      · simp only [Act.put, List.setIfInBounds_toArray, List.set_cons_zero, List.set_cons_succ, i64_w, i32_w]; rfl
      refine done_ (by kernel_rfl) ?_
      clear hHeld
      by_cases he : p.1 = s
      · have e1 : (p.1 == s) = true := beq_iff_eq.2 he
        have HE := Lib.hid he
        clear he
        go_wp2
        go_ret2
        have hf := HF1.out
        rw [if_pos HE.out] at hf
        simp only [Option.some.injEq, Prod.mk.injEq] at hf
        obtain ⟨h1, h2, h3⟩ := hf
        exact ⟨by rw [h1, h2]; rfl, h3 ▸ HP1.out⟩
      · have e1 : (p.1 == s) = false := beq_eq_false_iff_ne.2 he
        have HE := Lib.hid he
        clear he
        go_wp2
        go_roundg kq
        case measure => omega
        case rel =>
          have hf := HF1.out
          rw [if_neg HE.out] at hf
          exact ⟨_, _, _, rfl, rfl, by have := HK.out; exact (by omega : kq ≤ k), hf, HP1.out, hw0, hw1, hn2, hn3, hka⟩
set_option maxRecDepth 100000 in
set_option maxHeartbeats 2000000 in
theorem holds_g (A0 : Option Addr) (c0 : Nat) (nx : List Int) (A1 : Option Addr) (c1 : Nat) (mk : List Int) (gn r : Nat) (w : World) (hr0 : Kd.C (Kd.int .i64) w A0 nx.length nx) (hc0 : nx.length ≤ c0) (hr1 : Kd.C (Kd.int .i64) w A1 mk.length mk) (hc1 : mk.length ≤ c1) (hlen : nx.length = mk.length) (kb ko cp : Nat) (va : Value) (x : Nat) (a : Fm) (k : Nat) (m m1 : List (Int × Int)) (set cnt : Int) (ok : Nat → Prop) (hn0 : w.cell? ⟨gn, 0, none⟩ = some (.int .u8 103)) (hn2 : w.cell? ⟨gn, 2, none⟩ = some (.int .u8 x)) (hn3 : w.cell? ⟨gn, 3, none⟩ = some (.slice (some ⟨kb, ko, none⟩) 1 cp)) (hka : w.cell? ⟨kb, ko, none⟩ = some va) (ha : Tree w ok a va) (hm : IsM (Value.int .u8) (Value.int .i64) w r m) (ih : ∀ j, j < k → ∀ m res m', holdF nx mk j a m = some (res, m') → HoldsC nx mk a m res m') (hf : loopF nx mk k x a (allOf nx) 0 m = some (set, cnt, m1)) :
    Calls Tryd.prog 16 #[.agg #[.slice A0 nx.length c0, .slice A1 mk.length c1], .pointer (some ⟨gn, 0, none⟩), .map (some r)] w fun e w' => e = .returned (.int .i64 set) ∧ HP r m1 w w' := by
  have HM := Lib.hid hm
  have HA := Lib.hid ha
  have IH := Lib.hid ih
  have HF := Lib.hid hf
  have HN := Lib.hid (And.intro hn0 (And.intro hn2 (And.intro hn3 hka)))
  clear hm ha ih hf hn2 hn3 hka
  have hu := Tryd.underlying32
  have hu2 := Tryd.underlying54
  have HR0 := Lib.hid hr0
  have HR1 := Lib.hid hr1
  have HLEN := Lib.hid hlen
  have hle := hr0.2.1
  clear hr0 hr1 hlen
  go_enter Tryd.func16, Tryd.ntmps16
  go_wp2_with (first | ((with_reducible refine gate_dst (N := 3) rfl ?_); refine box_event ?hg (N := 3) ?hd (cs := #[.slice A0 nx.length c0, .slice A1 mk.length c1]) (t := 32) ?hr ?_; (case hd => rfl); (case hg => rfl); (case hr => first | (go_simp; done) | (go_simp; rfl)); intro gw hgw wb hbw hbb; have k0_ := pw_cell_below hbb hn0; clear hn0; have hn0 := k0_; clear k0_; have HGW := Lib.hid hbw; have HBW := Lib.hid (below_step (Below.refl w.heap.size w) hbb); clear hgw hbw hbb) | ((with_reducible refine gate_dst (N := 4) rfl ?_); refine box_event ?hg (N := 4) ?hd (cs := #[.pointer (some ⟨gn, 0, none⟩)]) (t := 41) ?hr ?_; (case hd => rfl); (case hg => rfl); (case hr => first | (go_simp; done) | (go_simp; rfl)); intro gf hgf wc hbf hbb; have k0_ := pw_cell_below hbb hn0; clear hn0; have hn0 := k0_; clear k0_; have k0_ := Lib.hid (blk_below HGW.out hbb); have k1_ := Lib.hid (below_step HBW.out hbb); clear HGW HBW; have HGW := k0_; have HBW := k1_; clear k0_ k1_; have HGF := Lib.hid hbf; have hw0 : wc.cell? ⟨gw, 0, none⟩ = some (.slice A0 nx.length c0) := (blk_cell HGW.out 0).trans rfl; have hw1 : wc.cell? ⟨gw, 1, none⟩ = some (.slice A1 mk.length c1) := (blk_cell HGW.out 1).trans rfl; have hf0 : wc.cell? ⟨gf, 0, none⟩ = some (.pointer (some ⟨gn, 0, none⟩)) := (blk_cell HGF.out 0).trans rfl; clear hgf hbf hbb) | fail)
  refine (fix_g A0 c0 nx A1 c1 mk gn r _ (Kd.C_below HR0.out HBW.out) hc0 (Kd.C_below HR1.out HBW.out) hc1 HLEN.out kb ko cp va x a k m m1 set cnt ok hn0 (pw_cell_below HBW.out HN.out.2.1) (pw_cell_below HBW.out HN.out.2.2.1) (pw_cell_below HBW.out HN.out.2.2.2) (Tree.same (Cells.of_below HBW.out).same (fun _ _ h => h) _ _ HA.out) (HM.out.below HBW.out) IH.out HF.out).mono ?_
  rintro e w9 ⟨rfl, hp⟩
  have HPW := Lib.hid ((HP.of_below HM.out HBW.out).trans hp)
  clear hp
  go_wp2
  go_ret
  exact ⟨rfl, HPW.out⟩
set_option maxRecDepth 100000 in
set_option maxHeartbeats 2000000 in
theorem holds_m (A0 : Option Addr) (c0 : Nat) (nx : List Int) (A1 : Option Addr) (c1 : Nat) (mk : List Int) (gn r : Nat) (w : World) (hr0 : Kd.C (Kd.int .i64) w A0 nx.length nx) (hc0 : nx.length ≤ c0) (hr1 : Kd.C (Kd.int .i64) w A1 mk.length mk) (hc1 : mk.length ≤ c1) (hlen : nx.length = mk.length) (kb ko cp : Nat) (va : Value) (x : Nat) (a : Fm) (k : Nat) (m m1 : List (Int × Int)) (set cnt : Int) (ok : Nat → Prop) (hn0 : w.cell? ⟨gn, 0, none⟩ = some (.int .u8 109)) (hn2 : w.cell? ⟨gn, 2, none⟩ = some (.int .u8 x)) (hn3 : w.cell? ⟨gn, 3, none⟩ = some (.slice (some ⟨kb, ko, none⟩) 1 cp)) (hka : w.cell? ⟨kb, ko, none⟩ = some va) (ha : Tree w ok a va) (hm : IsM (Value.int .u8) (Value.int .i64) w r m) (ih : ∀ j, j < k → ∀ m res m', holdF nx mk j a m = some (res, m') → HoldsC nx mk a m res m') (hf : loopF nx mk k x a 0 0 m = some (set, cnt, m1)) :
    Calls Tryd.prog 16 #[.agg #[.slice A0 nx.length c0, .slice A1 mk.length c1], .pointer (some ⟨gn, 0, none⟩), .map (some r)] w fun e w' => e = .returned (.int .i64 set) ∧ HP r m1 w w' := by
  have HM := Lib.hid hm
  have HA := Lib.hid ha
  have IH := Lib.hid ih
  have HF := Lib.hid hf
  have HN := Lib.hid (And.intro hn0 (And.intro hn2 (And.intro hn3 hka)))
  clear hm ha ih hf hn2 hn3 hka
  have hu := Tryd.underlying32
  have hu2 := Tryd.underlying54
  have HR0 := Lib.hid hr0
  have HR1 := Lib.hid hr1
  have HLEN := Lib.hid hlen
  have hle := hr0.2.1
  clear hr0 hr1 hlen
  go_enter Tryd.func16, Tryd.ntmps16
  go_wp2_with (first | ((with_reducible refine gate_dst (N := 3) rfl ?_); refine box_event ?hg (N := 3) ?hd (cs := #[.slice A0 nx.length c0, .slice A1 mk.length c1]) (t := 32) ?hr ?_; (case hd => rfl); (case hg => rfl); (case hr => first | (go_simp; done) | (go_simp; rfl)); intro gw hgw wb hbw hbb; have k0_ := pw_cell_below hbb hn0; clear hn0; have hn0 := k0_; clear k0_; have HGW := Lib.hid hbw; have HBW := Lib.hid (below_step (Below.refl w.heap.size w) hbb); clear hgw hbw hbb) | ((with_reducible refine gate_dst (N := 4) rfl ?_); refine box_event ?hg (N := 4) ?hd (cs := #[.pointer (some ⟨gn, 0, none⟩)]) (t := 41) ?hr ?_; (case hd => rfl); (case hg => rfl); (case hr => first | (go_simp; done) | (go_simp; rfl)); intro gf hgf wc hbf hbb; have k0_ := pw_cell_below hbb hn0; clear hn0; have hn0 := k0_; clear k0_; have k0_ := Lib.hid (blk_below HGW.out hbb); have k1_ := Lib.hid (below_step HBW.out hbb); clear HGW HBW; have HGW := k0_; have HBW := k1_; clear k0_ k1_; have HGF := Lib.hid hbf; have hw0 : wc.cell? ⟨gw, 0, none⟩ = some (.slice A0 nx.length c0) := (blk_cell HGW.out 0).trans rfl; have hw1 : wc.cell? ⟨gw, 1, none⟩ = some (.slice A1 mk.length c1) := (blk_cell HGW.out 1).trans rfl; have hf0 : wc.cell? ⟨gf, 0, none⟩ = some (.pointer (some ⟨gn, 0, none⟩)) := (blk_cell HGF.out 0).trans rfl; clear hgf hbf hbb) | fail)
  refine (fix_m A0 c0 nx A1 c1 mk gn r _ (Kd.C_below HR0.out HBW.out) hc0 (Kd.C_below HR1.out HBW.out) hc1 HLEN.out kb ko cp va x a k m m1 set cnt ok hn0 (pw_cell_below HBW.out HN.out.2.1) (pw_cell_below HBW.out HN.out.2.2.1) (pw_cell_below HBW.out HN.out.2.2.2) (Tree.same (Cells.of_below HBW.out).same (fun _ _ h => h) _ _ HA.out) (HM.out.below HBW.out) IH.out HF.out).mono ?_
  rintro e w9 ⟨rfl, hp⟩
  have HPW := Lib.hid ((HP.of_below HM.out HBW.out).trans hp)
  clear hp
  go_wp2
  go_ret
  exact ⟨rfl, HPW.out⟩
theorem Node.two {w : World} {ok : Nat → Prop} {v : Value} {d m nm : Int} {va vb : Value} (h : Node w ok v d m nm [va, vb]) : ∃ gn kb ko cp, v = .pointer (some ⟨gn, 0, none⟩) ∧ w.cell? ⟨gn, 0, none⟩ = some (.int .u8 d) ∧ w.cell? ⟨gn, 1, none⟩ = some (.int .i64 m) ∧ w.cell? ⟨gn, 2, none⟩ = some (.int .u8 nm) ∧ w.cell? ⟨gn, 3, none⟩ = some (.slice (some ⟨kb, ko, none⟩) 2 cp) ∧ w.cell? ⟨kb, ko, none⟩ = some va ∧ w.cell? ⟨kb, ko + 1, none⟩ = some vb := by
  obtain ⟨g, b, off, cap, rfl, o1, o2, h0, h1, h2, h3, h4⟩ := h
  exact ⟨g, b, off, cap, rfl, h0, h1, h2, h3, h4 0 va rfl, h4 1 vb rfl⟩
theorem Node.one {w : World} {ok : Nat → Prop} {v : Value} {d m nm : Int} {va : Value} (h : Node w ok v d m nm [va]) : ∃ gn kb ko cp, v = .pointer (some ⟨gn, 0, none⟩) ∧ w.cell? ⟨gn, 0, none⟩ = some (.int .u8 d) ∧ w.cell? ⟨gn, 1, none⟩ = some (.int .i64 m) ∧ w.cell? ⟨gn, 2, none⟩ = some (.int .u8 nm) ∧ w.cell? ⟨gn, 3, none⟩ = some (.slice (some ⟨kb, ko, none⟩) 1 cp) ∧ w.cell? ⟨kb, ko, none⟩ = some va := by
  obtain ⟨g, b, off, cap, rfl, o1, o2, h0, h1, h2, h3, h4⟩ := h
  exact ⟨g, b, off, cap, rfl, h0, h1, h2, h3, h4 0 va rfl⟩
theorem holds_all (nx mk : List Int) (hlen : nx.length = mk.length) : ∀ k f m res m', holdF nx mk k f m = some (res, m') → HoldsC nx mk f m res m' := by
  intro k
  induction k using Nat.strongRecOn with
  | _ k ih =>
    intro f m res m' hf A0 c0 A1 c1 ok v r w hr0 hc0 hr1 hc1 hT hM
    cases k with
    | zero => simp [holdF] at hf
    | succ k =>
      cases f with
      | mark neg j =>
        simp only [holdF, Option.some.injEq, Prod.mk.injEq] at hf
        obtain ⟨rfl, rfl⟩ := hf
        simp only [Tree] at hT
        obtain ⟨gn, b, off, cap, rfl, o1, o2, h0, h1, h2, h3, h4⟩ := hT
        cases neg
        · exact (holds_mark A0 c0 nx A1 c1 mk gn r w hr0 hc0 hr1 hc1 hlen j h0 h1).mono fun e w' ⟨he, hb⟩ => ⟨he, HP.of_below hM hb⟩
        · exact (holds_neg A0 c0 nx A1 c1 mk gn r w hr0 hc0 hr1 hc1 hlen j h0 h1).mono fun e w' ⟨he, hb⟩ => ⟨he, HP.of_below hM hb⟩
      | con c =>
        simp only [holdF] at hf
        simp only [Tree] at hT
        obtain ⟨gn, b, off, cap, rfl, o1, o2, h0, h1, h2, h3, h4⟩ := hT
        split at hf
        · rename_i hc
          subst hc
          simp only [Option.some.injEq, Prod.mk.injEq] at hf
          obtain ⟨rfl, rfl⟩ := hf
          exact (holds_t A0 c0 nx A1 c1 mk gn r w hr0 hc0 hr1 hc1 hlen h0).mono fun e w' ⟨he, hb⟩ => ⟨he, HP.of_below hM hb⟩
        · split at hf
          · rename_i hc
            subst hc
            simp only [Option.some.injEq, Prod.mk.injEq] at hf
            obtain ⟨rfl, rfl⟩ := hf
            exact (holds_f A0 c0 nx A1 c1 mk gn r w hr0 hc0 hr1 hc1 hlen h0).mono fun e w' ⟨he, hb⟩ => ⟨he, HP.of_below hM hb⟩
          · cases hf
      | var c =>
        simp only [holdF, Option.some.injEq, Prod.mk.injEq] at hf
        obtain ⟨rfl, rfl⟩ := hf
        simp only [Tree] at hT
        obtain ⟨gn, b, off, cap, rfl, o1, o2, h0, h1, h2, h3, h4⟩ := hT
        exact (holds_var A0 c0 nx A1 c1 mk gn r w hr0 hc0 hr1 hc1 hlen c m hM h0 h2).mono fun e w' ⟨he, hb⟩ => ⟨he, HP.of_below hM hb⟩
      | two c a b =>
        simp only [holdF] at hf
        split at hf
        · rename_i hc
          obtain ⟨p, hp, hf⟩ := Option.bind_eq_some_iff.mp hf
          obtain ⟨q, hq, hf⟩ := Option.bind_eq_some_iff.mp hf
          simp only [Option.some.injEq, Prod.mk.injEq] at hf
          obtain ⟨rfl, rfl⟩ := hf
          obtain ⟨va, vb, hn, ha, hb⟩ := hT
          obtain ⟨gn, kb, ko, cp, rfl, h0, h1, h2, h3, h4, h5⟩ := hn.two
          have ia := ih k (by omega) a m p.1 p.2 hp
          have ib := ih k (by omega) b p.2 q.1 q.2 hq
          rcases hc with rfl | rfl
          · exact holds_and A0 c0 nx A1 c1 mk gn r w hr0 hc0 hr1 hc1 hlen kb ko cp va vb a b m p.2 q.2 p.1 q.1 ok h0 h3 h4 h5 ha hb hM ia ib
          · exact holds_or A0 c0 nx A1 c1 mk gn r w hr0 hc0 hr1 hc1 hlen kb ko cp va vb a b m p.2 q.2 p.1 q.1 ok h0 h3 h4 h5 ha hb hM ia ib
        · cases hf
      | one c a =>
        simp only [holdF] at hf
        split at hf
        · rename_i hc
          obtain ⟨p, hp, hf⟩ := Option.bind_eq_some_iff.mp hf
          simp only [Option.some.injEq, Prod.mk.injEq] at hf
          obtain ⟨rfl, rfl⟩ := hf
          obtain ⟨va, hn, ha⟩ := hT
          obtain ⟨gn, kb, ko, cp, rfl, h0, h1, h2, h3, h4⟩ := hn.one
          have ia := ih k (by omega) a m p.1 p.2 hp
          rcases hc with rfl | rfl
          · exact holds_dia A0 c0 nx A1 c1 mk gn r w hr0 hc0 hr1 hc1 hlen kb ko cp va a m p.2 p.1 ok h0 h3 h4 ha hM ia
          · exact holds_box A0 c0 nx A1 c1 mk gn r w hr0 hc0 hr1 hc1 hlen kb ko cp va a m p.2 p.1 ok h0 h3 h4 ha hM ia
        · cases hf
      | fix c x a =>
        simp only [holdF] at hf
        split at hf
        · rename_i hc
          obtain ⟨p, hp, hf⟩ := Option.bind_eq_some_iff.mp hf
          simp only [Option.some.injEq, Prod.mk.injEq] at hf
          obtain ⟨rfl, rfl⟩ := hf
          obtain ⟨va, hn, ha⟩ := hT
          obtain ⟨gn, kb, ko, cp, rfl, h0, h1, h2, h3, h4⟩ := hn.one
          have ia : ∀ j, j < k → ∀ m res m', holdF nx mk j a m = some (res, m') → HoldsC nx mk a m res m' := fun j hj m res m' h => ih j (by omega) a m res m' h
          rcases hc with rfl | rfl
          · exact holds_m A0 c0 nx A1 c1 mk gn r w hr0 hc0 hr1 hc1 hlen kb ko cp va x a k m p.2.2 p.1 p.2.1 ok h0 h2 h3 h4 ha hM ia hp
          · exact holds_g A0 c0 nx A1 c1 mk gn r w hr0 hc0 hr1 hc1 hlen kb ko cp va x a k m p.2.2 p.1 p.2.1 ok h0 h2 h3 h4 ha hM ia hp
        · cases hf
end Go.Proofs.YtjffhhalmicodaaDoor.X
end
section
set_option linter.unusedVariables false
set_option linter.unusedSimpArgs false
namespace Go.Proofs.YtjffhhalmicodaaDoor.X
open Go.RowKit Go.Proofs.YtjffhhalmicodaaDoorW.PrintWords Go.Proofs.YtjffhhalmicodaaDoorW.PrintLast Go.Proofs.YtjffhhalmicodaaDoorW.PrintMore
theorem valid_len {nx mk : List Int} (h : PA.fixes_Works_valid.f nx mk = some true) : 1 ≤ nx.length ∧ nx.length ≤ 6 ∧ nx.length = mk.length := by
  unfold PA.fixes_Works_valid.f at h
  split at h
  · split at h
    · split at h
      · exact ⟨by omega, by omega, by omega⟩
      · cases h
    · cases h
  · cases h
def wholeS (n : Nat) (s : ByteArray) : Option Fm := if s.size ≤ n then whole (cs s) else none
theorem parse_at (n : Nat) (hn : n ≤ 900000) (s : ByteArray) (w : World) : Calls Tryd.prog 23 #[.string s, .int .i64 (n : Int)] w (ParsePost (wholeS n s) w) := by
  have h := parse_calls s n w (by omega)
  have e : (if (s.size : Int) ≤ (n : Int) then whole (cs s) else none) = wholeS n s := by
    unfold wholeS
    by_cases hc : s.size ≤ n
    · rw [if_pos hc, if_pos (by omega)]
    · rw [if_neg hc, if_neg (by omega)]
  rw [e] at h
  exact h
def RfPost (o : Option Fm) (w : World) (e : Ending) (w' : World) : Prop := Below w.heap.size w w' ∧ match o with
  | none => e = .returned (.tuple #[.pointer none, .int .i64 3])
  | some f => ∃ v, e = .returned (.tuple #[v, .int .i64 0]) ∧ Tree w' (fun k => w.heap.size ≤ k) f v
set_option maxRecDepth 100000 in
set_option maxHeartbeats 2000000 in
theorem rd_bad (A0 : Option Addr) (c0 : Nat) (nx : List Int) (A1 : Option Addr) (c1 : Nat) (mk : List Int) (s : ByteArray) (w : World) (hr0 : Kd.C (Kd.int .i64) w A0 nx.length nx) (hc0 : nx.length ≤ c0) (hr1 : Kd.C (Kd.int .i64) w A1 mk.length mk) (hc1 : mk.length ≤ c1) (hv : PA.fixes_Works_valid.f nx mk = some false) :
    Calls Tryd.prog 15 #[.agg #[.slice A0 nx.length c0, .slice A1 mk.length c1], .string s] w fun e w' => e = .returned (.tuple #[.pointer none, .int .i64 2]) ∧ Below w.heap.size w w' := by
  have HV := Lib.hid hv
  clear hv
  have hu := Tryd.underlying32
  have hu2 := Tryd.underlying54
  have HR0 := Lib.hid hr0
  have HR1 := Lib.hid hr1
  clear hr0 hr1
  go_enter Tryd.func15, Tryd.ntmps15
  go_wp2_with (first | ((with_reducible refine gate_dst (N := 2) rfl ?_); refine box_event ?hg (N := 2) ?hd (cs := #[.slice A0 nx.length c0, .slice A1 mk.length c1]) (t := 32) ?hr ?_; (case hd => rfl); (case hg => rfl); (case hr => first | (go_simp; done) | (go_simp; rfl)); intro gw hgw wb hbw hbb; have HBW := Lib.hid (below_step (Below.refl w.heap.size w) hbb); have hw0 : wb.cell? ⟨gw, 0, none⟩ = some (.slice A0 nx.length c0) := (blk_cell hbw 0).trans rfl; have hw1 : wb.cell? ⟨gw, 1, none⟩ = some (.slice A1 mk.length c1) := (blk_cell hbw 1).trans rfl; have HGW := Lib.hid hbw; clear hgw hbb hbw) | fail)
  refine (PA.fixes_Works_valid.calls A0 c0 nx A1 c1 mk false _ (Kd.C_below HR0.out HBW.out) hc0 (Kd.C_below HR1.out HBW.out) hc1 HV.out).mono ?_
  rintro e wv ⟨rfl, hbv⟩
  have j0_ := pw_cell_below hbv hw0
  have j1_ := pw_cell_below hbv hw1
  have n0_ := Lib.hid (below_step HBW.out hbv)
  clear hw0 hw1 HBW hbv
  have hw0 := j0_
  have hw1 := j1_
  have HBW := n0_
  clear j0_ j1_ n0_
  go_wp2
  go_ret2
  exact ⟨rfl, HBW.out⟩
set_option maxRecDepth 100000 in
set_option maxHeartbeats 2000000 in
theorem rd_none (A0 : Option Addr) (c0 : Nat) (nx : List Int) (A1 : Option Addr) (c1 : Nat) (mk : List Int) (s : ByteArray) (w : World) (hr0 : Kd.C (Kd.int .i64) w A0 nx.length nx) (hc0 : nx.length ≤ c0) (hr1 : Kd.C (Kd.int .i64) w A1 mk.length mk) (hc1 : mk.length ≤ c1) (hv : PA.fixes_Works_valid.f nx mk = some true) (ho : wholeS 40 s = none) :
    Calls Tryd.prog 15 #[.agg #[.slice A0 nx.length c0, .slice A1 mk.length c1], .string s] w (RfPost none w) := by
  have HV := Lib.hid hv
  have HO := Lib.hid ho
  clear hv ho
  have hu := Tryd.underlying32
  have hu2 := Tryd.underlying54
  have HR0 := Lib.hid hr0
  have HR1 := Lib.hid hr1
  clear hr0 hr1
  go_enter Tryd.func15, Tryd.ntmps15
  go_wp2_with (first | ((with_reducible refine gate_dst (N := 2) rfl ?_); refine box_event ?hg (N := 2) ?hd (cs := #[.slice A0 nx.length c0, .slice A1 mk.length c1]) (t := 32) ?hr ?_; (case hd => rfl); (case hg => rfl); (case hr => first | (go_simp; done) | (go_simp; rfl)); intro gw hgw wb hbw hbb; have HBW := Lib.hid (below_step (Below.refl w.heap.size w) hbb); have hw0 : wb.cell? ⟨gw, 0, none⟩ = some (.slice A0 nx.length c0) := (blk_cell hbw 0).trans rfl; have hw1 : wb.cell? ⟨gw, 1, none⟩ = some (.slice A1 mk.length c1) := (blk_cell hbw 1).trans rfl; have HGW := Lib.hid hbw; clear hgw hbb hbw) | fail)
  refine (PA.fixes_Works_valid.calls A0 c0 nx A1 c1 mk true _ (Kd.C_below HR0.out HBW.out) hc0 (Kd.C_below HR1.out HBW.out) hc1 HV.out).mono ?_
  rintro e wv ⟨rfl, hbv⟩
  have j0_ := pw_cell_below hbv hw0
  have j1_ := pw_cell_below hbv hw1
  have n0_ := Lib.hid (below_step HBW.out hbv)
  clear hw0 hw1 HBW hbv
  have hw0 := j0_
  have hw1 := j1_
  have HBW := n0_
  clear j0_ j1_ n0_
  go_wp2_with fail
  refine (parse_at 40 (by omega) s _).mono ?_
  rintro e wp ⟨hbp, hpp⟩
  rw [HO.out] at hpp
  have hpp' : e = .returned (.pointer none) := hpp
  subst hpp'
  clear hpp
  have j0_ := pw_cell_below hbp hw0
  have j1_ := pw_cell_below hbp hw1
  have n0_ := Lib.hid (below_step HBW.out hbp)
  clear hw0 hw1 HBW hbp
  have hw0 := j0_
  have hw1 := j1_
  have HBW := n0_
  clear j0_ j1_ n0_
  go_wp2
  go_ret2
  exact ⟨HBW.out, rfl⟩
set_option maxRecDepth 100000 in
set_option maxHeartbeats 2000000 in
theorem rd_some (A0 : Option Addr) (c0 : Nat) (nx : List Int) (A1 : Option Addr) (c1 : Nat) (mk : List Int) (s : ByteArray) (w : World) (hr0 : Kd.C (Kd.int .i64) w A0 nx.length nx) (hc0 : nx.length ≤ c0) (hr1 : Kd.C (Kd.int .i64) w A1 mk.length mk) (hc1 : mk.length ≤ c1) (f : Fm) (hv : PA.fixes_Works_valid.f nx mk = some true) (ho : wholeS 40 s = some f) :
    Calls Tryd.prog 15 #[.agg #[.slice A0 nx.length c0, .slice A1 mk.length c1], .string s] w (RfPost (some f) w) := by
  have HV := Lib.hid hv
  have HO := Lib.hid ho
  clear hv ho
  have hu := Tryd.underlying32
  have hu2 := Tryd.underlying54
  have HR0 := Lib.hid hr0
  have HR1 := Lib.hid hr1
  clear hr0 hr1
  go_enter Tryd.func15, Tryd.ntmps15
  go_wp2_with (first | ((with_reducible refine gate_dst (N := 2) rfl ?_); refine box_event ?hg (N := 2) ?hd (cs := #[.slice A0 nx.length c0, .slice A1 mk.length c1]) (t := 32) ?hr ?_; (case hd => rfl); (case hg => rfl); (case hr => first | (go_simp; done) | (go_simp; rfl)); intro gw hgw wb hbw hbb; have HBW := Lib.hid (below_step (Below.refl w.heap.size w) hbb); have hw0 : wb.cell? ⟨gw, 0, none⟩ = some (.slice A0 nx.length c0) := (blk_cell hbw 0).trans rfl; have hw1 : wb.cell? ⟨gw, 1, none⟩ = some (.slice A1 mk.length c1) := (blk_cell hbw 1).trans rfl; have HGW := Lib.hid hbw; clear hgw hbb hbw) | fail)
  refine (PA.fixes_Works_valid.calls A0 c0 nx A1 c1 mk true _ (Kd.C_below HR0.out HBW.out) hc0 (Kd.C_below HR1.out HBW.out) hc1 HV.out).mono ?_
  rintro e wv ⟨rfl, hbv⟩
  have j0_ := pw_cell_below hbv hw0
  have j1_ := pw_cell_below hbv hw1
  have n0_ := Lib.hid (below_step HBW.out hbv)
  clear hw0 hw1 HBW hbv
  have hw0 := j0_
  have hw1 := j1_
  have HBW := n0_
  clear j0_ j1_ n0_
  go_wp2_with fail
  refine (parse_at 40 (by omega) s _).mono ?_
  rintro e wp ⟨hbp, hpp⟩
  rw [HO.out] at hpp
  obtain ⟨v, rfl, ht⟩ := hpp
  obtain ⟨gk, rfl⟩ := ht.ptr
  have HSZ := Lib.hid HBW.out.size
  have HT := Lib.hid ht
  clear ht
  have j0_ := pw_cell_below hbp hw0
  have j1_ := pw_cell_below hbp hw1
  have n0_ := Lib.hid (below_step HBW.out hbp)
  clear hw0 hw1 HBW hbp
  have hw0 := j0_
  have hw1 := j1_
  have HBW := n0_
  clear j0_ j1_ n0_
  go_wp2
  go_ret2
  exact ⟨HBW.out, _, rfl, Tree.same (fun _ _ _ hc _ => hc) (fun k _ hk => Nat.le_trans HSZ.out hk) _ _ HT.out⟩
set_option maxRecDepth 100000 in
set_option maxHeartbeats 2000000 in
theorem Holds_bad (A0 : Option Addr) (c0 : Nat) (nx : List Int) (A1 : Option Addr) (c1 : Nat) (mk : List Int) (s : ByteArray) (w : World) (hr0 : Kd.C (Kd.int .i64) w A0 nx.length nx) (hc0 : nx.length ≤ c0) (hr1 : Kd.C (Kd.int .i64) w A1 mk.length mk) (hc1 : mk.length ≤ c1) (hv : PA.fixes_Works_valid.f nx mk = some false) :
    Calls Tryd.prog 8 #[.agg #[.slice A0 nx.length c0, .slice A1 mk.length c1], .string s] w fun e w' => e = .returned (.tuple #[.int .i64 0, .int .i64 2]) ∧ Below w.heap.size w w' := by
  have HV := Lib.hid hv
  clear hv
  have hu := Tryd.underlying32
  have hu2 := Tryd.underlying54
  have HR0 := Lib.hid hr0
  have HR1 := Lib.hid hr1
  clear hr0 hr1
  go_enter Tryd.func8, Tryd.ntmps8
  go_wp2_with (first | ((with_reducible refine gate_dst (N := 2) rfl ?_); refine box_event ?hg (N := 2) ?hd (cs := #[.slice A0 nx.length c0, .slice A1 mk.length c1]) (t := 32) ?hr ?_; (case hd => rfl); (case hg => rfl); (case hr => first | (go_simp; done) | (go_simp; rfl)); intro gw hgw wb hbw hbb; have HBW := Lib.hid (below_step (Below.refl w.heap.size w) hbb); have hw0 : wb.cell? ⟨gw, 0, none⟩ = some (.slice A0 nx.length c0) := (blk_cell hbw 0).trans rfl; have hw1 : wb.cell? ⟨gw, 1, none⟩ = some (.slice A1 mk.length c1) := (blk_cell hbw 1).trans rfl; have HGW := Lib.hid hbw; clear hgw hbb hbw) | fail)
  refine (rd_bad A0 c0 nx A1 c1 mk s _ (Kd.C_below HR0.out HBW.out) hc0 (Kd.C_below HR1.out HBW.out) hc1 HV.out).mono ?_
  rintro e wr ⟨rfl, hbr⟩
  have j0_ := pw_cell_below hbr hw0
  have j1_ := pw_cell_below hbr hw1
  have n0_ := Lib.hid (below_step HBW.out hbr)
  clear hw0 hw1 HBW hbr
  have hw0 := j0_
  have hw1 := j1_
  have HBW := n0_
  clear j0_ j1_ n0_
  go_wp2
  go_ret2
  exact ⟨rfl, HBW.out⟩
set_option maxRecDepth 100000 in
set_option maxHeartbeats 2000000 in
theorem Holds_none (A0 : Option Addr) (c0 : Nat) (nx : List Int) (A1 : Option Addr) (c1 : Nat) (mk : List Int) (s : ByteArray) (w : World) (hr0 : Kd.C (Kd.int .i64) w A0 nx.length nx) (hc0 : nx.length ≤ c0) (hr1 : Kd.C (Kd.int .i64) w A1 mk.length mk) (hc1 : mk.length ≤ c1) (hv : PA.fixes_Works_valid.f nx mk = some true) (ho : wholeS 40 s = none) :
    Calls Tryd.prog 8 #[.agg #[.slice A0 nx.length c0, .slice A1 mk.length c1], .string s] w fun e w' => e = .returned (.tuple #[.int .i64 0, .int .i64 3]) ∧ Below w.heap.size w w' := by
  have HV := Lib.hid hv
  have HO := Lib.hid ho
  clear hv ho
  have hu := Tryd.underlying32
  have hu2 := Tryd.underlying54
  have HR0 := Lib.hid hr0
  have HR1 := Lib.hid hr1
  clear hr0 hr1
  go_enter Tryd.func8, Tryd.ntmps8
  go_wp2_with (first | ((with_reducible refine gate_dst (N := 2) rfl ?_); refine box_event ?hg (N := 2) ?hd (cs := #[.slice A0 nx.length c0, .slice A1 mk.length c1]) (t := 32) ?hr ?_; (case hd => rfl); (case hg => rfl); (case hr => first | (go_simp; done) | (go_simp; rfl)); intro gw hgw wb hbw hbb; have HBW := Lib.hid (below_step (Below.refl w.heap.size w) hbb); have hw0 : wb.cell? ⟨gw, 0, none⟩ = some (.slice A0 nx.length c0) := (blk_cell hbw 0).trans rfl; have hw1 : wb.cell? ⟨gw, 1, none⟩ = some (.slice A1 mk.length c1) := (blk_cell hbw 1).trans rfl; have HGW := Lib.hid hbw; clear hgw hbb hbw) | fail)
  refine (rd_none A0 c0 nx A1 c1 mk s _ (Kd.C_below HR0.out HBW.out) hc0 (Kd.C_below HR1.out HBW.out) hc1 HV.out HO.out).mono ?_
  rintro e wr ⟨hbr, hpp⟩
  have hpp' : e = .returned (.tuple #[.pointer none, .int .i64 3]) := hpp
  subst hpp'
  clear hpp
  have j0_ := pw_cell_below hbr hw0
  have j1_ := pw_cell_below hbr hw1
  have n0_ := Lib.hid (below_step HBW.out hbr)
  clear hw0 hw1 HBW hbr
  have hw0 := j0_
  have hw1 := j1_
  have HBW := n0_
  clear j0_ j1_ n0_
  go_wp2
  go_ret2
  exact ⟨rfl, HBW.out⟩
set_option maxRecDepth 100000 in
set_option maxHeartbeats 2000000 in
theorem Holds_some (A0 : Option Addr) (c0 : Nat) (nx : List Int) (A1 : Option Addr) (c1 : Nat) (mk : List Int) (s : ByteArray) (w : World) (hr0 : Kd.C (Kd.int .i64) w A0 nx.length nx) (hc0 : nx.length ≤ c0) (hr1 : Kd.C (Kd.int .i64) w A1 mk.length mk) (hc1 : mk.length ≤ c1) (f : Fm) (k : Nat) (res : Int) (m' : List (Int × Int)) (hv : PA.fixes_Works_valid.f nx mk = some true) (ho : wholeS 40 s = some f) (hf : holdF nx mk k f [] = some (res, m')) :
    Calls Tryd.prog 8 #[.agg #[.slice A0 nx.length c0, .slice A1 mk.length c1], .string s] w fun e w' => e = .returned (.tuple #[.int .i64 res, .int .i64 0]) ∧ Below w.heap.size w w' := by
  have HV := Lib.hid hv
  have HO := Lib.hid ho
  clear hv ho
  have HF := Lib.hid hf
  clear hf
  have hu := Tryd.underlying32
  have hu2 := Tryd.underlying54
  have HR0 := Lib.hid hr0
  have HR1 := Lib.hid hr1
  clear hr0 hr1
  go_enter Tryd.func8, Tryd.ntmps8
  go_wp2_with (first | ((with_reducible refine gate_dst (N := 2) rfl ?_); refine box_event ?hg (N := 2) ?hd (cs := #[.slice A0 nx.length c0, .slice A1 mk.length c1]) (t := 32) ?hr ?_; (case hd => rfl); (case hg => rfl); (case hr => first | (go_simp; done) | (go_simp; rfl)); intro gw hgw wb hbw hbb; have HBW := Lib.hid (below_step (Below.refl w.heap.size w) hbb); have hw0 : wb.cell? ⟨gw, 0, none⟩ = some (.slice A0 nx.length c0) := (blk_cell hbw 0).trans rfl; have hw1 : wb.cell? ⟨gw, 1, none⟩ = some (.slice A1 mk.length c1) := (blk_cell hbw 1).trans rfl; have HGW := Lib.hid hbw; clear hgw hbb hbw) | fail)
  refine (rd_some A0 c0 nx A1 c1 mk s _ (Kd.C_below HR0.out HBW.out) hc0 (Kd.C_below HR1.out HBW.out) hc1 f HV.out HO.out).mono ?_
  rintro e wr ⟨hbr, hpp⟩
  obtain ⟨v, rfl, ht⟩ := hpp
  obtain ⟨gk, rfl⟩ := ht.ptr
  have HT := Lib.hid ht
  clear ht
  have j0_ := pw_cell_below hbr hw0
  have j1_ := pw_cell_below hbr hw1
  have n0_ := Lib.hid (below_step HBW.out hbr)
  clear hw0 hw1 HBW hbr
  have hw0 := j0_
  have hw1 := j1_
  have HBW := n0_
  clear j0_ j1_ n0_
  go_wp2_with (first | ((with_reducible refine gate_op (op := .makeMap 46 none) rfl ?_); refine map_make_event rfl 46 rfl ?_; intro r0 wm hr0 hm hb; have HM_ := Lib.hid (IsM.mk' (enc := Value.int .u8) (encv := Value.int .i64) (l := []) hm rfl); have HW_ := Lib.hid (below_step HBW.out hb); have HT2 := Lib.hid (Tree.same (Cells.of_below hb).same (fun _ _ h => h) _ _ HT.out); have hle : w.heap.size ≤ r0 := (by rw [hr0]; exact HBW.out.size); have HZ_ := Lib.hid hle; clear hm hb hr0 hle) | fail)
  refine (holds_all nx mk (valid_len HV.out).2.2 k f [] res m' HF.out A0 c0 A1 c1 _ _ r0 wm (Kd.C_below HR0.out HW_.out) hc0 (Kd.C_below HR1.out HW_.out) hc1 HT2.out HM_.out).mono ?_
  rintro e w9 ⟨rfl, hp⟩
  have HB9 := Lib.hid (hp.low _ _ HW_.out HZ_.out)
  clear hp
  go_wp2
  go_ret2
  exact ⟨rfl, HB9.out⟩
end Go.Proofs.YtjffhhalmicodaaDoor.X
end
section
set_option linter.unusedVariables false
set_option linter.unusedSimpArgs false
namespace Go.Proofs.YtjffhhalmicodaaDoor.X
open Go.RowKit Go.Proofs.YtjffhhalmicodaaDoorW.PrintWords Go.Proofs.YtjffhhalmicodaaDoorW.PrintLast Go.Proofs.YtjffhhalmicodaaDoorW.PrintMore
theorem holdF_mono (nx mk : List Int) : ∀ k, (∀ f m, LeO (holdF nx mk k f m) (holdF nx mk (k + 1) f m)) ∧ (∀ x a s c m, LeO (loopF nx mk k x a s c m) (loopF nx mk (k + 1) x a s c m)) := by
  intro k
  induction k with
  | zero => exact ⟨fun f m r h => by simp [holdF] at h, fun x a s c m r h => by simp [loopF] at h⟩
  | succ k ih =>
    obtain ⟨ih1, ih2⟩ := ih
    refine ⟨fun f m => ?_, fun x a s c m => ?_⟩
    · cases f with
      | mark neg j => simp only [holdF]; exact LeO.refl _
      | con c => simp only [holdF]; exact LeO.refl _
      | var c => simp only [holdF]; exact LeO.refl _
      | two c a b =>
        rw [holdF, holdF]
        exact LeO.ite (LeO.bind (ih1 a m) (fun p => LeO.bind (ih1 b p.2) (fun q => LeO.refl _))) (LeO.refl _)
      | one c a =>
        rw [holdF, holdF]
        exact LeO.ite (LeO.bind (ih1 a m) (fun p => LeO.refl _)) (LeO.refl _)
      | fix c x a =>
        rw [holdF, holdF]
        exact LeO.ite (LeO.bind (ih2 x a _ 0 m) (fun p => LeO.refl _)) (LeO.refl _)
    · rw [loopF, loopF]
      exact LeO.bind (ih1 a _) (fun p => LeO.ite (LeO.refl _) (ih2 x a _ _ _))
def fixes_Holds.f (k : Nat) (l0_0 l0_1 : List Int) (a1 : ByteArray) : Option (Int × Int) := (PA.fixes_Works_valid.f l0_0 l0_1).bind fun v => if v = true then (match wholeS 40 a1 with
  | none => some (0, 3)
  | some f => (holdF l0_0 l0_1 k f []).bind fun p => some (p.1, 0)) else some (0, 2)
theorem fixes_Holds.mono : ∀ a0 a1 a2 k, LeO (fixes_Holds.f k a0 a1 a2) (fixes_Holds.f (k + 1) a0 a1 a2) := by
  intro a0 a1 a2 k
  unfold fixes_Holds.f
  refine LeO.bind (LeO.refl _) (fun v => LeO.ite ?_ (LeO.refl _))
  cases wholeS 40 a2 with
  | none => exact LeO.refl _
  | some f => exact LeO.bind ((holdF_mono a0 a1 k).1 f []) (fun p => LeO.refl _)
theorem fixes_Holds.calls (k : Nat) (A0_0 : Option Addr) (c0_0 : Nat) (l0_0 : List Int) (A0_1 : Option Addr) (c0_1 : Nat) (l0_1 : List Int) (a1 : ByteArray) (r1 : Int) (r2 : Int) (w : World) (hr0_0 : Kd.C (Kd.int .i64) w A0_0 l0_0.length l0_0) (hc0_0 : l0_0.length ≤ c0_0) (hr0_1 : Kd.C (Kd.int .i64) w A0_1 l0_1.length l0_1) (hc0_1 : l0_1.length ≤ c0_1) (h : fixes_Holds.f k l0_0 l0_1 a1 = some (r1, r2)) :
    Calls Tryd.prog 8 #[.agg #[.slice A0_0 l0_0.length c0_0, .slice A0_1 l0_1.length c0_1], .string a1] w fun e w' => e = .returned (.tuple #[.int .i64 r1, .int .i64 r2]) ∧ Below w.heap.size w w' := by
  unfold fixes_Holds.f at h
  obtain ⟨v, hv, h⟩ := Option.bind_eq_some_iff.mp h
  cases v with
  | false =>
    simp only [Bool.false_eq_true, if_false, Option.some.injEq, Prod.mk.injEq] at h
    obtain ⟨rfl, rfl⟩ := h
    exact Holds_bad A0_0 c0_0 l0_0 A0_1 c0_1 l0_1 a1 w hr0_0 hc0_0 hr0_1 hc0_1 hv
  | true =>
    simp only [if_true] at h
    cases ho : wholeS 40 a1 with
    | none =>
      rw [ho] at h
      simp only [Option.some.injEq, Prod.mk.injEq] at h
      obtain ⟨rfl, rfl⟩ := h
      exact Holds_none A0_0 c0_0 l0_0 A0_1 c0_1 l0_1 a1 w hr0_0 hc0_0 hr0_1 hc0_1 hv ho
    | some f =>
      rw [ho] at h
      obtain ⟨p, hp, h⟩ := Option.bind_eq_some_iff.mp h
      simp only [Option.some.injEq, Prod.mk.injEq] at h
      obtain ⟨rfl, rfl⟩ := h
      exact Holds_some A0_0 c0_0 l0_0 A0_1 c0_1 l0_1 a1 w hr0_0 hc0_0 hr0_1 hc0_1 f k p.1 p.2 hv ho hp
end Go.Proofs.YtjffhhalmicodaaDoor.X
end
section
set_option linter.unusedVariables false
set_option linter.unusedSimpArgs false
namespace Go.Proofs.YtjffhhalmicodaaDoor.X
open Go.RowKit Go.Proofs.YtjffhhalmicodaaDoorW.PrintWords Go.Proofs.YtjffhhalmicodaaDoorW.PrintLast Go.Proofs.YtjffhhalmicodaaDoorW.PrintMore
theorem allOf_eq (nx : List Int) : allOf nx = wrap64 (wrap64 (2 ^ min nx.length 64) - 1) := by
  unfold allOf shl
  rw [i64_w, Int.one_mul]
  rfl
theorem drop_at {s : ByteArray} {i c : Nat} {l : List Nat} (h : (cs s).drop i = c :: l) : i < s.size ∧ (∀ hh : i < s.size, ((s[i]'hh).toNat : Int) = (c : Int)) ∧ (cs s).drop (i + 1) = l := by
  have hlt : i < s.size := by
    rcases Nat.lt_or_ge i s.size with h1 | h1
    · exact h1
    · rw [List.drop_eq_nil_of_le (by rw [cs_length]; exact h1)] at h
      cases h
  refine ⟨hlt, fun hh => ?_, ?_⟩
  · have h1 : (cs s)[i]? = some c := by
      have := congrArg (fun l => l[0]?) h
      simpa using this
    unfold cs at h1
    rw [List.getElem?_map] at h1
    have h2 : s.data.toList[i]? = some (s[i]'hh) := by
      rw [Array.getElem?_toList]
      exact Array.getElem?_eq_getElem (xs := s.data) hh
    rw [h2] at h1
    simp only [Option.map_some, Option.some.injEq] at h1
    omega
  · have := congrArg List.tail h
    simpa using this
end Go.Proofs.YtjffhhalmicodaaDoor.X
end
section
set_option linter.unusedVariables false
set_option linter.unusedSimpArgs false
namespace Go.Proofs.YtjffhhalmicodaaDoor.X
open Go.RowKit Go.Proofs.YtjffhhalmicodaaDoorW.PrintWords Go.Proofs.YtjffhhalmicodaaDoorW.PrintLast Go.Proofs.YtjffhhalmicodaaDoorW.PrintMore
abbrev Sets := Int × Int × Int
def setL (x : Nat) (v : Int) (s : Sets) : Sets := if x = 120 then (v, s.2.1, s.2.2) else if x = 121 then (s.1, v, s.2.2) else (s.1, s.2.1, v)
def getL (x : Nat) (s : Sets) : Int := if x = 120 then s.1 else if x = 121 then s.2.1 else s.2.2
end Go.Proofs.YtjffhhalmicodaaDoor.X
end
section
namespace Go.Proofs.YtjffhhalmicodaaDoor.L
open Go.RowKit Go.Proofs.YtjffhhalmicodaaDoorW.PrintWords Go.Proofs.YtjffhhalmicodaaDoorW.PrintLast Go.Proofs.YtjffhhalmicodaaDoorW.PrintMore Go.Proofs.YtjffhhalmicodaaDoor.X
def InS (n : Nat) (a : Int) : Prop := 0 ≤ a ∧ a < 2 ^ n
def tb (a : Int) (i : Nat) : Bool := a.toNat.testBit i
theorem wrap64_nat {x : Nat} (h : x < 2 ^ 62) : IntKind.i64.wrap (x : Int) = (x : Int) := by
  rw [IntKind.wrap_i64]
  have h2 : (x : Int) < 2 ^ 62 := by exact_mod_cast h
  have : (2 : Int) ^ 62 = 4611686018427387904 := by decide
  omega
theorem inS_nat {n : Nat} {a : Int} (h : InS n a) : ∃ x : Nat, a = (x : Int) ∧ x < 2 ^ n := by
  obtain ⟨x, rfl⟩ := Int.eq_ofNat_of_zero_le h.1
  exact ⟨x, rfl, by exact_mod_cast h.2⟩
theorem inS_of {n x : Nat} (h : x < 2 ^ n) : InS n (x : Int) := ⟨Int.natCast_nonneg _, by exact_mod_cast h⟩
theorem inS_zero (n : Nat) : InS n 0 := inS_of (x := 0) (Nat.two_pow_pos n)
theorem pow_le62 {n : Nat} (h : n ≤ 62) : 2 ^ n ≤ 2 ^ 62 := Nat.pow_le_pow_right (by decide) h
theorem tb_nat (x i : Nat) : tb (x : Int) i = x.testBit i := rfl
theorem tb_zero (i : Nat) : tb 0 i = false := by simp [tb]
theorem inS_mono {n m : Nat} {a : Int} (h : InS n a) (hm : n ≤ m) : InS m a := by
  obtain ⟨x, rfl, hx⟩ := inS_nat h
  exact inS_of (Nat.lt_of_lt_of_le hx (Nat.pow_le_pow_right (by decide) hm))
theorem tb_ge {n : Nat} {a : Int} (h : InS n a) {i : Nat} (hi : n ≤ i) : tb a i = false := by
  obtain ⟨x, rfl, hx⟩ := inS_nat h
  exact Nat.testBit_lt_two_pow (Nat.lt_of_lt_of_le hx (Nat.pow_le_pow_right (by decide) hi))
theorem inS_ext {n : Nat} {a b : Int} (ha : InS n a) (hb : InS n b) (h : ∀ i, i < n → tb a i = tb b i) : a = b := by
  have hall : ∀ i, tb a i = tb b i := fun i => by
    rcases Nat.lt_or_ge i n with hi | hi
    · exact h i hi
    · rw [tb_ge ha hi, tb_ge hb hi]
  obtain ⟨x, rfl, hx⟩ := inS_nat ha
  obtain ⟨y, rfl, hy⟩ := inS_nat hb
  have : x = y := Nat.eq_of_testBit_eq hall
  rw [this]
theorem and_nat {x y : Nat} (hx : x < 2 ^ 62) (hy : y < 2 ^ 62) : bits .and .i64 (x : Int) (y : Int) = ((x &&& y : Nat) : Int) :=
  (bits_nat .i64 62 (by decide) (fun n h1 h2 => by obtain ⟨z, rfl⟩ := Int.eq_ofNat_of_zero_le h1; exact wrap64_nat (by exact_mod_cast h2)) x y hx hy).1
theorem or_nat {x y : Nat} (hx : x < 2 ^ 62) (hy : y < 2 ^ 62) : bits .or .i64 (x : Int) (y : Int) = ((x ||| y : Nat) : Int) :=
  (bits_nat .i64 62 (by decide) (fun n h1 h2 => by obtain ⟨z, rfl⟩ := Int.eq_ofNat_of_zero_le h1; exact wrap64_nat (by exact_mod_cast h2)) x y hx hy).2
theorem andNot_nat {x y : Nat} (hx : x < 2 ^ 62) (hy : y < 2 ^ 62) : bits .andNot .i64 (x : Int) (y : Int) = ((x &&& (18446744073709551615 - y) : Nat) : Int) := by
  have hp : (2 : Nat) ^ 62 < 18446744073709551616 := by decide
  have ha : x % 18446744073709551616 = x := Nat.mod_eq_of_lt (by omega)
  have hb : y % 18446744073709551616 = y := Nat.mod_eq_of_lt (by omega)
  have hl : x &&& (18446744073709551615 - y) < 2 ^ 62 := Nat.lt_of_le_of_lt Nat.and_le_left hx
  have : (BitVec.ofInt IntKind.i64.bits (x : Int) &&& ~~~ BitVec.ofInt IntKind.i64.bits (y : Int)).toNat = x &&& (18446744073709551615 - y) := by
    rw [BitVec.ofInt_natCast, BitVec.ofInt_natCast, BitVec.toNat_and, BitVec.toNat_not, BitVec.toNat_ofNat, BitVec.toNat_ofNat]
    show x % 18446744073709551616 &&& (18446744073709551616 - 1 - y % 18446744073709551616) = _
    rw [ha, hb]
  show IntKind.i64.wrap ((BitVec.ofInt IntKind.i64.bits (x : Int) &&& ~~~ BitVec.ofInt IntKind.i64.bits (y : Int)).toNat : Int) = _
  rw [this]
  exact wrap64_nat hl
theorem and_in {n : Nat} (hn : n ≤ 62) {a b : Int} (ha : InS n a) (hb : InS n b) : InS n (bits .and .i64 a b) := by
  obtain ⟨x, rfl, hx⟩ := inS_nat ha
  obtain ⟨y, rfl, hy⟩ := inS_nat hb
  rw [and_nat (Nat.lt_of_lt_of_le hx (pow_le62 hn)) (Nat.lt_of_lt_of_le hy (pow_le62 hn))]
  exact inS_of (Nat.lt_of_le_of_lt Nat.and_le_left hx)
theorem or_in {n : Nat} (hn : n ≤ 62) {a b : Int} (ha : InS n a) (hb : InS n b) : InS n (bits .or .i64 a b) := by
  obtain ⟨x, rfl, hx⟩ := inS_nat ha
  obtain ⟨y, rfl, hy⟩ := inS_nat hb
  rw [or_nat (Nat.lt_of_lt_of_le hx (pow_le62 hn)) (Nat.lt_of_lt_of_le hy (pow_le62 hn))]
  exact inS_of (Nat.or_lt_two_pow hx hy)
theorem andNot_in {n m : Nat} (hn : n ≤ 62) (hm : m ≤ 62) {a b : Int} (ha : InS n a) (hb : InS m b) : InS n (bits .andNot .i64 a b) := by
  obtain ⟨x, rfl, hx⟩ := inS_nat ha
  obtain ⟨y, rfl, hy⟩ := inS_nat hb
  rw [andNot_nat (Nat.lt_of_lt_of_le hx (pow_le62 hn)) (Nat.lt_of_lt_of_le hy (pow_le62 hm))]
  exact inS_of (Nat.lt_of_le_of_lt Nat.and_le_left hx)
theorem tb_and {n m : Nat} (hn : n ≤ 62) (hm : m ≤ 62) {a b : Int} (ha : InS n a) (hb : InS m b) (i : Nat) : tb (bits .and .i64 a b) i = (tb a i && tb b i) := by
  obtain ⟨x, rfl, hx⟩ := inS_nat ha
  obtain ⟨y, rfl, hy⟩ := inS_nat hb
  rw [and_nat (Nat.lt_of_lt_of_le hx (pow_le62 hn)) (Nat.lt_of_lt_of_le hy (pow_le62 hm))]
  exact Nat.testBit_and x y i
theorem tb_or {n m : Nat} (hn : n ≤ 62) (hm : m ≤ 62) {a b : Int} (ha : InS n a) (hb : InS m b) (i : Nat) : tb (bits .or .i64 a b) i = (tb a i || tb b i) := by
  obtain ⟨x, rfl, hx⟩ := inS_nat ha
  obtain ⟨y, rfl, hy⟩ := inS_nat hb
  rw [or_nat (Nat.lt_of_lt_of_le hx (pow_le62 hn)) (Nat.lt_of_lt_of_le hy (pow_le62 hm))]
  exact Nat.testBit_or x y i
theorem tb_andNot {n m : Nat} (hn : n ≤ 62) (hm : m ≤ 62) {a b : Int} (ha : InS n a) (hb : InS m b) (i : Nat) : tb (bits .andNot .i64 a b) i = (tb a i && !tb b i) := by
  obtain ⟨x, rfl, hx⟩ := inS_nat ha
  obtain ⟨y, rfl, hy⟩ := inS_nat hb
  have hx2 := Nat.lt_of_lt_of_le hx (pow_le62 hn)
  have hy2 := Nat.lt_of_lt_of_le hy (pow_le62 hm)
  have hp : (2 : Nat) ^ 62 < 2 ^ 64 := by decide
  rw [andNot_nat hx2 hy2, tb_nat, tb_nat, tb_nat, Nat.testBit_and]
  have he : 18446744073709551615 - y = 2 ^ 64 - (y + 1) := by
    have : (2 : Nat) ^ 64 = 18446744073709551616 := by decide
    omega
  rw [he, Nat.testBit_two_pow_sub_succ (by omega)]
  by_cases hi : i < 64
  · simp [hi]
  · have : x.testBit i = false := Nat.testBit_lt_two_pow (Nat.lt_of_lt_of_le (Nat.lt_trans hx2 hp) (Nat.pow_le_pow_right (by decide) (by omega)))
    rw [this]
    rfl
theorem and_zero {n : Nat} (hn : n ≤ 62) {a b : Int} (ha : InS n a) (hb : InS n b) : bits .and .i64 a b = 0 ↔ ∀ i, tb a i = true → tb b i = false := by
  constructor
  · intro h i hi
    have h2 := tb_and hn hn ha hb i
    rw [h, tb_zero, hi] at h2
    simpa using h2.symm
  · intro h
    refine inS_ext (and_in hn ha hb) (inS_zero n) fun i _ => ?_
    rw [tb_and hn hn ha hb, tb_zero]
    cases h1 : tb a i
    · rfl
    · rw [h i h1]; rfl
theorem andNot_zero {n : Nat} (hn : n ≤ 62) {a b : Int} (ha : InS n a) (hb : InS n b) : bits .andNot .i64 a b = 0 ↔ ∀ i, tb a i = true → tb b i = true := by
  constructor
  · intro h i hi
    have h2 := tb_andNot hn hn ha hb i
    rw [h, tb_zero, hi] at h2
    simpa using h2.symm
  · intro h
    refine inS_ext (andNot_in hn hn ha hb) (inS_zero n) fun i _ => ?_
    rw [tb_andNot hn hn ha hb, tb_zero]
    cases h1 : tb a i
    · rfl
    · rw [h i h1]; rfl
theorem pow_wrap {n : Nat} (hn : n < 62) : wrap64 (2 ^ min n 64) = ((2 ^ n : Nat) : Int) := by
  rw [Nat.min_eq_left (by omega)]
  have h := wrap64_nat (x := 2 ^ n) (Nat.pow_lt_pow_right (by decide) hn)
  rw [IntKind.wrap_i64] at h
  rw [wrap64]
  have e : ((2 ^ n : Nat) : Int) = (2 : Int) ^ n := by simp
  rw [e] at h ⊢
  exact h
theorem whereTo_spec (p : Nat → Bool) : ∀ n, n ≤ 61 → InS n (whereTo p n) ∧ ∀ i, tb (whereTo p n) i = (decide (i < n) && p i) := by
  intro n
  induction n with
  | zero => intro _; exact ⟨inS_zero 0, fun i => by simp [whereTo, tb_zero]⟩
  | succ n ih =>
    intro hn
    obtain ⟨h1, h2⟩ := ih (by omega)
    have hq : InS (n + 1) (((2 ^ n : Nat) : Int)) := inS_of (Nat.pow_lt_pow_right (by decide) (by omega))
    simp only [whereTo]
    by_cases hp : p n = true
    · rw [if_pos hp, pow_wrap (by omega)]
      refine ⟨or_in (by omega) (inS_mono h1 (by omega)) hq, fun i => ?_⟩
      rw [tb_or (by omega) (by omega) (inS_mono h1 (Nat.le_succ n)) hq, h2, tb_nat, Nat.testBit_two_pow]
      by_cases e : n = i
      · subst e
        simp [hp]
      · have : (decide (i < n + 1)) = decide (i < n) := by
          by_cases h : i < n
          · simp [h]; omega
          · simp [h]; omega
        simp [e, this]
    · rw [if_neg hp]
      refine ⟨inS_mono h1 (by omega), fun i => ?_⟩
      rw [h2]
      by_cases e : n = i
      · subst e
        simp [hp]
      · have : (decide (i < n + 1)) = decide (i < n) := by
          by_cases h : i < n
          · simp [h]; omega
          · simp [h]; omega
        rw [this]
theorem shl1 {n : Nat} (hn : n < 62) : shl .i64 1 (n : Int) = ((2 ^ n : Nat) : Int) := by
  have h := wrap64_nat (x := 2 ^ n) (Nat.pow_lt_pow_right (by decide) hn)
  have e : min (n : Int).toNat IntKind.i64.bits = n := by simp [IntKind.bits]; omega
  rw [shl, e]
  rw [show (1 : Int) * 2 ^ n = ((2 ^ n : Nat) : Int) by simp]
  exact h
theorem allOf_eq {nx : List Int} (hn : nx.length < 62) : allOf nx = ((2 ^ nx.length - 1 : Nat) : Int) := by
  have hp := Nat.two_pow_pos nx.length
  have hlt : 2 ^ nx.length < 2 ^ 62 := Nat.pow_lt_pow_right (by decide) hn
  have h := wrap64_nat (x := 2 ^ nx.length - 1) (by omega)
  rw [IntKind.wrap_i64] at h
  rw [allOf, shl1 hn, wrap64]
  rw [Int.natCast_sub hp] at h ⊢
  exact h
theorem all_in {nx : List Int} (hn : nx.length < 62) : InS nx.length (allOf nx) := by
  rw [allOf_eq hn]
  exact inS_of (Nat.sub_lt (Nat.two_pow_pos _) (by decide))
theorem tb_all {nx : List Int} (hn : nx.length < 62) (i : Nat) : tb (allOf nx) i = decide (i < nx.length) := by
  rw [allOf_eq hn, tb_nat, Nat.testBit_two_pow_sub_one]
def card (n : Nat) (a : Int) : Nat := (List.range n).countP (tb a)
def Sub (a b : Int) : Prop := ∀ i, tb a i = true → tb b i = true
theorem Sub.refl (a : Int) : Sub a a := fun _ h => h
theorem Sub.trans {a b c : Int} (h : Sub a b) (g : Sub b c) : Sub a c := fun i hi => g i (h i hi)
theorem sub_zero (a : Int) : Sub 0 a := fun i h => by rw [tb_zero] at h; cases h
theorem sub_all {nx : List Int} (hn : nx.length < 62) {a : Int} (ha : InS nx.length a) : Sub a (allOf nx) := fun i h => by
  rw [tb_all hn]
  rcases Nat.lt_or_ge i nx.length with hi | hi
  · simp [hi]
  · rw [tb_ge ha hi] at h; cases h
theorem card_le {n : Nat} {a : Int} : card n a ≤ n := by
  have := List.countP_le_length (p := tb a) (l := List.range n)
  simpa [card] using this
theorem card_mono {n : Nat} {a b : Int} (h : Sub a b) : card n a ≤ card n b := List.countP_mono_left fun i _ hi => h i hi
theorem countP_eq {α : Type} {p q : α → Bool} : ∀ {l : List α}, (∀ x, p x = true → q x = true) → l.countP p = l.countP q → ∀ x ∈ l, p x = q x
  | [], _, _, x, hx => by cases hx
  | a :: l, h, e, x, hx => by
    have hm : l.countP p ≤ l.countP q := List.countP_mono_left fun i _ hi => h i hi
    rw [List.countP_cons, List.countP_cons] at e
    have hpa := h a
    have key : p a = q a ∧ l.countP p = l.countP q := by
      cases h1 : p a <;> cases h2 : q a <;> simp_all <;> omega
    rcases List.mem_cons.1 hx with rfl | hx
    · exact key.1
    · exact countP_eq h key.2 x hx
theorem card_eq {n : Nat} {a b : Int} (ha : InS n a) (hb : InS n b) (h : Sub a b) (e : card n a = card n b) : a = b :=
  inS_ext ha hb fun i hi => countP_eq h e i (List.mem_range.2 hi)
end Go.Proofs.YtjffhhalmicodaaDoor.L
end
end

section
section
namespace Go.Proofs.YtjffhhalmicodaaDoor.L
open Go.RowKit Go.Proofs.YtjffhhalmicodaaDoorW.PrintWords Go.Proofs.YtjffhhalmicodaaDoorW.PrintLast Go.Proofs.YtjffhhalmicodaaDoorW.PrintMore Go.Proofs.YtjffhhalmicodaaDoor.X
structure VW (nx mk : List Int) : Prop where
  pos : 1 ≤ nx.length
  le : nx.length ≤ 6
  len : mk.length = nx.length
  next : ∀ i : Nat, i < nx.length → InS nx.length (rd nx i)
  marks : ∀ i : Nat, i < nx.length → 0 ≤ rd mk i ∧ rd mk i ≤ 15
theorem tb_step {nx : List Int} (hn : nx.length ≤ 61) (p : Int) : InS nx.length (stepTo nx p) ∧ ∀ i, tb (stepTo nx p) i = (decide (i < nx.length) && (bits .and .i64 (rd nx i) p != 0)) := whereTo_spec _ _ hn
theorem tb_box {nx : List Int} (hn : nx.length ≤ 61) (p : Int) : InS nx.length (boxTo nx p) ∧ ∀ i, tb (boxTo nx p) i = (decide (i < nx.length) && (bits .andNot .i64 (rd nx i) p == 0)) := whereTo_spec _ _ hn
theorem step_mono {nx mk : List Int} (hv : VW nx mk) {p q : Int} (hp : InS nx.length p) (hq : InS nx.length q) (h : Sub p q) : Sub (stepTo nx p) (stepTo nx q) := by
  have hle := hv.le
  intro i hi
  rw [(tb_step (by omega) p).2] at hi
  rw [(tb_step (by omega) q).2]
  simp only [Bool.and_eq_true, decide_eq_true_eq, bne_iff_ne] at hi ⊢
  refine ⟨hi.1, fun e => hi.2 ?_⟩
  rw [and_zero (by omega) (hv.next i hi.1) hq] at e
  rw [and_zero (by omega) (hv.next i hi.1) hp]
  intro j hj
  cases h1 : tb p j
  · rfl
  · have := e j hj
    rw [h j h1] at this
    exact this
theorem box_mono {nx mk : List Int} (hv : VW nx mk) {p q : Int} (hp : InS nx.length p) (hq : InS nx.length q) (h : Sub p q) : Sub (boxTo nx p) (boxTo nx q) := by
  have hle := hv.le
  intro i hi
  rw [(tb_box (by omega) p).2] at hi
  rw [(tb_box (by omega) q).2]
  simp only [Bool.and_eq_true, decide_eq_true_eq, beq_iff_eq] at hi ⊢
  refine ⟨hi.1, ?_⟩
  rw [andNot_zero (by omega) (hv.next i hi.1) hq]
  have e := hi.2
  rw [andNot_zero (by omega) (hv.next i hi.1) hp] at e
  exact fun j hj => h j (e j hj)
def mset (mk : List Int) (j : Nat) : Int := whereTo (fun s => markOf mk j s == 1) mk.length
theorem markOf_val {m : Int} (h0 : 0 ≤ m) (h1 : m ≤ 15) {j : Nat} (_hj : j ≤ 3) : bits .and .i64 (m / 2 ^ j) 1 = if tb m j = true then 1 else 0 := by
  obtain ⟨x, rfl⟩ := Int.eq_ofNat_of_zero_le h0
  have hx : x ≤ 15 := by omega
  have e : ((x : Int) / 2 ^ j) = ((x / 2 ^ j : Nat) : Int) := by
    rw [Int.natCast_ediv]; simp
  have hb : x / 2 ^ j < 2 ^ 62 := Nat.lt_of_le_of_lt (Nat.div_le_self _ _) (by omega)
  rw [e, show (1 : Int) = ((1 : Nat) : Int) from rfl, and_nat hb (by decide), tb_nat, Nat.testBit, Nat.shiftRight_eq_div_pow, Nat.and_comm]
  have : 1 &&& x / 2 ^ j = 0 ∨ 1 &&& x / 2 ^ j = 1 := by
    rw [Nat.and_comm, Nat.and_one_is_mod]
    omega
  rcases this with h | h <;> rw [h] <;> rfl
theorem mset_spec {nx mk : List Int} (hv : VW nx mk) {j : Nat} (hj : j ≤ 3) : InS nx.length (mset mk j) ∧ ∀ i, tb (mset mk j) i = (decide (i < nx.length) && tb (rd mk i) j) := by
  have hle := hv.le
  have h := whereTo_spec (fun s => markOf mk j s == 1) mk.length (by rw [hv.len]; omega)
  rw [hv.len] at h
  unfold mset
  rw [hv.len]
  refine ⟨h.1, fun i => ?_⟩
  rw [h.2]
  by_cases hi : i < nx.length
  · have hm := hv.marks i hi
    have := markOf_val hm.1 hm.2 hj
    simp only [markOf, Nat.min_eq_left (show j ≤ 64 by omega)]
    rw [this]
    cases tb (rd mk i) j <;> simp
  · simp [hi]
def InE (n : Nat) (s : Sets) : Prop := ∀ c, InS n (getL c s)
def SubE (s t : Sets) : Prop := ∀ c, Sub (getL c s) (getL c t)
def key (c : Nat) : Nat := if c = 120 then 0 else if c = 121 then 1 else 2
theorem getL_setL (c x : Nat) (v : Int) (s : Sets) : getL c (setL x v s) = if key c = key x then v else getL c s := by
  unfold getL setL key
  by_cases h1 : c = 120 <;> by_cases h2 : x = 120 <;> by_cases h3 : c = 121 <;> by_cases h4 : x = 121 <;> simp_all
theorem inE_set {n : Nat} {s : Sets} (h : InE n s) (x : Nat) {v : Int} (hv : InS n v) : InE n (setL x v s) := fun c => by
  rw [getL_setL]; split
  · exact hv
  · exact h c
theorem subE_set {s t : Sets} (h : SubE s t) (x : Nat) {v u : Int} (hv : Sub v u) : SubE (setL x v s) (setL x u t) := fun c => by
  rw [getL_setL, getL_setL]; split
  · exact hv
  · exact h c
theorem SubE.refl (s : Sets) : SubE s s := fun _ => Sub.refl _
def it (F : Int → Int) (i0 : Int) : Nat → Int
  | 0 => i0
  | k + 1 => F (it F i0 k)
def V (nx mk : List Int) : Fm → Sets → Int
  | .mark neg j, _ => if neg = true then bits .andNot .i64 (allOf nx) (mset mk j) else mset mk j
  | .con c, _ => if c = 116 then allOf nx else 0
  | .var c, s => getL c s
  | .two c a b, s => if c = 38 then bits .and .i64 (V nx mk a s) (V nx mk b s) else bits .or .i64 (V nx mk a s) (V nx mk b s)
  | .one c a, s => if c = 60 then stepTo nx (V nx mk a s) else boxTo nx (V nx mk a s)
  | .fix c x a, s => it (fun t => V nx mk a (setL x t s)) (if c = 103 then allOf nx else 0) nx.length
theorem it_in {n : Nat} {F : Int → Int} {i0 : Int} (h0 : InS n i0) (hF : ∀ t, InS n t → InS n (F t)) : ∀ k, InS n (it F i0 k)
  | 0 => h0
  | k + 1 => hF _ (it_in h0 hF k)
theorem it_sub {n : Nat} {F G : Int → Int} {i0 : Int} (h0 : InS n i0) (hF : ∀ t, InS n t → InS n (F t)) (hG : ∀ t, InS n t → InS n (G t)) (h : ∀ t u, InS n t → InS n u → Sub t u → Sub (F t) (G u)) : ∀ k, Sub (it F i0 k) (it G i0 k)
  | 0 => Sub.refl _
  | k + 1 => h _ _ (it_in h0 hF k) (it_in h0 hG k) (it_sub h0 hF hG h k)
theorem V_spec {nx mk : List Int} (hv : VW nx mk) : ∀ f, WF f → (∀ s, InE nx.length s → InS nx.length (V nx mk f s)) ∧ ∀ s t, InE nx.length s → InE nx.length t → SubE s t → Sub (V nx mk f s) (V nx mk f t) := by
  have hle := hv.le
  intro f
  induction f with
  | mark neg j =>
    intro hw
    refine ⟨fun s _ => ?_, fun s t _ _ _ => Sub.refl _⟩
    simp only [V]
    split
    · exact andNot_in (by omega) (by omega) (all_in (by omega)) (mset_spec hv hw).1
    · exact (mset_spec hv hw).1
  | con c =>
    intro hw
    refine ⟨fun s _ => ?_, fun s t _ _ _ => Sub.refl _⟩
    simp only [V]
    split
    · exact all_in (by omega)
    · exact inS_zero _
  | var c => intro hw; exact ⟨fun s h => h c, fun s t _ _ h => h c⟩
  | two c a b iha ihb =>
    intro hw
    have ha := iha hw.2.1
    have hb := ihb hw.2.2
    refine ⟨fun s h => ?_, fun s t hs ht h => ?_⟩
    · simp only [V]
      split
      · exact and_in (by omega) (ha.1 s h) (hb.1 s h)
      · exact or_in (by omega) (ha.1 s h) (hb.1 s h)
    · simp only [V]
      split
      · intro i hi
        rw [tb_and (by omega) (by omega) (ha.1 s hs) (hb.1 s hs), Bool.and_eq_true] at hi
        rw [tb_and (by omega) (by omega) (ha.1 t ht) (hb.1 t ht), ha.2 s t hs ht h i hi.1, hb.2 s t hs ht h i hi.2]
        rfl
      · intro i hi
        rw [tb_or (by omega) (by omega) (ha.1 s hs) (hb.1 s hs), Bool.or_eq_true] at hi
        rw [tb_or (by omega) (by omega) (ha.1 t ht) (hb.1 t ht), Bool.or_eq_true]
        rcases hi with hi | hi
        · exact .inl (ha.2 s t hs ht h i hi)
        · exact .inr (hb.2 s t hs ht h i hi)
  | one c a iha =>
    intro hw
    have ha := iha hw.2
    refine ⟨fun s h => ?_, fun s t hs ht h => ?_⟩
    · simp only [V]
      split
      · exact (tb_step (by omega) _).1
      · exact (tb_box (by omega) _).1
    · simp only [V]
      split
      · exact step_mono hv (ha.1 s hs) (ha.1 t ht) (ha.2 s t hs ht h)
      · exact box_mono hv (ha.1 s hs) (ha.1 t ht) (ha.2 s t hs ht h)
  | fix c x a iha =>
    intro hw
    have ha := iha hw.2.2
    have h0 : InS nx.length (if c = 103 then allOf nx else 0) := by
      split
      · exact all_in (by omega)
      · exact inS_zero _
    refine ⟨fun s h => ?_, fun s t hs ht h => ?_⟩
    · simp only [V]
      exact it_in h0 (fun t ht => ha.1 _ (inE_set h x ht)) _
    · simp only [V]
      exact it_sub h0 (fun u hu => ha.1 _ (inE_set hs x hu)) (fun u hu => ha.1 _ (inE_set ht x hu)) (fun u v hu hv' huv => ha.2 _ _ (inE_set hs x hu) (inE_set ht x hv') (subE_set h x huv)) _
theorem chain_stands {c : Nat → Int} {F : Int → Int} (hc : ∀ k, c (k + 1) = F (c k)) {φ : Nat → Nat} {n : Nat} (hφ : ∀ k, φ k ≤ n) (hup : ∀ k, φ k ≤ φ (k + 1)) (heq : ∀ k, φ (k + 1) = φ k → c (k + 1) = c k) : ∀ m, n ≤ m → c (m + 1) = c m := by
  have stay : ∀ j, c (j + 1) = c j → ∀ d, c (j + d) = c j := by
    intro j h d
    induction d with
    | zero => rfl
    | succ d ih => rw [← Nat.add_assoc, hc, ih, ← hc, h]
  have key : ∀ m, (∃ j, j < m ∧ c (j + 1) = c j) ∨ m ≤ φ m := by
    intro m
    induction m with
    | zero => exact .inr (Nat.zero_le _)
    | succ m ih =>
      rcases ih with ⟨j, hj, h⟩ | h
      · exact .inl ⟨j, by omega, h⟩
      · by_cases e : φ (m + 1) = φ m
        · exact .inl ⟨m, by omega, heq m e⟩
        · have := hup m
          exact .inr (by omega)
  intro m hm
  rcases key (m + 1) with ⟨j, hj, h⟩ | h
  · have e1 := stay j h (m + 1 - j)
    have e2 := stay j h (m - j)
    rw [show j + (m + 1 - j) = m + 1 by omega] at e1
    rw [show j + (m - j) = m by omega] at e2
    rw [e1, e2]
  · have := hφ (m + 1)
    omega
theorem it_stands {nx mk : List Int} (hv : VW nx mk) {F : Int → Int} {g : Prop} [Decidable g] (hF : ∀ t, InS nx.length t → InS nx.length (F t)) (hm : ∀ t u, InS nx.length t → InS nx.length u → Sub t u → Sub (F t) (F u)) :
    ∀ m, nx.length ≤ m → it F (if g then allOf nx else 0) (m + 1) = it F (if g then allOf nx else 0) m := by
  have hle := hv.le
  have h0 : InS nx.length (if g then allOf nx else 0) := by
    split
    · exact all_in (by omega)
    · exact inS_zero _
  have hin := it_in h0 hF
  by_cases hg : g
  · rw [if_pos hg] at hin ⊢
    have hdown : ∀ k, Sub (it F (allOf nx) (k + 1)) (it F (allOf nx) k) := by
      intro k
      induction k with
      | zero => exact sub_all (by omega) (hin 1)
      | succ k ih => exact hm _ _ (hin (k + 1)) (hin k) ih
    refine chain_stands (F := F) (φ := fun k => nx.length - card nx.length (it F (allOf nx) k)) (fun k => rfl) (fun k => Nat.sub_le _ _) (fun k => ?_) (fun k h => ?_)
    · have := card_mono (n := nx.length) (hdown k)
      show _ - _ ≤ _ - _
      omega
    · have h1 := card_mono (n := nx.length) (hdown k)
      have h2 := card_le (n := nx.length) (a := it F (allOf nx) k)
      have h3 : nx.length - card nx.length (it F (allOf nx) (k + 1)) = nx.length - card nx.length (it F (allOf nx) k) := h
      exact card_eq (hin (k + 1)) (hin k) (hdown k) (by omega)
  · rw [if_neg hg] at hin ⊢
    have hup : ∀ k, Sub (it F 0 k) (it F 0 (k + 1)) := by
      intro k
      induction k with
      | zero => exact sub_zero _
      | succ k ih => exact hm _ _ (hin k) (hin (k + 1)) ih
    refine chain_stands (F := F) (φ := fun k => card nx.length (it F 0 k)) (fun k => rfl) (fun k => card_le) (fun k => card_mono (hup k)) (fun k h => ?_)
    exact (card_eq (hin k) (hin (k + 1)) (hup k) h.symm).symm
end Go.Proofs.YtjffhhalmicodaaDoor.L
end
section
set_option linter.unusedVariables false
namespace Go.Proofs.YtjffhhalmicodaaDoor.L
open Go.RowKit Go.Proofs.YtjffhhalmicodaaDoorW.PrintWords Go.Proofs.YtjffhhalmicodaaDoorW.PrintLast Go.Proofs.YtjffhhalmicodaaDoorW.PrintMore Go.Proofs.YtjffhhalmicodaaDoor.X
theorem lift {α : Type} {f : Nat → Option α} (h : ∀ k, LeO (f k) (f (k + 1))) {k : Nat} {r : α} (hr : f k = some r) : ∀ {m}, k ≤ m → f m = some r := by
  intro m hm
  obtain ⟨d, rfl⟩ := Nat.exists_eq_add_of_le hm
  induction d with
  | zero => exact hr
  | succ d ih => exact h _ _ (ih (by omega))
theorem first_of {P : Nat → Prop} : ∀ n, P n → ∃ J, J ≤ n ∧ P J ∧ ∀ j, j < J → ¬ P j := by
  intro n
  induction n using Nat.strongRecOn with
  | ind n ih =>
    intro h
    by_cases e : ∃ j, j < n ∧ P j
    · obtain ⟨j, hj, hp⟩ := e
      obtain ⟨J, h1, h2⟩ := ih j hj hp
      exact ⟨J, by omega, h2⟩
    · exact ⟨n, Nat.le_refl _, h, fun j hj hp => e ⟨j, hj, hp⟩⟩
theorem it_stay {F : Int → Int} {i0 : Int} {J : Nat} (h : it F i0 (J + 1) = it F i0 J) : ∀ d, it F i0 (J + d) = it F i0 J := by
  intro d
  induction d with
  | zero => rfl
  | succ d ih =>
    show F (it F i0 (J + d)) = _
    rw [ih]
    exact h
theorem wrap_small {c : Int} (h0 : 0 ≤ c) (h1 : c < 1000000) : wrap64 (c + 1) = c + 1 := by unfold wrap64; omega
def i0Of (nx : List Int) (c : Nat) : Int := if c = 103 then allOf nx else 0
def FOf (nx mk : List Int) (x : Nat) (a : Fm) (s : Sets) : Int → Int := fun t => V nx mk a (setL x t s)
theorem i0_in {nx mk : List Int} (hv : VW nx mk) (c : Nat) : InS nx.length (i0Of nx c) := by
  have := hv.le
  unfold i0Of
  split
  · exact all_in (by omega)
  · exact inS_zero _
theorem F_in {nx mk : List Int} (hv : VW nx mk) {x : Nat} {a : Fm} (ha : WF a) {s : Sets} (hs : InE nx.length s) : ∀ t, InS nx.length t → InS nx.length (FOf nx mk x a s t) := fun t ht => (V_spec hv a ha).1 _ (inE_set hs x ht)
theorem F_mono {nx mk : List Int} (hv : VW nx mk) {x : Nat} {a : Fm} (ha : WF a) {s : Sets} (hs : InE nx.length s) : ∀ t u, InS nx.length t → InS nx.length u → Sub t u → Sub (FOf nx mk x a s t) (FOf nx mk x a s u) := fun t u ht hu h => (V_spec hv a ha).2 _ _ (inE_set hs x ht) (inE_set hs x hu) (subE_set (SubE.refl s) x h)
theorem steps_of {nx mk : List Int} (hv : VW nx mk) (c x : Nat) {a : Fm} (ha : WF a) {s : Sets} (hs : InE nx.length s) : ∃ J, J ≤ nx.length ∧ it (FOf nx mk x a s) (i0Of nx c) (J + 1) = it (FOf nx mk x a s) (i0Of nx c) J ∧ (∀ j, j < J → it (FOf nx mk x a s) (i0Of nx c) (j + 1) ≠ it (FOf nx mk x a s) (i0Of nx c) j) ∧ it (FOf nx mk x a s) (i0Of nx c) J = V nx mk (.fix c x a) s := by
  have h := it_stands hv (g := c = 103) (F_in hv (x := x) ha hs) (F_mono hv ha hs) nx.length (Nat.le_refl _)
  obtain ⟨J, h1, h2, h3⟩ := first_of (P := fun j => it (FOf nx mk x a s) (i0Of nx c) (j + 1) = it (FOf nx mk x a s) (i0Of nx c) j) nx.length h
  refine ⟨J, h1, h2, h3, ?_⟩
  have := it_stay h2 (nx.length - J)
  rw [show J + (nx.length - J) = nx.length by omega] at this
  rw [← this]
  rfl
def Sc : List Nat → Fm → Prop
  | _, .mark _ _ => True
  | _, .con _ => True
  | b, .var c => c ∈ b
  | b, .two _ a c => Sc b a ∧ Sc b c
  | b, .one _ a => Sc b a
  | b, .fix _ x a => x ∉ b ∧ Sc (b ++ [x]) a
theorem parse_sc : ∀ n l b f r, parse n l b = some (f, r) → Sc b f := by
  intro n
  induction n with
  | zero => intro l b f r h; simp [parse] at h
  | succ n ih =>
    intro l b f r h
    cases l with
    | nil => simp [parse] at h
    | cons c l =>
      simp only [parse] at h
      by_cases h1 : isMk c = true
      · rw [if_pos h1] at h
        simp only [Option.some.injEq, Prod.mk.injEq] at h
        obtain ⟨rfl, rfl⟩ := h
        trivial
      · rw [if_neg h1] at h
        by_cases h2 : c = 45
        · rw [if_pos h2] at h
          cases l with
          | nil => cases h
          | cons d t =>
            simp only at h
            by_cases h3 : isMk d = true
            · rw [if_pos h3] at h
              simp only [Option.some.injEq, Prod.mk.injEq] at h
              obtain ⟨rfl, rfl⟩ := h
              trivial
            · rw [if_neg h3] at h
              cases h
        · rw [if_neg h2] at h
          by_cases h3 : c = 116 ∨ c = 102
          · rw [if_pos h3] at h
            simp only [Option.some.injEq, Prod.mk.injEq] at h
            obtain ⟨rfl, rfl⟩ := h
            trivial
          · rw [if_neg h3] at h
            by_cases h4 : isLt c = true
            · rw [if_pos h4] at h
              by_cases h5 : c ∈ b
              · rw [if_pos h5] at h
                simp only [Option.some.injEq, Prod.mk.injEq] at h
                obtain ⟨rfl, rfl⟩ := h
                exact h5
              · rw [if_neg h5] at h
                cases h
            · rw [if_neg h4] at h
              by_cases h6 : c = 109 ∨ c = 103
              · rw [if_pos h6] at h
                cases l with
                | nil => cases h
                | cons d t =>
                  simp only at h
                  by_cases h7 : isLt d = true ∧ d ∉ b
                  · rw [if_pos h7] at h
                    obtain ⟨p, hp, h⟩ := Option.bind_eq_some_iff.mp h
                    simp only [Option.some.injEq, Prod.mk.injEq] at h
                    obtain ⟨rfl, rfl⟩ := h
                    exact ⟨h7.2, ih _ _ _ _ hp⟩
                  · rw [if_neg h7] at h
                    cases h
              · rw [if_neg h6] at h
                by_cases h7 : c = 38 ∨ c = 124
                · rw [if_pos h7] at h
                  obtain ⟨p, hp, h⟩ := Option.bind_eq_some_iff.mp h
                  obtain ⟨q, hq, h⟩ := Option.bind_eq_some_iff.mp h
                  simp only [Option.some.injEq, Prod.mk.injEq] at h
                  obtain ⟨rfl, rfl⟩ := h
                  exact ⟨ih _ _ _ _ hp, ih _ _ _ _ hq⟩
                · rw [if_neg h7] at h
                  by_cases h8 : c = 60 ∨ c = 91
                  · rw [if_pos h8] at h
                    obtain ⟨p, hp, h⟩ := Option.bind_eq_some_iff.mp h
                    simp only [Option.some.injEq, Prod.mk.injEq] at h
                    obtain ⟨rfl, rfl⟩ := h
                    exact (show Sc b p.1 from ih l b p.1 p.2 hp)
                  · rw [if_neg h8] at h
                    cases h
def Rel (b : List Nat) (m : List (Int × Int)) (s : Sets) : Prop := ∀ c, c ∈ b → (findL m (c : Int)).getD 0 = getL c s
def Lets (b : List Nat) : Prop := ∀ c, c ∈ b → 120 ≤ c ∧ c ≤ 122
theorem key_ne {c x : Nat} (hc : 120 ≤ c ∧ c ≤ 122) (hx : 120 ≤ x ∧ x ≤ 122) (h : c ≠ x) : key c ≠ key x := by
  unfold key
  split <;> split <;> (try split) <;> (try split) <;> omega
theorem rel_put {b : List Nat} {m : List (Int × Int)} {s : Sets} {x : Nat} (hb : Lets b) (hx : 120 ≤ x ∧ x ≤ 122) (hn : x ∉ b) (h : Rel b m s) (v : Int) : Rel (b ++ [x]) (putL m (x : Int) v) (setL x v s) := by
  intro c hc
  rw [findL_putL, getL_setL]
  by_cases e : x = c
  · subst e
    rw [if_pos rfl, if_pos rfl]
    rfl
  · have hcb : c ∈ b := by
      rcases List.mem_append.1 hc with h | h
      · exact h
      · exact absurd (List.mem_singleton.1 h).symm e
    rw [if_neg (by omega), if_neg (key_ne (hb c hcb) hx (fun h => e h.symm))]
    exact h c hcb
theorem loop_at {nx mk : List Int} {b : List Nat} {x : Nat} {a : Fm} {s : Sets} (hb : Lets b) (hx : 120 ≤ x ∧ x ≤ 122) (hn : x ∉ b) {F : Int → Int} {i0 : Int}
    (hF : ∀ j m, Rel (b ++ [x]) m (setL x (it F i0 j) s) → ∃ k m', holdF nx mk k a m = some (it F i0 (j + 1), m') ∧ ∀ c ∈ b ++ [x], findL m' (c : Int) = findL m (c : Int)) {J : Nat} (hJ : it F i0 (J + 1) = it F i0 J) (hne : ∀ j, j < J → it F i0 (j + 1) ≠ it F i0 j) :
    ∀ d j m (cnt : Int), j + d = J → Rel b m s → 0 ≤ cnt → cnt + d < 1000000 → ∃ k m', loopF nx mk k x a (it F i0 j) cnt m = some (it F i0 J, cnt + d + 1, m') ∧ ∀ c ∈ b, findL m' (c : Int) = findL m (c : Int) := by
  have keep : ∀ (m m' : List (Int × Int)) v, (∀ c ∈ b ++ [x], findL m' (c : Int) = findL (putL m (x : Int) v) (c : Int)) → ∀ c ∈ b, findL m' (c : Int) = findL m (c : Int) := by
    intro m m' v h c hc
    rw [h c (List.mem_append.2 (.inl hc)), findL_putL, if_neg]
    intro e
    have : x = c := by omega
    exact hn (this ▸ hc)
  intro d
  induction d with
  | zero =>
    intro j m cnt hj hr h0 h1
    obtain rfl : j = J := by omega
    obtain ⟨k, m', hk, hm⟩ := hF j _ (rel_put hb hx hn hr (it F i0 j))
    refine ⟨k + 1, m', ?_, keep _ _ _ hm⟩
    rw [loopF, hk]
    simp only [Option.bind_some]
    rw [if_pos hJ, wrap_small h0 (by omega)]
    simp
  | succ d ih =>
    intro j m cnt hj hr h0 h1
    obtain ⟨k, m', hk, hm⟩ := hF j _ (rel_put hb hx hn hr (it F i0 j))
    have hm2 := keep _ _ _ hm
    obtain ⟨k2, m2, hk2, hm3⟩ := ih (j + 1) m' (cnt + 1) (by omega) (fun c hc => by rw [hm2 c hc]; exact hr c hc) (by omega) (by omega)
    refine ⟨max k k2 + 1, m2, ?_, fun c hc => by rw [hm3 c hc, hm2 c hc]⟩
    rw [loopF, lift (fun k => (holdF_mono nx mk k).1 _ _) hk (Nat.le_max_left k k2)]
    simp only [Option.bind_some]
    rw [if_neg (hne j (by omega)), wrap_small h0 (by omega), lift (fun k => (holdF_mono nx mk k).2 _ _ _ _ _) hk2 (Nat.le_max_right k k2)]
    congr 3
    omega
theorem neg_mark {nx mk : List Int} (hv : VW nx mk) {j : Nat} (hj : j ≤ 3) : whereTo (fun s => markOf mk j s == 0) nx.length = bits .andNot .i64 (allOf nx) (mset mk j) := by
  have hle := hv.le
  have h := whereTo_spec (fun s => markOf mk j s == 0) nx.length (by omega)
  have hm := mset_spec hv hj
  refine inS_ext h.1 (andNot_in (by omega) (by omega) (all_in (by omega)) hm.1) fun i hi => ?_
  rw [h.2, tb_andNot (by omega) (by omega) (all_in (by omega)) hm.1, hm.2, tb_all (by omega)]
  have hmi := hv.marks i hi
  have := markOf_val hmi.1 hmi.2 hj
  simp only [markOf, Nat.min_eq_left (show j ≤ 64 by omega)]
  rw [this]
  cases tb (rd mk i) j <;> simp [hi]
theorem hold_total {nx mk : List Int} (hv : VW nx mk) : ∀ f, WF f → ∀ b m s, Lets b → Sc b f → Rel b m s → InE nx.length s → ∃ k m', holdF nx mk k f m = some (V nx mk f s, m') ∧ ∀ c ∈ b, findL m' (c : Int) = findL m (c : Int) := by
  have hle := hv.le
  intro f
  induction f with
  | mark neg j =>
    intro hw b m s hb hsc hr hs
    refine ⟨1, m, ?_, fun _ _ => rfl⟩
    rw [holdF, V]
    cases neg with
    | true =>
      simp only [if_true]
      rw [neg_mark hv hw]
    | false =>
      simp only [Bool.false_eq_true, if_false]
      rw [mset, hv.len]
  | con c =>
    intro hw b m s hb hsc hr hs
    refine ⟨1, m, ?_, fun _ _ => rfl⟩
    rw [holdF, V]
    rcases hw with rfl | rfl
    · rfl
    · rfl
  | var c =>
    intro hw b m s hb hsc hr hs
    refine ⟨1, m, ?_, fun _ _ => rfl⟩
    rw [holdF, V, hr c hsc]
  | two c a b' iha ihb =>
    intro hw b m s hb hsc hr hs
    obtain ⟨k1, m1, h1, g1⟩ := iha hw.2.1 b m s hb hsc.1 hr hs
    obtain ⟨k2, m2, h2, g2⟩ := ihb hw.2.2 b m1 s hb hsc.2 (fun c hc => by rw [g1 c hc]; exact hr c hc) hs
    refine ⟨max k1 k2 + 1, m2, ?_, fun c hc => by rw [g2 c hc, g1 c hc]⟩
    rw [holdF, if_pos hw.1, lift (fun k => (holdF_mono nx mk k).1 _ _) h1 (Nat.le_max_left k1 k2)]
    simp only [Option.bind_some]
    rw [lift (fun k => (holdF_mono nx mk k).1 _ _) h2 (Nat.le_max_right k1 k2), V]
    rfl
  | one c a iha =>
    intro hw b m s hb hsc hr hs
    obtain ⟨k1, m1, h1, g1⟩ := iha hw.2 b m s hb hsc hr hs
    refine ⟨k1 + 1, m1, ?_, g1⟩
    rw [holdF, if_pos hw.1, h1, V]
    rfl
  | fix c x a iha =>
    intro hw b m s hb hsc hr hs
    obtain ⟨J, hJ, h1, h2, h3⟩ := steps_of hv c x hw.2.2 hs
    have hb2 : Lets (b ++ [x]) := fun c hc => by
      rcases List.mem_append.1 hc with h | h
      · exact hb c h
      · rw [List.mem_singleton.1 h]; exact hw.2.1
    obtain ⟨k, m', hk, hm⟩ := loop_at (nx := nx) (mk := mk) (a := a) (s := s) hb hw.2.1 hsc.1 (fun j m hr => iha hw.2.2 (b ++ [x]) m _ hb2 hsc.2 hr (inE_set hs x (it_in (i0_in hv c) (F_in hv hw.2.2 hs) j))) h1 h2 J 0 m 0 (by omega) hr (by omega) (by omega)
    refine ⟨k + 1, m', ?_, hm⟩
    rw [holdF, if_pos hw.1]
    have e : it (FOf nx mk x a s) (i0Of nx c) 0 = if c = 103 then allOf nx else 0 := rfl
    rw [e] at hk
    rw [hk, ← h3]
    rfl
theorem inE_zero (n : Nat) : InE n (0, 0, 0) := fun c => by
  unfold getL
  split
  · exact inS_zero n
  · split <;> exact inS_zero n
end Go.Proofs.YtjffhhalmicodaaDoor.L
end
section
namespace Go.Proofs.YtjffhhalmicodaaDoor.PB
open Go.RowKit Go.Proofs.YtjffhhalmicodaaDoorW.PrintWords Go.Proofs.YtjffhhalmicodaaDoorW.PrintLast Go.Proofs.YtjffhhalmicodaaDoorW.PrintMore
attribute [local go_sem] max2_int min2_int max_two min_two max_three min_three max_four min_four
set_option linter.unusedVariables false
set_option linter.unusedSimpArgs false
def errW : Option Int → Value
  | none => .nilIface
  | some c => .iface 0 (.int .i64 c)
theorem errW_none : errW none = .nilIface := rfl
theorem errW_some (c : Int) : errW (some c) = .iface 0 (.int .i64 c) := rfl
end Go.Proofs.YtjffhhalmicodaaDoor.PB
end
end
