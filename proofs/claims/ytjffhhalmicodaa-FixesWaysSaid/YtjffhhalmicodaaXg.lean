import Derived.Test.YtjffhhalmicodaaXf
set_option linter.unusedVariables false
set_option linter.unusedSimpArgs false
namespace Go.Proofs.Ytjffhhalmicodaa.X
open Go.RowKit Go.Proofs.YtjffhhalmicodaaW.PrintWords Go.Proofs.YtjffhhalmicodaaW.PrintLast Go.Proofs.YtjffhhalmicodaaW.PrintMore

/-- What reading leaves: a formula and the rest, or nothing. -/
def ReadPost (o : Option (Fm × List Nat)) (w0 w : World) (g : Nat) (b : ByteArray) (e : Ending) (w' : World) : Prop :=
  Below w0.heap.size w0 w' ∧ KeepBut w w' g none ∧ match o with
    | none => e = .returned (.pointer none) ∧ ∃ s' b', PA.IsS93 w0 w' g s' b'
    | some p => ∃ v s', e = .returned v ∧ Tree w' (fun k => w.heap.size ≤ k) p.1 v ∧ PA.IsS93 w0 w' g s' b ∧ cs s' = p.2

theorem mark_yes {c : Nat} (h : isMk c = true) : PA.fixes_isMark.f (c : Int) = some true := by
  unfold isMk at h
  simp only [Bool.and_eq_true, decide_eq_true_eq] at h
  unfold PA.fixes_isMark.f
  rw [if_pos (by omega)]
  simp; omega
theorem mark_no {c : Nat} (h : isMk c = false) : PA.fixes_isMark.f (c : Int) = some false := by
  unfold isMk at h
  simp only [Bool.and_eq_false_iff, decide_eq_false_iff_not] at h
  unfold PA.fixes_isMark.f
  split
  · simp; omega
  · rfl
theorem letter_yes {c : Nat} (h : isLt c = true) : PA.fixes_isLetter.f (c : Int) = some true := by
  unfold isLt at h
  simp only [Bool.and_eq_true, decide_eq_true_eq] at h
  unfold PA.fixes_isLetter.f
  rw [if_pos (by omega)]
  simp; omega
theorem letter_no {c : Nat} (h : isLt c = false) : PA.fixes_isLetter.f (c : Int) = some false := by
  unfold isLt at h
  simp only [Bool.and_eq_false_iff, decide_eq_false_iff_not] at h
  unfold PA.fixes_isLetter.f
  split
  · simp; omega
  · rfl

/-- the reader's state, in a world behind the one in which the call began -/
structure Rd (w0 w : World) (g : Nat) (s b : ByteArray) (W : World) : Prop where
  is : PA.IsS93 w0 W g s b
  below : Below w0.heap.size w0 W
  keep : KeepBut w W g none
theorem Rd.drawn {w0 w W W1 : World} {g : Nat} {s b : ByteArray} (h : Rd w0 w g s b W) (hd : Drawn0 W W1) : Rd w0 w g s b W1 := by
  obtain ⟨⟨q, rfl⟩⟩ := hd
  exact ⟨PA.IsS93.drewN h.is q, pw_below_drewN h.below q, keep_drewN h.keep q⟩
theorem Rd.step {w0 w W W1 : World} {g : Nat} {s b : ByteArray} (h : Rd w0 w g s b W) (hb : Below W.heap.size W W1) : Rd w0 w g s b W1 :=
  ⟨h.is.below hb, below_step h.below hb, h.keep.trans (KeepBut.of_below hb g none) (Or.inl rfl)⟩
theorem Rd.next {w0 w W W1 : World} {g : Nat} {s b s' b' : ByteArray} (h : Rd w0 w g s b W) (h1 : PA.IsS93 w0 W1 g s' b') (h2 : Below w0.heap.size w0 W1) (h3 : KeepBut W W1 g none) : Rd w0 w g s' b' W1 :=
  ⟨h1, h2, h.keep.trans h3 (Or.inl rfl)⟩
theorem Rd.start {w0 w : World} {g : Nat} {s b : ByteArray} (h1 : PA.IsS93 w0 w g s b) (h2 : Below w0.heap.size w0 w) : Rd w0 w g s b w := ⟨h1, h2, KeepBut.refl w g none⟩

theorem idx_out {c : Nat} {b : ByteArray} (hc : c < 256) (h : c ∉ cs b) : Lib.indexByte b.data.toList ((c : Int)).toNat.toUInt8 < 0 := by
  have h1 := Lib.indexByte_ge b.data.toList ((c : Int)).toNat.toUInt8
  rcases Int.lt_or_le (Lib.indexByte b.data.toList ((c : Int)).toNat.toUInt8) 0 with h2 | h2
  · exact h2
  · exfalso
    obtain ⟨o, ho⟩ := Int.eq_ofNat_of_zero_le h2
    have h3 := (Lib.indexByte_some ho).1
    apply h
    unfold cs
    rw [List.mem_map]
    refine ⟨_, List.mem_of_getElem? h3, ?_⟩
    simp
    omega
theorem idx_in {c : Nat} {b : ByteArray} (h : c ∈ cs b) : 0 ≤ Lib.indexByte b.data.toList ((c : Int)).toNat.toUInt8 := by
  have h1 := Lib.indexByte_ge b.data.toList ((c : Int)).toNat.toUInt8
  rcases Int.lt_or_le (Lib.indexByte b.data.toList ((c : Int)).toNat.toUInt8) 0 with h2 | h2
  · exfalso
    have h3 := Lib.indexByte_none (show Lib.indexByte b.data.toList ((c : Int)).toNat.toUInt8 = -1 by omega)
    unfold cs at h
    rw [List.mem_map] at h
    obtain ⟨x, hx, he⟩ := h
    obtain ⟨k, hk⟩ := List.mem_iff_getElem?.1 hx
    apply h3 k
    rw [hk, ← he]
    simp
  · exact h2

theorem Node.leaf (W : World) {ok : Nat → Prop} (ho : ok W.heap.size) (d m nm : Int) : Node (W.alloc (.cells #[.int .u8 d, .int .i64 m, .int .u8 nm, .slice none 0 0] 74)) ok (.pointer (some ⟨W.heap.size, 0, none⟩)) d m nm [] :=
  ⟨W.heap.size, 0, 0, 0, rfl, ho, fun h => absurd rfl h, by simp, by simp, by simp, by simp, fun i u h => by simp at h⟩
theorem post_leaf {f : Fm} {r : List Nat} {w0 w W : World} {g : Nat} {s' b : ByteArray} {o : Obj} (h : Rd w0 w g s' b W) (hr : cs s' = r)
    (hT : Tree (W.alloc o) (fun k => w.heap.size ≤ k) f (.pointer (some ⟨W.heap.size, 0, none⟩))) : ReadPost (some (f, r)) w0 w g b (.returned (.pointer (some ⟨W.heap.size, 0, none⟩))) (W.alloc o) :=
  have h1 := h.step (below_alloc (Below.refl _ _) o)
  ⟨h1.below, h1.keep, _, s', rfl, hT, h1.is, hr⟩
theorem post_nil {w0 w W : World} {g : Nat} {s' b' b : ByteArray} (h : Rd w0 w g s' b' W) : ReadPost none w0 w g b (.returned (.pointer none)) W :=
  ⟨h.below, h.keep, rfl, s', b', h.is⟩

set_option maxRecDepth 100000 in
set_option maxHeartbeats 2000000 in
theorem read_mark (g : Nat) (s b : ByteArray) (w0 w : World) (hI : PA.IsS93 w0 w g s b) (hB : Below w0.heap.size w0 w) (c : Nat) (r : List Nat) (hs : cs s = c :: r) (hm : isMk c = true) :
    Calls Try.prog 75 #[.pointer (some ⟨g, 0, none⟩)] w (ReadPost (some (.mark false (c - 48), r)) w0 w g b) := by
  obtain ⟨ht, hr⟩ := take_cons (b := b) hs
  have HT := Lib.hid ht
  have HC := Lib.hid hr
  clear ht hr hs
  have HM := Lib.hid (mark_yes hm)
  have hc : 48 ≤ c ∧ c ≤ 51 := by simpa [isMk] using hm
  obtain ⟨hc1, hc2⟩ := hc
  clear hm
  have HR := Lib.hid (Rd.start hI hB)
  clear hI hB
  go_enter Try.func75, Try.ntmps75
  go_wp2_with fail
  refine (PA.fixes_reader_take.calls g s b c (s.extract 1 s.size) b w0 _ HR.out.is HR.out.below HT.out).mono ?_
  rintro e w1 ⟨rfl, hI, hB, hk⟩
  have n0_ := Lib.hid (HR.out.next hI hB hk)
  clear HR hI hB hk
  have HR := n0_
  clear n0_
  go_wp2_with fail
  refine (PA.fixes_isMark.calls c true _ HM.out).mono ?_
  rintro e w2 ⟨rfl, hd⟩
  have n0_ := Lib.hid (HR.out.drawn hd)
  clear HR hd
  have HR := n0_
  clear n0_
  go_wp2
  go_ret
  refine post_leaf HR.out HC.out ?_
  simp only [Tree]
  rw [show ((c - 48 : Nat) : Int) = (c : Int) - 48 by omega]
  exact Node.leaf _ HR.out.keep.1 _ _ _

set_option maxRecDepth 100000 in
set_option maxHeartbeats 2000000 in
theorem read_end (g : Nat) (s b : ByteArray) (w0 w : World) (hI : PA.IsS93 w0 w g s b) (hB : Below w0.heap.size w0 w) (hs : cs s = []) :
    Calls Try.prog 75 #[.pointer (some ⟨g, 0, none⟩)] w (ReadPost none w0 w g b) := by
  have HT := Lib.hid (take_nil (b := b) hs)
  have HM := Lib.hid (show PA.fixes_isMark.f 0 = some false from mark_no (c := 0) rfl)
  have HL := Lib.hid (show PA.fixes_isLetter.f 0 = some false from letter_no (c := 0) rfl)
  clear hs
  have HR := Lib.hid (Rd.start hI hB)
  clear hI hB
  go_enter Try.func75, Try.ntmps75
  go_wp2_with fail
  refine (PA.fixes_reader_take.calls g s b 0 s b w0 _ HR.out.is HR.out.below HT.out).mono ?_
  rintro e w3 ⟨rfl, hI, hB, hk⟩
  have n0_ := Lib.hid (HR.out.next hI hB hk)
  clear HR hI hB hk
  have HR := n0_
  clear n0_
  go_wp2_with fail
  refine (PA.fixes_isMark.calls 0 false _ HM.out).mono ?_
  rintro e w4 ⟨rfl, hd⟩
  have n0_ := Lib.hid (HR.out.drawn hd)
  clear HR hd
  have HR := n0_
  clear n0_
  go_wp2_with fail
  refine (PA.fixes_isLetter.calls 0 false _ HL.out).mono ?_
  rintro e w5 ⟨rfl, hd⟩
  have n0_ := Lib.hid (HR.out.drawn hd)
  clear HR hd
  have HR := n0_
  clear n0_
  have hz0 : ∀ w, (zeroValue 3).run Try.prog w = .ok (.int .i64 0) w := fun _ => by kernel_rfl
  have HZ := Lib.hid hz0
  have HF := Lib.hid (show (findL (putL (putL (putL (putL ([] : List (Int × Int)) 38 2) 124 2) 60 1) 91 1) (0 : Int)).getD 0 = 0 from by decide)
  clear hz0
  go_wp2_with (first | ((with_reducible refine gate_op (op := .makeMap 64 none) rfl ?_); refine map_make_event rfl 64 rfl ?_; intro r0 wm hr0 hm hb; have HM_ := Lib.hid (IsM.mk' (enc := Value.int .u8) (encv := Value.int .i64) (l := []) hm rfl); have HW_ := Lib.hid hb; have HZ_ := Lib.hid (Nat.le_of_eq hr0.symm); clear hm hb hr0) | ((with_reducible refine gate_op (op := .insert 64 (.tmp 63) (.const (.int .u8 38)) (.const (.int .i64 2))) rfl ?_); refine map_put_event rfl 64 (.tmp 63) (.const (.int .u8 38)) (.const (.int .i64 2)) (Or.inl rfl) Try.underlying64 (keyOk_int Try.underlying5) (enc := Value.int .u8) (encv := Value.int .i64) 38 2 rfl rfl rfl HM_.out ?_; intro wm hm _ hb; have n0_ := Lib.hid hm; have n1_ := Lib.hid (hb _ _ HW_.out HZ_.out); clear hm hb HM_ HW_; have HM_ := n0_; have HW_ := n1_; clear n0_ n1_) | ((with_reducible refine gate_op (op := .insert 64 (.tmp 63) (.const (.int .u8 124)) (.const (.int .i64 2))) rfl ?_); refine map_put_event rfl 64 (.tmp 63) (.const (.int .u8 124)) (.const (.int .i64 2)) (Or.inl rfl) Try.underlying64 (keyOk_int Try.underlying5) (enc := Value.int .u8) (encv := Value.int .i64) 124 2 rfl rfl rfl HM_.out ?_; intro wm hm _ hb; have n0_ := Lib.hid hm; have n1_ := Lib.hid (hb _ _ HW_.out HZ_.out); clear hm hb HM_ HW_; have HM_ := n0_; have HW_ := n1_; clear n0_ n1_) | ((with_reducible refine gate_op (op := .insert 64 (.tmp 63) (.const (.int .u8 60)) (.const (.int .i64 1))) rfl ?_); refine map_put_event rfl 64 (.tmp 63) (.const (.int .u8 60)) (.const (.int .i64 1)) (Or.inl rfl) Try.underlying64 (keyOk_int Try.underlying5) (enc := Value.int .u8) (encv := Value.int .i64) 60 1 rfl rfl rfl HM_.out ?_; intro wm hm _ hb; have n0_ := Lib.hid hm; have n1_ := Lib.hid (hb _ _ HW_.out HZ_.out); clear hm hb HM_ HW_; have HM_ := n0_; have HW_ := n1_; clear n0_ n1_) | ((with_reducible refine gate_op (op := .insert 64 (.tmp 63) (.const (.int .u8 91)) (.const (.int .i64 1))) rfl ?_); refine map_put_event rfl 64 (.tmp 63) (.const (.int .u8 91)) (.const (.int .i64 1)) (Or.inl rfl) Try.underlying64 (keyOk_int Try.underlying5) (enc := Value.int .u8) (encv := Value.int .i64) 91 1 rfl rfl rfl HM_.out ?_; intro wm hm _ hb; have n0_ := Lib.hid hm; have n1_ := Lib.hid (hb _ _ HW_.out HZ_.out); clear hm hb HM_ HW_; have HM_ := n0_; have HW_ := n1_; clear n0_ n1_) | ((with_reducible refine gate_dst (N := 66) rfl ?_); refine map_get_event rfl 64 (.tmp 64) (.tmp 65) false rfl Try.underlying64 (enc := Value.int .u8) (encv := Value.int .i64) HZ.out (keyOk_int Try.underlying5) 0 rfl rfl HM_.out ?_; rw [HF.out]; simp only [Bool.false_eq_true, if_false]; have n0_ := Lib.hid (HR.out.step HW_.out); clear HR HM_ HW_ HZ_; have HR := n0_; clear n0_) | fail)
  go_wp2
  go_ret
  exact post_nil HR.out

set_option maxRecDepth 100000 in
set_option maxHeartbeats 2000000 in
theorem read_con116 (g : Nat) (s b : ByteArray) (w0 w : World) (hI : PA.IsS93 w0 w g s b) (hB : Below w0.heap.size w0 w) (r : List Nat) (hs : cs s = 116 :: r) :
    Calls Try.prog 75 #[.pointer (some ⟨g, 0, none⟩)] w (ReadPost (some (.con 116, r)) w0 w g b) := by
  obtain ⟨ht, hr⟩ := take_cons (b := b) hs
  have HT := Lib.hid ht
  have HC := Lib.hid hr
  clear ht hr hs
  have HM := Lib.hid (show PA.fixes_isMark.f ((116 : Nat) : Int) = some false from mark_no rfl)
  have HR := Lib.hid (Rd.start hI hB)
  clear hI hB
  go_enter Try.func75, Try.ntmps75
  go_wp2_with fail
  refine (PA.fixes_reader_take.calls g s b ((116 : Nat) : Int) (s.extract 1 s.size) b w0 _ HR.out.is HR.out.below HT.out).mono ?_
  rintro e w6 ⟨rfl, hI, hB, hk⟩
  have n0_ := Lib.hid (HR.out.next hI hB hk)
  clear HR hI hB hk
  have HR := n0_
  clear n0_
  go_wp2_with fail
  refine (PA.fixes_isMark.calls ((116 : Nat) : Int) false _ HM.out).mono ?_
  rintro e w7 ⟨rfl, hd⟩
  have n0_ := Lib.hid (HR.out.drawn hd)
  clear HR hd
  have HR := n0_
  clear n0_
  go_wp2
  go_ret
  exact post_leaf HR.out HC.out (Node.leaf _ HR.out.keep.1 _ _ _)

set_option maxRecDepth 100000 in
set_option maxHeartbeats 2000000 in
theorem read_con102 (g : Nat) (s b : ByteArray) (w0 w : World) (hI : PA.IsS93 w0 w g s b) (hB : Below w0.heap.size w0 w) (r : List Nat) (hs : cs s = 102 :: r) :
    Calls Try.prog 75 #[.pointer (some ⟨g, 0, none⟩)] w (ReadPost (some (.con 102, r)) w0 w g b) := by
  obtain ⟨ht, hr⟩ := take_cons (b := b) hs
  have HT := Lib.hid ht
  have HC := Lib.hid hr
  clear ht hr hs
  have HM := Lib.hid (show PA.fixes_isMark.f ((102 : Nat) : Int) = some false from mark_no rfl)
  have HR := Lib.hid (Rd.start hI hB)
  clear hI hB
  go_enter Try.func75, Try.ntmps75
  go_wp2_with fail
  refine (PA.fixes_reader_take.calls g s b ((102 : Nat) : Int) (s.extract 1 s.size) b w0 _ HR.out.is HR.out.below HT.out).mono ?_
  rintro e w8 ⟨rfl, hI, hB, hk⟩
  have n0_ := Lib.hid (HR.out.next hI hB hk)
  clear HR hI hB hk
  have HR := n0_
  clear n0_
  go_wp2_with fail
  refine (PA.fixes_isMark.calls ((102 : Nat) : Int) false _ HM.out).mono ?_
  rintro e w9 ⟨rfl, hd⟩
  have n0_ := Lib.hid (HR.out.drawn hd)
  clear HR hd
  have HR := n0_
  clear n0_
  go_wp2
  go_ret
  exact post_leaf HR.out HC.out (Node.leaf _ HR.out.keep.1 _ _ _)

set_option maxRecDepth 100000 in
set_option maxHeartbeats 2000000 in
theorem read_dash (g : Nat) (s b : ByteArray) (w0 w : World) (hI : PA.IsS93 w0 w g s b) (hB : Below w0.heap.size w0 w) (d : Nat) (r : List Nat) (hs : cs s = 45 :: d :: r) (hm : isMk d = true) :
    Calls Try.prog 75 #[.pointer (some ⟨g, 0, none⟩)] w (ReadPost (some (.mark true (d - 48), r)) w0 w g b) := by
  obtain ⟨ht, hr⟩ := take_cons (b := b) hs
  have HT := Lib.hid ht
  have HC := Lib.hid hr
  clear ht hr hs
  obtain ⟨ht, hr⟩ := take_cons (b := b) HC.out
  have HT2 := Lib.hid ht
  have HC2 := Lib.hid hr
  clear ht hr HC
  have HM := Lib.hid (show PA.fixes_isMark.f ((45 : Nat) : Int) = some false from mark_no rfl)
  have HM2 := Lib.hid (mark_yes hm)
  have hc : 48 ≤ d ∧ d ≤ 51 := by simpa [isMk] using hm
  obtain ⟨hc1, hc2⟩ := hc
  clear hm
  generalize s.extract 1 s.size = s1 at HT HT2 HC2
  have HR := Lib.hid (Rd.start hI hB)
  clear hI hB
  go_enter Try.func75, Try.ntmps75
  go_wp2_with fail
  refine (PA.fixes_reader_take.calls g s b ((45 : Nat) : Int) s1 b w0 _ HR.out.is HR.out.below HT.out).mono ?_
  rintro e w10 ⟨rfl, hI, hB, hk⟩
  have n0_ := Lib.hid (HR.out.next hI hB hk)
  clear HR hI hB hk
  have HR := n0_
  clear n0_
  go_wp2_with fail
  refine (PA.fixes_isMark.calls ((45 : Nat) : Int) false _ HM.out).mono ?_
  rintro e w11 ⟨rfl, hd⟩
  have n0_ := Lib.hid (HR.out.drawn hd)
  clear HR hd
  have HR := n0_
  clear n0_
  go_wp2_with fail
  refine (PA.fixes_reader_take.calls g s1 b d _ b w0 _ HR.out.is HR.out.below HT2.out).mono ?_
  rintro e w12 ⟨rfl, hI, hB, hk⟩
  have n0_ := Lib.hid (HR.out.next hI hB hk)
  clear HR hI hB hk
  have HR := n0_
  clear n0_
  go_wp2_with fail
  refine (PA.fixes_isMark.calls d true _ HM2.out).mono ?_
  rintro e w13 ⟨rfl, hd⟩
  have n0_ := Lib.hid (HR.out.drawn hd)
  clear HR hd
  have HR := n0_
  clear n0_
  go_wp2
  go_ret
  refine post_leaf HR.out HC2.out ?_
  simp only [Tree]
  rw [show ((d - 48 : Nat) : Int) = (d : Int) - 48 by omega]
  exact Node.leaf _ HR.out.keep.1 _ _ _

set_option maxRecDepth 100000 in
set_option maxHeartbeats 2000000 in
theorem read_dash_no (g : Nat) (s b : ByteArray) (w0 w : World) (hI : PA.IsS93 w0 w g s b) (hB : Below w0.heap.size w0 w) (d : Nat) (r : List Nat) (hs : cs s = 45 :: d :: r) (hm : isMk d = false) :
    Calls Try.prog 75 #[.pointer (some ⟨g, 0, none⟩)] w (ReadPost none w0 w g b) := by
  obtain ⟨ht, hr⟩ := take_cons (b := b) hs
  have HT := Lib.hid ht
  have HC := Lib.hid hr
  clear ht hr hs
  obtain ⟨ht, hr⟩ := take_cons (b := b) HC.out
  have HT2 := Lib.hid ht
  clear ht hr HC
  have HM := Lib.hid (show PA.fixes_isMark.f ((45 : Nat) : Int) = some false from mark_no rfl)
  have HM2 := Lib.hid (mark_no hm)
  clear hm
  generalize s.extract 1 s.size = s1 at HT HT2
  have HR := Lib.hid (Rd.start hI hB)
  clear hI hB
  go_enter Try.func75, Try.ntmps75
  go_wp2_with fail
  refine (PA.fixes_reader_take.calls g s b ((45 : Nat) : Int) s1 b w0 _ HR.out.is HR.out.below HT.out).mono ?_
  rintro e w14 ⟨rfl, hI, hB, hk⟩
  have n0_ := Lib.hid (HR.out.next hI hB hk)
  clear HR hI hB hk
  have HR := n0_
  clear n0_
  go_wp2_with fail
  refine (PA.fixes_isMark.calls ((45 : Nat) : Int) false _ HM.out).mono ?_
  rintro e w15 ⟨rfl, hd⟩
  have n0_ := Lib.hid (HR.out.drawn hd)
  clear HR hd
  have HR := n0_
  clear n0_
  go_wp2_with fail
  refine (PA.fixes_reader_take.calls g s1 b d _ b w0 _ HR.out.is HR.out.below HT2.out).mono ?_
  rintro e w16 ⟨rfl, hI, hB, hk⟩
  have n0_ := Lib.hid (HR.out.next hI hB hk)
  clear HR hI hB hk
  have HR := n0_
  clear n0_
  go_wp2_with fail
  refine (PA.fixes_isMark.calls d false _ HM2.out).mono ?_
  rintro e w17 ⟨rfl, hd⟩
  have n0_ := Lib.hid (HR.out.drawn hd)
  clear HR hd
  have HR := n0_
  clear n0_
  go_wp2
  go_ret
  exact post_nil HR.out

set_option maxRecDepth 100000 in
set_option maxHeartbeats 2000000 in
theorem read_dash_end (g : Nat) (s b : ByteArray) (w0 w : World) (hI : PA.IsS93 w0 w g s b) (hB : Below w0.heap.size w0 w) (hs : cs s = [45]) :
    Calls Try.prog 75 #[.pointer (some ⟨g, 0, none⟩)] w (ReadPost none w0 w g b) := by
  obtain ⟨ht, hr⟩ := take_cons (b := b) hs
  have HT := Lib.hid ht
  have HC := Lib.hid hr
  clear ht hr hs
  have HT2 := Lib.hid (take_nil (b := b) HC.out)
  clear HC
  have HM := Lib.hid (show PA.fixes_isMark.f ((45 : Nat) : Int) = some false from mark_no rfl)
  have HM2 := Lib.hid (show PA.fixes_isMark.f 0 = some false from mark_no (c := 0) rfl)
  generalize s.extract 1 s.size = s1 at HT HT2
  have HR := Lib.hid (Rd.start hI hB)
  clear hI hB
  go_enter Try.func75, Try.ntmps75
  go_wp2_with fail
  refine (PA.fixes_reader_take.calls g s b ((45 : Nat) : Int) s1 b w0 _ HR.out.is HR.out.below HT.out).mono ?_
  rintro e w18 ⟨rfl, hI, hB, hk⟩
  have n0_ := Lib.hid (HR.out.next hI hB hk)
  clear HR hI hB hk
  have HR := n0_
  clear n0_
  go_wp2_with fail
  refine (PA.fixes_isMark.calls ((45 : Nat) : Int) false _ HM.out).mono ?_
  rintro e w19 ⟨rfl, hd⟩
  have n0_ := Lib.hid (HR.out.drawn hd)
  clear HR hd
  have HR := n0_
  clear n0_
  go_wp2_with fail
  refine (PA.fixes_reader_take.calls g s1 b 0 s1 b w0 _ HR.out.is HR.out.below HT2.out).mono ?_
  rintro e w20 ⟨rfl, hI, hB, hk⟩
  have n0_ := Lib.hid (HR.out.next hI hB hk)
  clear HR hI hB hk
  have HR := n0_
  clear n0_
  go_wp2_with fail
  refine (PA.fixes_isMark.calls 0 false _ HM2.out).mono ?_
  rintro e w21 ⟨rfl, hd⟩
  have n0_ := Lib.hid (HR.out.drawn hd)
  clear HR hd
  have HR := n0_
  clear n0_
  go_wp2
  go_ret
  exact post_nil HR.out

set_option maxRecDepth 100000 in
set_option maxHeartbeats 2000000 in
theorem read_var (g : Nat) (s b : ByteArray) (w0 w : World) (hI : PA.IsS93 w0 w g s b) (hB : Below w0.heap.size w0 w) (c : Nat) (r : List Nat) (hs : cs s = c :: r) (hm : isLt c = true) (hb : c ∈ cs b) :
    Calls Try.prog 75 #[.pointer (some ⟨g, 0, none⟩)] w (ReadPost (some (.var c, r)) w0 w g b) := by
  obtain ⟨ht, hr⟩ := take_cons (b := b) hs
  have HT := Lib.hid ht
  have HC := Lib.hid hr
  clear ht hr hs
  have HM := Lib.hid (show PA.fixes_isMark.f (c : Int) = some false from mark_no (by simp [isLt] at hm; simp [isMk]; omega))
  have HL := Lib.hid (letter_yes hm)
  have hc : 120 ≤ c ∧ c ≤ 122 := by simpa [isLt] using hm
  obtain ⟨hc1, hc2⟩ := hc
  clear hm
  have e1 : ((c : Int) == 116) = false := beq_eq_false_iff_ne.2 (by omega)
  have e2 : ((c : Int) == 102) = false := beq_eq_false_iff_ne.2 (by omega)
  have hix := idx_in hb
  generalize hIe : Lib.indexByte b.data.toList ((c : Int)).toNat.toUInt8 = ix at hix
  have HIX := Lib.hid hIe
  clear hIe hb
  have HR := Lib.hid (Rd.start hI hB)
  clear hI hB
  go_enter Try.func75, Try.ntmps75
  go_wp2_with fail
  refine (PA.fixes_reader_take.calls g s b c (s.extract 1 s.size) b w0 _ HR.out.is HR.out.below HT.out).mono ?_
  rintro e w22 ⟨rfl, hI, hB, hk⟩
  have n0_ := Lib.hid (HR.out.next hI hB hk)
  clear HR hI hB hk
  have HR := n0_
  clear n0_
  go_wp2_with fail
  refine (PA.fixes_isMark.calls c false _ HM.out).mono ?_
  rintro e w23 ⟨rfl, hd⟩
  have n0_ := Lib.hid (HR.out.drawn hd)
  clear HR hd
  have HR := n0_
  clear n0_
  go_wp2_with fail
  refine (PA.fixes_isLetter.calls c true _ HL.out).mono ?_
  rintro e w24 ⟨rfl, hd⟩
  have n0_ := Lib.hid (HR.out.drawn hd)
  clear HR hd
  have HR := n0_
  clear n0_
  obtain ⟨HG, hg⟩ := HR.out.is
  have hcell := PA.cellS93_1 HG
  clear HG hg
  go_wp2_with fail
  refine (Try.strings_IndexByte b c _).mono ?_
  rintro e wi ⟨rfl, rfl⟩
  rw [HIX.out]
  go_wp2
  go_ret
  exact post_leaf HR.out HC.out (Node.leaf _ HR.out.keep.1 _ _ _)

set_option maxRecDepth 100000 in
set_option maxHeartbeats 2000000 in
theorem read_var_no (g : Nat) (s b : ByteArray) (w0 w : World) (hI : PA.IsS93 w0 w g s b) (hB : Below w0.heap.size w0 w) (c : Nat) (r : List Nat) (hs : cs s = c :: r) (hm : isLt c = true) (hb : c ∉ cs b) :
    Calls Try.prog 75 #[.pointer (some ⟨g, 0, none⟩)] w (ReadPost none w0 w g b) := by
  obtain ⟨ht, hr⟩ := take_cons (b := b) hs
  have HT := Lib.hid ht
  have HC := Lib.hid hr
  clear ht hr hs
  have HM := Lib.hid (show PA.fixes_isMark.f (c : Int) = some false from mark_no (by simp [isLt] at hm; simp [isMk]; omega))
  have HL := Lib.hid (letter_yes hm)
  have hc : 120 ≤ c ∧ c ≤ 122 := by simpa [isLt] using hm
  obtain ⟨hc1, hc2⟩ := hc
  clear hm
  have e1 : ((c : Int) == 116) = false := beq_eq_false_iff_ne.2 (by omega)
  have e2 : ((c : Int) == 102) = false := beq_eq_false_iff_ne.2 (by omega)
  have hix := idx_out (by omega) hb
  generalize hIe : Lib.indexByte b.data.toList ((c : Int)).toNat.toUInt8 = ix at hix
  have HIX := Lib.hid hIe
  clear hIe hb
  have HR := Lib.hid (Rd.start hI hB)
  clear hI hB
  go_enter Try.func75, Try.ntmps75
  go_wp2_with fail
  refine (PA.fixes_reader_take.calls g s b c (s.extract 1 s.size) b w0 _ HR.out.is HR.out.below HT.out).mono ?_
  rintro e w25 ⟨rfl, hI, hB, hk⟩
  have n0_ := Lib.hid (HR.out.next hI hB hk)
  clear HR hI hB hk
  have HR := n0_
  clear n0_
  go_wp2_with fail
  refine (PA.fixes_isMark.calls c false _ HM.out).mono ?_
  rintro e w26 ⟨rfl, hd⟩
  have n0_ := Lib.hid (HR.out.drawn hd)
  clear HR hd
  have HR := n0_
  clear n0_
  go_wp2_with fail
  refine (PA.fixes_isLetter.calls c true _ HL.out).mono ?_
  rintro e w27 ⟨rfl, hd⟩
  have n0_ := Lib.hid (HR.out.drawn hd)
  clear HR hd
  have HR := n0_
  clear n0_
  obtain ⟨HG, hg⟩ := HR.out.is
  have hcell := PA.cellS93_1 HG
  clear HG hg
  go_wp2_with fail
  refine (Try.strings_IndexByte b c _).mono ?_
  rintro e wi ⟨rfl, rfl⟩
  rw [HIX.out]
  go_wp2
  go_ret
  exact post_nil HR.out

set_option maxRecDepth 100000 in
set_option maxHeartbeats 2000000 in
theorem read_none (g : Nat) (s b : ByteArray) (w0 w : World) (hI : PA.IsS93 w0 w g s b) (hB : Below w0.heap.size w0 w) (c : Nat) (r : List Nat) (hs : cs s = c :: r) (hm : isMk c = false) (hl : isLt c = false) (h1 : ((c : Int) == 45) = false) (h2 : ((c : Int) == 116) = false) (h3 : ((c : Int) == 102) = false) (h4 : ((c : Int) == 109) = false) (h5 : ((c : Int) == 103) = false) (h6 : (findL (putL (putL (putL (putL ([] : List (Int × Int)) 38 2) 124 2) 60 1) 91 1) (c : Int)).getD 0 = 0) :
    Calls Try.prog 75 #[.pointer (some ⟨g, 0, none⟩)] w (ReadPost none w0 w g b) := by
  obtain ⟨ht, hr⟩ := take_cons (b := b) hs
  have HT := Lib.hid ht
  have HC := Lib.hid hr
  clear ht hr hs
  have HM := Lib.hid (mark_no hm)
  have HL := Lib.hid (letter_no hl)
  have H6 := Lib.hid h6
  clear hm hl h6
  have HR := Lib.hid (Rd.start hI hB)
  clear hI hB
  go_enter Try.func75, Try.ntmps75
  go_wp2_with fail
  refine (PA.fixes_reader_take.calls g s b c (s.extract 1 s.size) b w0 _ HR.out.is HR.out.below HT.out).mono ?_
  rintro e w28 ⟨rfl, hI, hB, hk⟩
  have n0_ := Lib.hid (HR.out.next hI hB hk)
  clear HR hI hB hk
  have HR := n0_
  clear n0_
  go_wp2_with fail
  refine (PA.fixes_isMark.calls c false _ HM.out).mono ?_
  rintro e w29 ⟨rfl, hd⟩
  have n0_ := Lib.hid (HR.out.drawn hd)
  clear HR hd
  have HR := n0_
  clear n0_
  go_wp2_with fail
  refine (PA.fixes_isLetter.calls c false _ HL.out).mono ?_
  rintro e w30 ⟨rfl, hd⟩
  have n0_ := Lib.hid (HR.out.drawn hd)
  clear HR hd
  have HR := n0_
  clear n0_
  have hz0 : ∀ w, (zeroValue 3).run Try.prog w = .ok (.int .i64 0) w := fun _ => by kernel_rfl
  have HZ := Lib.hid hz0
  have HF := Lib.hid (show (findL (putL (putL (putL (putL ([] : List (Int × Int)) 38 2) 124 2) 60 1) 91 1) (c : Int)).getD 0 = 0 from H6.out)
  clear hz0
  go_wp2_with (first | ((with_reducible refine gate_op (op := .makeMap 64 none) rfl ?_); refine map_make_event rfl 64 rfl ?_; intro r0 wm hr0 hm hb; have HM_ := Lib.hid (IsM.mk' (enc := Value.int .u8) (encv := Value.int .i64) (l := []) hm rfl); have HW_ := Lib.hid hb; have HZ_ := Lib.hid (Nat.le_of_eq hr0.symm); clear hm hb hr0) | ((with_reducible refine gate_op (op := .insert 64 (.tmp 63) (.const (.int .u8 38)) (.const (.int .i64 2))) rfl ?_); refine map_put_event rfl 64 (.tmp 63) (.const (.int .u8 38)) (.const (.int .i64 2)) (Or.inl rfl) Try.underlying64 (keyOk_int Try.underlying5) (enc := Value.int .u8) (encv := Value.int .i64) 38 2 rfl rfl rfl HM_.out ?_; intro wm hm _ hb; have n0_ := Lib.hid hm; have n1_ := Lib.hid (hb _ _ HW_.out HZ_.out); clear hm hb HM_ HW_; have HM_ := n0_; have HW_ := n1_; clear n0_ n1_) | ((with_reducible refine gate_op (op := .insert 64 (.tmp 63) (.const (.int .u8 124)) (.const (.int .i64 2))) rfl ?_); refine map_put_event rfl 64 (.tmp 63) (.const (.int .u8 124)) (.const (.int .i64 2)) (Or.inl rfl) Try.underlying64 (keyOk_int Try.underlying5) (enc := Value.int .u8) (encv := Value.int .i64) 124 2 rfl rfl rfl HM_.out ?_; intro wm hm _ hb; have n0_ := Lib.hid hm; have n1_ := Lib.hid (hb _ _ HW_.out HZ_.out); clear hm hb HM_ HW_; have HM_ := n0_; have HW_ := n1_; clear n0_ n1_) | ((with_reducible refine gate_op (op := .insert 64 (.tmp 63) (.const (.int .u8 60)) (.const (.int .i64 1))) rfl ?_); refine map_put_event rfl 64 (.tmp 63) (.const (.int .u8 60)) (.const (.int .i64 1)) (Or.inl rfl) Try.underlying64 (keyOk_int Try.underlying5) (enc := Value.int .u8) (encv := Value.int .i64) 60 1 rfl rfl rfl HM_.out ?_; intro wm hm _ hb; have n0_ := Lib.hid hm; have n1_ := Lib.hid (hb _ _ HW_.out HZ_.out); clear hm hb HM_ HW_; have HM_ := n0_; have HW_ := n1_; clear n0_ n1_) | ((with_reducible refine gate_op (op := .insert 64 (.tmp 63) (.const (.int .u8 91)) (.const (.int .i64 1))) rfl ?_); refine map_put_event rfl 64 (.tmp 63) (.const (.int .u8 91)) (.const (.int .i64 1)) (Or.inl rfl) Try.underlying64 (keyOk_int Try.underlying5) (enc := Value.int .u8) (encv := Value.int .i64) 91 1 rfl rfl rfl HM_.out ?_; intro wm hm _ hb; have n0_ := Lib.hid hm; have n1_ := Lib.hid (hb _ _ HW_.out HZ_.out); clear hm hb HM_ HW_; have HM_ := n0_; have HW_ := n1_; clear n0_ n1_) | ((with_reducible refine gate_dst (N := 66) rfl ?_); refine map_get_event rfl 64 (.tmp 64) (.tmp 65) false rfl Try.underlying64 (enc := Value.int .u8) (encv := Value.int .i64) HZ.out (keyOk_int Try.underlying5) c rfl rfl HM_.out ?_; rw [HF.out]; simp only [Bool.false_eq_true, if_false]; have n0_ := Lib.hid (HR.out.step HW_.out); clear HR HM_ HW_ HZ_; have HR := n0_; clear n0_) | fail)
  go_wp2
  go_ret
  exact post_nil HR.out

end Go.Proofs.Ytjffhhalmicodaa.X
