import Derived.Test.YtjffhhalmicodaaXg
set_option linter.unusedVariables false
set_option linter.unusedSimpArgs false
namespace Go.Proofs.Ytjffhhalmicodaa.X
open Go.RowKit Go.Proofs.YtjffhhalmicodaaW.PrintWords Go.Proofs.YtjffhhalmicodaaW.PrintLast Go.Proofs.YtjffhhalmicodaaW.PrintMore

/-- read's contract at strings shorter than n -/
def ReadUpto (n : Nat) : Prop := ∀ (g : Nat) (s b : ByteArray) (w0 w : World), (cs s).length < n → b.size + (cs s).length ≤ 1000000 → PA.IsS93 w0 w g s b → Below w0.heap.size w0 w →
  Calls Try.prog 75 #[.pointer (some ⟨g, 0, none⟩)] w (ReadPost (parse n (cs s) (cs b)) w0 w g b)

theorem Node.kid1 (W : World) {ok : Nat → Prop} (ho : ok W.heap.size) (ho2 : ok (W.heap.size + 1)) (u : Value) (d m nm : Int) : Node ((W.alloc (.cells #[u] 60)).alloc (.cells #[.int .u8 d, .int .i64 m, .int .u8 nm, .slice (some ⟨W.heap.size, 0, none⟩) 1 1] 74)) ok (.pointer (some ⟨W.heap.size + 1, 0, none⟩)) d m nm [u] := by
  refine ⟨W.heap.size + 1, W.heap.size, 0, 1, rfl, ho2, fun _ => ho, ?_, ?_, ?_, ?_, ?_⟩
  · simp
  · simp
  · simp
  · simp
  · intro i u' hu
    cases i with
    | zero => simp at hu; subst hu; simp
    | succ i => simp at hu

theorem Rd.setB {w0 w W : World} {g : Nat} {s b : ByteArray} (h : Rd w0 w g s b W) (x : ByteArray) : Rd w0 w g s x (W.setCell ⟨g, 1, none⟩ (.string x)) :=
  ⟨h.is.set_1 x, below_set h.below h.is.2, h.keep.set_ 1 _⟩

/-- what is behind an m or g -/
def parseFix (n c : Nat) (l b : List Nat) : Option (Fm × List Nat) := match l with
  | x :: r => if isLt x = true ∧ x ∉ b then (parse n r (b ++ [x])).bind fun p => some (.fix c x p.1, p.2) else none
  | [] => none

theorem cs_push (b : ByteArray) (x : Nat) (hx : x < 256) : cs (b ++ ⟨#[UInt8.ofNat x]⟩) = cs b ++ [x] := by
  unfold cs
  rw [ByteArray.data_append]
  simp
  omega
theorem run_x (w : World) : (convert 5 9 (.int .u8 120)).run Try.prog w = .ok (.string ⟨#[120]⟩) w := by kernel_rfl
theorem run_y (w : World) : (convert 5 9 (.int .u8 121)).run Try.prog w = .ok (.string ⟨#[121]⟩) w := by kernel_rfl
theorem run_z (w : World) : (convert 5 9 (.int .u8 122)).run Try.prog w = .ok (.string ⟨#[122]⟩) w := by kernel_rfl
theorem run_letter (x : Nat) (h1 : 120 ≤ x) (h2 : x ≤ 122) (w : World) : (convert 5 9 (.int .u8 (x : Int))).run Try.prog w = .ok (.string ⟨#[x.toUInt8]⟩) w := by
  have h : x = 120 ∨ x = 121 ∨ x = 122 := by omega
  rcases h with rfl | rfl | rfl
  · exact run_x w
  · exact run_y w
  · exact run_z w

set_option maxRecDepth 100000 in
set_option maxHeartbeats 2000000 in
theorem fix_end (g : Nat) (s b : ByteArray) (w0 w : World) (hI : PA.IsS93 w0 w g s b) (hB : Below w0.heap.size w0 w) (c : Nat) (hs : cs s = []) :
    Calls Try.prog 89 #[.pointer (some ⟨g, 0, none⟩), .int .u8 c] w (ReadPost none w0 w g b) := by
  have HT := Lib.hid (take_nil (b := b) hs)
  have HL := Lib.hid (show PA.fixes_isLetter.f 0 = some false from letter_no (c := 0) rfl)
  clear hs
  have HR := Lib.hid (Rd.start hI hB)
  clear hI hB
  go_enter Try.func89, Try.ntmps89
  go_wp2_with fail
  refine (PA.fixes_reader_take.calls g s b 0 s b w0 _ HR.out.is HR.out.below HT.out).mono ?_
  rintro e w1 ⟨rfl, hI, hB, hk⟩
  have n0_ := Lib.hid (HR.out.next hI hB hk)
  clear HR hI hB hk
  have HR := n0_
  clear n0_
  go_wp2_with fail
  refine (PA.fixes_isLetter.calls 0 false _ HL.out).mono ?_
  rintro e w2 ⟨rfl, hd⟩
  have n0_ := Lib.hid (HR.out.drawn hd)
  clear HR hd
  have HR := n0_
  clear n0_
  go_wp2
  go_ret
  exact post_nil HR.out

set_option maxRecDepth 100000 in
set_option maxHeartbeats 2000000 in
theorem fix_no (g : Nat) (s b : ByteArray) (w0 w : World) (hI : PA.IsS93 w0 w g s b) (hB : Below w0.heap.size w0 w) (c : Nat) (x : Nat) (r : List Nat) (hs : cs s = x :: r) (hm : isLt x = false) :
    Calls Try.prog 89 #[.pointer (some ⟨g, 0, none⟩), .int .u8 c] w (ReadPost none w0 w g b) := by
  obtain ⟨ht, hr⟩ := take_cons (b := b) hs
  have HT := Lib.hid ht
  have HC := Lib.hid hr
  clear ht hr hs
  have HL := Lib.hid (letter_no hm)
  clear hm
  have HR := Lib.hid (Rd.start hI hB)
  clear hI hB
  go_enter Try.func89, Try.ntmps89
  go_wp2_with fail
  refine (PA.fixes_reader_take.calls g s b x (s.extract 1 s.size) b w0 _ HR.out.is HR.out.below HT.out).mono ?_
  rintro e w3 ⟨rfl, hI, hB, hk⟩
  have n0_ := Lib.hid (HR.out.next hI hB hk)
  clear HR hI hB hk
  have HR := n0_
  clear n0_
  go_wp2_with fail
  refine (PA.fixes_isLetter.calls x false _ HL.out).mono ?_
  rintro e w4 ⟨rfl, hd⟩
  have n0_ := Lib.hid (HR.out.drawn hd)
  clear HR hd
  have HR := n0_
  clear n0_
  go_wp2
  go_ret
  exact post_nil HR.out

set_option maxRecDepth 100000 in
set_option maxHeartbeats 2000000 in
theorem fix_in (g : Nat) (s b : ByteArray) (w0 w : World) (hI : PA.IsS93 w0 w g s b) (hB : Below w0.heap.size w0 w) (c : Nat) (x : Nat) (r : List Nat) (hs : cs s = x :: r) (hm : isLt x = true) (hb : x ∈ cs b) :
    Calls Try.prog 89 #[.pointer (some ⟨g, 0, none⟩), .int .u8 c] w (ReadPost none w0 w g b) := by
  obtain ⟨ht, hr⟩ := take_cons (b := b) hs
  have HT := Lib.hid ht
  have HC := Lib.hid hr
  clear ht hr hs
  have HL := Lib.hid (letter_yes hm)
  have hc : 120 ≤ x ∧ x ≤ 122 := by simpa [isLt] using hm
  obtain ⟨hc1, hc2⟩ := hc
  clear hm
  have hix := idx_in hb
  generalize hIe : Lib.indexByte b.data.toList ((x : Int)).toNat.toUInt8 = ix at hix
  have HIX := Lib.hid hIe
  clear hIe hb
  have HR := Lib.hid (Rd.start hI hB)
  clear hI hB
  go_enter Try.func89, Try.ntmps89
  go_wp2_with fail
  refine (PA.fixes_reader_take.calls g s b x (s.extract 1 s.size) b w0 _ HR.out.is HR.out.below HT.out).mono ?_
  rintro e w5 ⟨rfl, hI, hB, hk⟩
  have n0_ := Lib.hid (HR.out.next hI hB hk)
  clear HR hI hB hk
  have HR := n0_
  clear n0_
  go_wp2_with fail
  refine (PA.fixes_isLetter.calls x true _ HL.out).mono ?_
  rintro e w6 ⟨rfl, hd⟩
  have n0_ := Lib.hid (HR.out.drawn hd)
  clear HR hd
  have HR := n0_
  clear n0_
  obtain ⟨HG, hg⟩ := HR.out.is
  have hcell := PA.cellS93_1 HG
  clear HG hg
  go_wp2_with fail
  refine (Try.strings_IndexByte b x _).mono ?_
  rintro e wi ⟨rfl, rfl⟩
  rw [HIX.out]
  go_wp2
  go_ret
  exact post_nil HR.out

set_option maxRecDepth 100000 in
set_option maxHeartbeats 2000000 in
theorem fix_out_none (g : Nat) (s b : ByteArray) (w0 w : World) (hI : PA.IsS93 w0 w g s b) (hB : Below w0.heap.size w0 w) (c : Nat) (x : Nat) (r : List Nat) (hs : cs s = x :: r) (hm : isLt x = true) (hb : x ∉ cs b) (n : Nat) (hn : r.length < n) (hsz : b.size + (r.length + 1) ≤ 1000000) (ih : ReadUpto n) (ho : parse n r (cs b ++ [x]) = none) :
    Calls Try.prog 89 #[.pointer (some ⟨g, 0, none⟩), .int .u8 c] w (ReadPost none w0 w g b) := by
  obtain ⟨ht, hr⟩ := take_cons (b := b) hs
  have HT := Lib.hid ht
  have HC := Lib.hid hr
  clear ht hr hs
  have HO := Lib.hid ho
  clear ho
  have IH := Lib.hid ih
  clear ih
  have hcv := run_letter x (by simp [isLt] at hm; omega) (by simp [isLt] at hm; omega)
  have HL := Lib.hid (letter_yes hm)
  have hc : 120 ≤ x ∧ x ≤ 122 := by simpa [isLt] using hm
  obtain ⟨hc1, hc2⟩ := hc
  clear hm
  have hix := idx_out (by omega) hb
  generalize hIe : Lib.indexByte b.data.toList ((x : Int)).toNat.toUInt8 = ix at hix
  have HIX := Lib.hid hIe
  clear hIe hb
  have HR := Lib.hid (Rd.start hI hB)
  clear hI hB
  go_enter Try.func89, Try.ntmps89
  go_wp2_with fail
  refine (PA.fixes_reader_take.calls g s b x (s.extract 1 s.size) b w0 _ HR.out.is HR.out.below HT.out).mono ?_
  rintro e w7 ⟨rfl, hI, hB, hk⟩
  have n0_ := Lib.hid (HR.out.next hI hB hk)
  clear HR hI hB hk
  have HR := n0_
  clear n0_
  go_wp2_with fail
  refine (PA.fixes_isLetter.calls x true _ HL.out).mono ?_
  rintro e w8 ⟨rfl, hd⟩
  have n0_ := Lib.hid (HR.out.drawn hd)
  clear HR hd
  have HR := n0_
  clear n0_
  obtain ⟨HG, hg⟩ := HR.out.is
  have hcell := PA.cellS93_1 HG
  clear HG hg
  go_wp2_with fail
  refine (Try.strings_IndexByte b x _).mono ?_
  rintro e wi ⟨rfl, rfl⟩
  rw [HIX.out]
  have hfr := blk_frozen HR.out.is.1 1
  go_wp2_with fail
  refine (IH.out g (s.extract 1 s.size) (b ++ ⟨#[UInt8.ofNat x]⟩) w0 (wi.setCell ⟨g, 1, none⟩ (.string (b ++ ⟨#[UInt8.ofNat x]⟩))) (by rw [HC.out]; exact hn) (by rw [HC.out, ByteArray.size_append]; show b.size + 1 + r.length ≤ 1000000; omega) (HR.out.is.set_1 _) (below_set HR.out.below HR.out.is.2)).mono ?_
  rintro e w2 ⟨hB2, hK2, hres⟩
  rw [HC.out, cs_push b x (by omega)] at hres
  rw [HO.out] at hres
  have HN := Lib.hid (fun (s' b' : ByteArray) (hI2 : PA.IsS93 w0 w2 g s' b') => (HR.out.setB (b ++ ⟨#[UInt8.ofNat x]⟩)).next hI2 hB2 hK2)
  have HR1 := HR
  clear hK2 hB2 hcell hfr HR
  obtain ⟨rfl, s', b', hI2⟩ := hres
  have HR := Lib.hid (HN.out s' b' hI2)
  have hcell := PA.cellS93_1 hI2.1
  have hfr := blk_frozen hI2.1 1
  clear hI2
  go_wp2
  go_ret
  exact post_nil (HR.out.setB b)

set_option maxRecDepth 100000 in
set_option maxHeartbeats 2000000 in
theorem fix_out_some (g : Nat) (s b : ByteArray) (w0 w : World) (hI : PA.IsS93 w0 w g s b) (hB : Below w0.heap.size w0 w) (c : Nat) (x : Nat) (r : List Nat) (hs : cs s = x :: r) (hm : isLt x = true) (hb : x ∉ cs b) (n : Nat) (hn : r.length < n) (hsz : b.size + (r.length + 1) ≤ 1000000) (ih : ReadUpto n) (p : Fm × List Nat) (ho : parse n r (cs b ++ [x]) = some p) :
    Calls Try.prog 89 #[.pointer (some ⟨g, 0, none⟩), .int .u8 c] w (ReadPost (some (.fix c x p.1, p.2)) w0 w g b) := by
  obtain ⟨ht, hr⟩ := take_cons (b := b) hs
  have HT := Lib.hid ht
  have HC := Lib.hid hr
  clear ht hr hs
  have HO := Lib.hid ho
  clear ho
  have IH := Lib.hid ih
  clear ih
  have hcv := run_letter x (by simp [isLt] at hm; omega) (by simp [isLt] at hm; omega)
  have HL := Lib.hid (letter_yes hm)
  have hc : 120 ≤ x ∧ x ≤ 122 := by simpa [isLt] using hm
  obtain ⟨hc1, hc2⟩ := hc
  clear hm
  have hix := idx_out (by omega) hb
  generalize hIe : Lib.indexByte b.data.toList ((x : Int)).toNat.toUInt8 = ix at hix
  have HIX := Lib.hid hIe
  clear hIe hb
  have HR := Lib.hid (Rd.start hI hB)
  clear hI hB
  go_enter Try.func89, Try.ntmps89
  go_wp2_with fail
  refine (PA.fixes_reader_take.calls g s b x (s.extract 1 s.size) b w0 _ HR.out.is HR.out.below HT.out).mono ?_
  rintro e w9 ⟨rfl, hI, hB, hk⟩
  have n0_ := Lib.hid (HR.out.next hI hB hk)
  clear HR hI hB hk
  have HR := n0_
  clear n0_
  go_wp2_with fail
  refine (PA.fixes_isLetter.calls x true _ HL.out).mono ?_
  rintro e w10 ⟨rfl, hd⟩
  have n0_ := Lib.hid (HR.out.drawn hd)
  clear HR hd
  have HR := n0_
  clear n0_
  obtain ⟨HG, hg⟩ := HR.out.is
  have hcell := PA.cellS93_1 HG
  clear HG hg
  go_wp2_with fail
  refine (Try.strings_IndexByte b x _).mono ?_
  rintro e wi ⟨rfl, rfl⟩
  rw [HIX.out]
  have hfr := blk_frozen HR.out.is.1 1
  go_wp2_with fail
  refine (IH.out g (s.extract 1 s.size) (b ++ ⟨#[UInt8.ofNat x]⟩) w0 (wi.setCell ⟨g, 1, none⟩ (.string (b ++ ⟨#[UInt8.ofNat x]⟩))) (by rw [HC.out]; exact hn) (by rw [HC.out, ByteArray.size_append]; show b.size + 1 + r.length ≤ 1000000; omega) (HR.out.is.set_1 _) (below_set HR.out.below HR.out.is.2)).mono ?_
  rintro e w2 ⟨hB2, hK2, hres⟩
  rw [HC.out, cs_push b x (by omega)] at hres
  rw [HO.out] at hres
  have HN := Lib.hid (fun (s' b' : ByteArray) (hI2 : PA.IsS93 w0 w2 g s' b') => (HR.out.setB (b ++ ⟨#[UInt8.ofNat x]⟩)).next hI2 hB2 hK2)
  have HR1 := HR
  clear hK2 hB2 hcell hfr HR
  obtain ⟨v, s', rfl, hT, hI2, hs'⟩ := hres
  obtain ⟨gk, rfl⟩ := hT.ptr
  have HR := Lib.hid (HN.out s' _ hI2)
  have hcell := PA.cellS93_1 hI2.1
  have hfr := blk_frozen hI2.1 1
  have HS := Lib.hid hs'
  have HT2 := Lib.hid hT
  clear hI2 hs' hT
  go_wp2
  go_ret
  have h1 := HR.out.setB b
  have h2 := h1.step (below_alloc (below_alloc (Below.refl _ _) (.cells #[.pointer (some ⟨gk, 0, none⟩)] 60)) (.cells #[.int .u8 c, .int .i64 0, .int .u8 x, .slice (some ⟨w2.heap.size, 0, none⟩) 1 1] 74))
  refine ⟨h2.below, h2.keep, _, s', rfl, ⟨.pointer (some ⟨gk, 0, none⟩), ?_, ?_⟩, h2.is, HS.out⟩
  · have hn := Node.kid1 (w2.setCell ⟨g, 1, none⟩ (.string b)) (ok := fun k => w.heap.size ≤ k) h1.keep.1 (Nat.le_succ_of_le h1.keep.1) (.pointer (some ⟨gk, 0, none⟩)) c 0 x
    rw [show (w2.setCell ⟨g, 1, none⟩ (.string b)).heap.size = w2.heap.size by simp [World.setCell]] at hn
    exact hn
  · refine Tree.same ?_ (fun k _ h => Nat.le_trans (Nat.le_trans HR1.out.keep.1 (by simp [World.setCell])) h) _ _ HT2.out
    exact (SameBut.of_keep HR.out.is.1 ((KeepBut.refl _ _ _).set_ _ _)).trans (SameBut.of_below (below_alloc (below_alloc (Below.refl _ _) _) _))


end Go.Proofs.Ytjffhhalmicodaa.X
