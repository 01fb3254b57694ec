import Derived.Test.YtjffhhalmicodaaXi
set_option linter.unusedVariables false
set_option linter.unusedSimpArgs false
namespace Go.Proofs.Ytjffhhalmicodaa.X
open Go.RowKit Go.Proofs.YtjffhhalmicodaaW.PrintWords Go.Proofs.YtjffhhalmicodaaW.PrintLast Go.Proofs.YtjffhhalmicodaaW.PrintMore

theorem info60 : (Try.prog.info? 60).map (fun i => (i.zero, i.size, i.bytes)) = some (some (.pointer none), 1, 8) := by kernel_rfl
def PK : Kd (Option Addr) := Kd.scalar Value.pointer (fun _ => rfl)

/-- reading the parts of a formula: k of them are there -/
structure KS (w0 w : World) (g : Nat) (s' b : ByteArray) (gf c k : Nat) (fs : List Fm) (xs : List (Option Addr)) (sl : Value) (wr : World) : Prop where
  rd : Rd w0 w g s' b wr
  blk : wr.heap[gf]? = some (.cells #[.int .u8 c, .int .i64 0, .int .u8 0, sl] 74 (0, 0))
  new : w.heap.size ≤ gf
  own : PK.R 60 wr w0.heap.size (fun k => w.heap.size ≤ k) sl xs
  len : xs.length = k
  lenf : fs.length = k
  tree : ∀ (i : Nat) (f : Fm) (a : Option Addr), fs[i]? = some f → xs[i]? = some a → Tree wr (fun k => w.heap.size ≤ k ∧ k ≠ gf ∧ some k ≠ sl.ownBlock) f (.pointer a)

theorem KS.ne {w0 w : World} {g : Nat} {s' b : ByteArray} {gf c k : Nat} {fs : List Fm} {xs : List (Option Addr)} {sl : Value} {wr : World} (h : KS w0 w g s' b gf c k fs xs sl wr) : g ≠ gf := by
  intro e
  have h1 := h.rd.is.1
  rw [e, h.blk] at h1
  injection h1 with h1
  injection h1 with _ h1
  cases h1

/-- behind the reading of one more part -/
theorem KS.call {w0 w : World} {g : Nat} {s' b s2 : ByteArray} {gf c k : Nat} {fs : List Fm} {xs : List (Option Addr)} {sl : Value} {wr w2 : World} (h : KS w0 w g s' b gf c k fs xs sl wr)
    (h1 : PA.IsS93 w0 w2 g s2 b) (h2 : Below w0.heap.size w0 w2) (h3 : KeepBut wr w2 g none) : KS w0 w g s2 b gf c k fs xs sl w2 := by
  refine ⟨h.rd.next h1 h2 h3, h3.blk h.blk (Ne.symm h.ne) (by simp), h.new, ?_, h.len, h.lenf, fun i f a hf ha => ?_⟩
  · have h4 := Kd.R_types h.own h.rd.is.1 (by intro q hq; simp [PK, Kd.scalar] at hq; subst hq; decide)
    exact Kd.R_mono (Kd.R_keep h4 h3 (fun _ hk => hk.2)) (fun _ hk => hk.1)
  · exact Tree.same (SameBut.of_keep h.rd.is.1 h3) (fun _ _ hk => hk) _ _ (h.tree i f a hf ha)

/-- the part is put to the others -/
theorem KS.push {w0 w : World} {g : Nat} {s' b : ByteArray} {gf c k : Nat} {fs : List Fm} {xs : List (Option Addr)} {sl v1 : Value} {w2 w1 wr : World} {f : Fm} {a : Option Addr} (h : KS w0 w g s' b gf c k fs xs sl w2)
    (hgw : g ≤ w.heap.size) (hwr : sl.ownBlock = none ∨ ∃ q, sl.ownBlock = some q ∧ q < wr.heap.size) (hws : wr.heap.size ≤ w2.heap.size) (hwg : gf < wr.heap.size) (hk : w.heap.size ≤ wr.heap.size) (ht : Tree w2 (fun k => wr.heap.size ≤ k) f (.pointer a))
    (hv : PK.R 60 w1 w0.heap.size (fun k => w.heap.size ≤ k) v1 (xs ++ [a])) (hb : Below w0.heap.size w0 w1) (hg : w2.grownBy w1 sl.ownBlock) (hat : v1.ownBlock = sl.ownBlock ∨ ∃ q, v1.ownBlock = some q ∧ w2.heap.size ≤ q) :
    KS w0 w g s' b gf c (k + 1) (fs ++ [f]) (xs ++ [a]) v1 (w1.setCell ⟨gf, 3, none⟩ v1) := by
  have hgne : some g ≠ sl.ownBlock := h.rd.is.own_ne h.own (by decide)
  have hfne : some gf ≠ sl.ownBlock := Kd.R_ne h.own h.blk (by decide)
  have hblk1 : w1.heap[gf]? = some (.cells #[.int .u8 c, .int .i64 0, .int .u8 0, sl] 74 (0, 0)) := blk_grown h.blk hg hfne
  have hk1 : KeepBut w w1 g none := h.rd.keep.trans (KeepBut.of_grown hg g) (by
    cases ho : sl.ownBlock with
    | none => exact Or.inl rfl
    | some q => exact Or.inr ⟨q, rfl, h.own.1 q ho⟩)
  have hfne1 : some gf ≠ v1.ownBlock := Kd.R_ne hv hblk1 (by decide)
  refine ⟨⟨(h.rd.is.grown hg hgne).far h.ne _, hb.setCell (Nat.le_trans h.rd.is.2 ?_) _, keep_far hk1 h.new _⟩, by simpa using blk_set hblk1 3 v1, h.new, ?_, by simp [h.len], by simp [h.lenf], fun i f' a' hf ha => ?_⟩
  · exact Nat.le_trans hgw h.new
  · exact Kd.R_set hv hblk1 (by intro q hq; simp [PK, Kd.scalar] at hq; subst hq; decide) 3 v1
  · have hs : ∀ ok : Nat → Prop, (∀ k, ok k → k ≠ gf ∧ some k ≠ sl.ownBlock) → SameBut ok w2 (w1.setCell ⟨gf, 3, none⟩ v1) := fun ok ho =>
      (SameBut.of_grown hg (fun k hk => (ho k hk).2)).trans (SameBut.of_set v1 (fun k hk => (ho k hk).1))
    have hnew : ∀ k, k < w2.heap.size → some k ≠ sl.ownBlock → some k ≠ v1.ownBlock := by
      intro k hlt hne e
      rcases hat with h7 | ⟨q, h7, h8⟩
      · exact hne (e.trans h7)
      · rw [h7] at e
        injection e with e
        omega
    rcases Nat.lt_or_ge i fs.length with hi | hi
    · rw [List.getElem?_append_left hi] at hf
      rw [List.getElem?_append_left (by rw [h.len, ← h.lenf]; exact hi)] at ha
      exact Tree.same (hs _ (fun k hk => hk.2)) (fun k hlt hk => ⟨hk.1, hk.2.1, hnew k hlt hk.2.2⟩) _ _ (h.tree i f' a' hf ha)
    · have hi2 : i = fs.length := by
        have := (List.getElem?_eq_some_iff.1 hf).1
        simp at this
        omega
      rw [hi2, List.getElem?_concat_length] at hf
      rw [hi2, h.lenf, ← h.len, List.getElem?_concat_length] at ha
      injection hf with hf
      injection ha with ha
      subst hf
      subst ha
      have hne : ∀ k, wr.heap.size ≤ k → some k ≠ sl.ownBlock := by
        intro k hk e
        rcases hwr with h7 | ⟨q, h7, h8⟩
        · rw [h7] at e; cases e
        · rw [h7] at e
          injection e with e
          omega
      exact Tree.same (hs _ (fun k hk => ⟨by omega, hne k hk⟩)) (fun k hlt hkk => ⟨by omega, by omega, hnew k hlt (hne k hkk)⟩) _ _ ht

theorem kids_start {w0 w W W1 : World} {g : Nat} {s' b : ByteArray} {gf c : Nat} (h : Rd w0 w g s' b W) (hb : Below W.heap.size W W1) (hw : W.heap.size ≤ gf) (hbox : W1.heap[gf]? = some (.cells #[.int .u8 c, .int .i64 0, .int .u8 0, .slice none 0 0] 74 (0, 0))) :
    KS w0 w g s' b gf c 0 [] [] (.slice none 0 0) W1 :=
  ⟨h.step hb, hbox, Nat.le_trans h.keep.1 hw, Kd.R_nil _ _ _ _ _, rfl, rfl, fun i f a hf => by simp at hf⟩

theorem ptrs_at {w : World} {A : Option Addr} {n : Nat} {xs : List (Option Addr)} (h : PK.C w A n xs) (hn : 0 < n) :
    ∃ b off, A = some ⟨b, off, none⟩ ∧ ∀ i a, xs[i]? = some a → w.cell? ⟨b, off + i, none⟩ = some (.pointer a) := by
  obtain ⟨hl, _, hr⟩ := h
  obtain ⟨ad, e, hc⟩ := hr hn
  have key : ∀ i a, xs[i]? = some a → w.cell? (ad.add i) = some (.pointer a) := by
    intro i a ha
    obtain ⟨c, _, hR, hcell⟩ := hc i a ha
    have hR' : c = [Value.pointer a] := hR
    subst hR'
    have := hcell 0 _ rfl
    simpa [PK, Kd.scalar] using this
  have h0 : ∃ a, xs[0]? = some a := by
    cases xs with
    | nil => simp at hl; omega
    | cons a l => exact ⟨a, rfl⟩
  obtain ⟨a0, ha0⟩ := h0
  have hsp : ad.spot = none := by
    have h1 := key 0 a0 ha0
    cases hs : ad.spot with
    | none => rfl
    | some q =>
      have : w.cell? ad = some (.pointer a0) := by simpa [Addr.add] using h1
      unfold World.cell? at this
      split at this <;> simp [hs] at this
  refine ⟨ad.block, ad.off, by rw [e, ← hsp], fun i a ha => ?_⟩
  have : ad.add i = ⟨ad.block, ad.off + i, none⟩ := by
    unfold Addr.add
    split
    · rename_i h0; subst h0; rw [← hsp]; simp
    · rfl
  rw [← this]
  exact key i a ha

theorem kids_post {w0 w wr : World} {g : Nat} {s' b : ByteArray} {gf c m : Nat} {fs : List Fm} {rest : List Nat} {xs : List (Option Addr)} {sl : Value} (h : KS w0 w g s' b gf c m fs xs sl wr) (hs : cs s' = rest) (hm1 : 1 ≤ m) (hm2 : m ≤ 2) :
    ReadPost ((some (fs, rest)).bind fun p => some (mkN c p.1, p.2)) w0 w g b (.returned (.pointer (some ⟨gf, 0, none⟩))) wr := by
  obtain ⟨A, cp, rfl, hle, hC⟩ := Kd.R_reads h.own
  obtain ⟨bl, off, rfl, hat⟩ := ptrs_at hC (by rw [h.len]; omega)
  have hown : w.heap.size ≤ bl := h.own.1 bl rfl
  have hlf := h.lenf
  have hlx := h.len
  have hnode : ∀ kids : List Value, kids ≠ [] → kids = xs.map Value.pointer → Node wr (fun k => w.heap.size ≤ k) (.pointer (some ⟨gf, 0, none⟩)) c 0 0 kids := by
    intro kids hne hk
    refine ⟨gf, bl, off, cp, rfl, h.new, fun _ => hown, (blk_cell h.blk 0).trans rfl, (blk_cell h.blk 1).trans rfl, (blk_cell h.blk 2).trans rfl, ?_, ?_⟩
    · rw [if_neg hne, hk, List.length_map]
      exact (blk_cell h.blk 3).trans rfl
    · intro i u hu
      rw [hk, List.getElem?_map] at hu
      cases hx : xs[i]? with
      | none => rw [hx] at hu; cases hu
      | some a =>
        rw [hx] at hu
        injection hu with hu
        rw [← hu]
        exact hat i a hx
  refine ⟨h.rd.below, h.rd.keep, _, s', rfl, ?_, h.rd.is, hs⟩
  have htr := h.tree
  rcases (show m = 1 ∨ m = 2 by omega) with rfl | rfl
  · obtain ⟨f0, rfl⟩ := List.length_eq_one_iff.1 hlf
    obtain ⟨a0, rfl⟩ := List.length_eq_one_iff.1 hlx
    exact ⟨_, hnode [.pointer a0] (by simp) rfl, Tree.same (fun _ _ _ hc _ => hc) (fun _ _ hk => hk.1) _ _ (htr 0 f0 a0 rfl rfl)⟩
  · match fs, hlf, xs, hlx with
    | [f0, f1], _, [a0, a1], _ =>
      exact ⟨_, _, hnode [.pointer a0, .pointer a1] (by simp) rfl, Tree.same (fun _ _ _ hc _ => hc) (fun _ _ hk => hk.1) _ _ (htr 0 f0 a0 rfl rfl), Tree.same (fun _ _ _ hc _ => hc) (fun _ _ hk => hk.1) _ _ (htr 1 f1 a1 rfl rfl)⟩

set_option maxRecDepth 100000 in
set_option maxHeartbeats 2000000 in
theorem read_kids (g : Nat) (s b : ByteArray) (w0 w : World) (hI : PA.IsS93 w0 w g s b) (hB : Below w0.heap.size w0 w) (hgw : g < w.heap.size) (c : Nat) (r : List Nat) (hs : cs s = c :: r) (hm : isMk c = false) (hl : isLt c = false) (h1 : ((c : Int) == 45) = false) (h2 : ((c : Int) == 116) = false) (h3 : ((c : Int) == 102) = false) (h4 : ((c : Int) == 109) = false) (h5 : ((c : Int) == 103) = false) (m : Nat) (hm1 : 1 ≤ m) (hm2 : m ≤ 2) (h6 : (findL (putL (putL (putL (putL ([] : List (Int × Int)) 38 2) 124 2) 60 1) 91 1) (c : Int)).getD 0 = (m : Int)) (n : Nat) (hn : r.length < n) (hsz : b.size + (r.length + 1) ≤ 1000000) (ih : ReadUpto n) :
    Calls Try.prog 75 #[.pointer (some ⟨g, 0, none⟩)] w (ReadPost ((kidsTo n m r (cs b)).bind fun p => some (mkN c p.1, p.2)) w0 w g b) := by
  obtain ⟨ht, hr⟩ := take_cons (b := b) hs
  have HT := Lib.hid ht
  have HC := Lib.hid hr
  clear ht hr hs
  have HM := Lib.hid (mark_no hm)
  have HL := Lib.hid (letter_no hl)
  have H6 := Lib.hid h6
  have IH := Lib.hid ih
  have h0 : ((m : Int) == 0) = false := beq_eq_false_iff_ne.2 (by omega)
  clear hm hl h6 ih
  have HR := Lib.hid (Rd.start hI hB)
  clear hI hB
  go_enter Try.func75, Try.ntmps75
  go_wp2_with fail
  refine (PA.fixes_reader_take.calls g s b c (s.extract 1 s.size) b w0 _ HR.out.is HR.out.below HT.out).mono ?_
  rintro e w201 ⟨rfl, hI, hB, hk⟩
  have n0_ := Lib.hid (HR.out.next hI hB hk)
  clear HR hI hB hk
  have HR := n0_
  clear n0_
  go_wp2_with fail
  refine (PA.fixes_isMark.calls c false _ HM.out).mono ?_
  rintro e w202 ⟨rfl, hd⟩
  have n0_ := Lib.hid (HR.out.drawn hd)
  clear HR hd
  have HR := n0_
  clear n0_
  go_wp2_with fail
  refine (PA.fixes_isLetter.calls c false _ HL.out).mono ?_
  rintro e w203 ⟨rfl, hd⟩
  have n0_ := Lib.hid (HR.out.drawn hd)
  clear HR hd
  have HR := n0_
  clear n0_
  have hz0 : ∀ w, (zeroValue 3).run Try.prog w = .ok (.int .i64 0) w := fun _ => by kernel_rfl
  have HZ := Lib.hid hz0
  have HF := Lib.hid (show (findL (putL (putL (putL (putL ([] : List (Int × Int)) 38 2) 124 2) 60 1) 91 1) (c : Int)).getD 0 = (m : Int) from H6.out)
  clear hz0
  go_wp2_with (first | ((with_reducible refine gate_op (op := .makeMap 64 none) rfl ?_); refine map_make_event rfl 64 rfl ?_; intro r0 wm hr0 hm hb; have HM_ := Lib.hid (IsM.mk' (enc := Value.int .u8) (encv := Value.int .i64) (l := []) hm rfl); have HW_ := Lib.hid hb; have HZ_ := Lib.hid (Nat.le_of_eq hr0.symm); clear hm hb hr0) | ((with_reducible refine gate_op (op := .insert 64 (.tmp 63) (.const (.int .u8 38)) (.const (.int .i64 2))) rfl ?_); refine map_put_event rfl 64 (.tmp 63) (.const (.int .u8 38)) (.const (.int .i64 2)) (Or.inl rfl) Try.underlying64 (keyOk_int Try.underlying5) (enc := Value.int .u8) (encv := Value.int .i64) 38 2 rfl rfl rfl HM_.out ?_; intro wm hm _ hb; have n0_ := Lib.hid hm; have n1_ := Lib.hid (hb _ _ HW_.out HZ_.out); clear hm hb HM_ HW_; have HM_ := n0_; have HW_ := n1_; clear n0_ n1_) | ((with_reducible refine gate_op (op := .insert 64 (.tmp 63) (.const (.int .u8 124)) (.const (.int .i64 2))) rfl ?_); refine map_put_event rfl 64 (.tmp 63) (.const (.int .u8 124)) (.const (.int .i64 2)) (Or.inl rfl) Try.underlying64 (keyOk_int Try.underlying5) (enc := Value.int .u8) (encv := Value.int .i64) 124 2 rfl rfl rfl HM_.out ?_; intro wm hm _ hb; have n0_ := Lib.hid hm; have n1_ := Lib.hid (hb _ _ HW_.out HZ_.out); clear hm hb HM_ HW_; have HM_ := n0_; have HW_ := n1_; clear n0_ n1_) | ((with_reducible refine gate_op (op := .insert 64 (.tmp 63) (.const (.int .u8 60)) (.const (.int .i64 1))) rfl ?_); refine map_put_event rfl 64 (.tmp 63) (.const (.int .u8 60)) (.const (.int .i64 1)) (Or.inl rfl) Try.underlying64 (keyOk_int Try.underlying5) (enc := Value.int .u8) (encv := Value.int .i64) 60 1 rfl rfl rfl HM_.out ?_; intro wm hm _ hb; have n0_ := Lib.hid hm; have n1_ := Lib.hid (hb _ _ HW_.out HZ_.out); clear hm hb HM_ HW_; have HM_ := n0_; have HW_ := n1_; clear n0_ n1_) | ((with_reducible refine gate_op (op := .insert 64 (.tmp 63) (.const (.int .u8 91)) (.const (.int .i64 1))) rfl ?_); refine map_put_event rfl 64 (.tmp 63) (.const (.int .u8 91)) (.const (.int .i64 1)) (Or.inl rfl) Try.underlying64 (keyOk_int Try.underlying5) (enc := Value.int .u8) (encv := Value.int .i64) 91 1 rfl rfl rfl HM_.out ?_; intro wm hm _ hb; have n0_ := Lib.hid hm; have n1_ := Lib.hid (hb _ _ HW_.out HZ_.out); clear hm hb HM_ HW_; have HM_ := n0_; have HW_ := n1_; clear n0_ n1_) | ((with_reducible refine gate_dst (N := 66) rfl ?_); refine map_get_event rfl 64 (.tmp 64) (.tmp 65) false rfl Try.underlying64 (enc := Value.int .u8) (encv := Value.int .i64) HZ.out (keyOk_int Try.underlying5) c rfl rfl HM_.out ?_; rw [HF.out]; simp only [Bool.false_eq_true, if_false]; have n0_ := Lib.hid (HR.out.step HW_.out); clear HR HM_ HW_ HZ_; have HR := n0_; clear n0_) | ((with_reducible refine gate_dst (N := 71) rfl ?_); refine box_event ?hg (N := 71) ?hd (cs := #[.int .u8 c, .int .i64 0, .int .u8 0, .slice none 0 0]) (t := 74) ?hr ?_; (case hd => rfl); (case hg => rfl); (case hr => first | (go_simp; done) | (go_simp; rfl)); intro gf hg wb hbox hb; have HKS := Lib.hid (kids_start HR.out hb (Nat.le_of_eq hg.symm) hbox); clear hg hbox hb HR) | fail)
  clear HZ HF HM HL HT H6
  go_loopw [73] (fun i wr => ∃ (k : Nat) (fs : List Fm) (rest : List Nat) (s' : ByteArray) (xs : List (Option Addr)) (sl : Value), k ≤ m ∧ i = .int .i64 k ∧ Hid (kidsTo n k r (cs b) = some (fs, rest)) ∧ Hid (cs s' = rest) ∧ Hid (KS w0 w g s' b gf c k fs xs sl wr)) (fun i _ => m - (intOf i).toNat)
  case atStart => exact ⟨0, [], r, _, [], _, by omega, rfl, rfl, HC.out, HKS.out⟩
  case round =>
    clear HKS HC
    obtain ⟨k, fs, rest, s', xs, sl, hk, rfl, HT, HC, HKS⟩ := hrel
    by_cases hlt : k < m
    · have hlen := (kidsTo_len HT.out).1
      go_wp2_with fail
      refine (IH.out g s' b w0 wr (by rw [HC.out]; omega) (by rw [HC.out]; omega) HKS.out.rd.is HKS.out.rd.below).mono ?_
      rintro e w2 ⟨hB2, hK2, hres⟩
      rw [HC.out] at hres
      clear hlen
      cases hp : parse n rest (cs b) with
      | none =>
        rw [hp] at hres
        obtain ⟨rfl, s2, b2, hI2⟩ := hres
        have HR := Lib.hid (HKS.out.rd.next hI2 hB2 hK2)
        have HN := Lib.hid (show kidsTo n m r (cs b) = none from kidsTo_none (k := k + 1) (by simp only [kidsTo]; rw [HT.out]; simp [hp]) (by omega))
        clear hI2 hB2 hK2 hp
        go_wp2
        go_ret
        rw [HN.out]
        exact post_nil HR.out
      | some q =>
        rw [hp] at hres
        obtain ⟨v, s2, rfl, htree, hI2, hs2⟩ := hres
        obtain ⟨gk, rfl⟩ := htree.ptr
        have HK2 := Lib.hid (HKS.out.call hI2 hB2 hK2)
        have HS2 := Lib.hid hs2
        have HTR := Lib.hid htree
        have HN := Lib.hid (show kidsTo n (k + 1) r (cs b) = some (fs ++ [q.1], q.2) by simp only [kidsTo]; rw [HT.out]; simp [hp])
        have hle : wr.heap.size ≤ w2.heap.size := hK2.1
        have hwg : gf < wr.heap.size := blk_lt HKS.out.blk
        have hkw : w.heap.size ≤ wr.heap.size := HKS.out.rd.keep.1
        have hown : sl.ownBlock = none ∨ ∃ q, sl.ownBlock = some q ∧ q < wr.heap.size := by
          cases ho : sl.ownBlock with
          | none => exact Or.inl rfl
          | some q => exact Or.inr ⟨q, rfl, Kd.R_lt HKS.out.own q ho⟩
        have HOWN := Lib.hid hown
        clear hI2 hB2 hK2 hp htree hs2 hown HT HKS HC
        have hblk := HK2.out.blk
        have hcell : w2.cell? ⟨gf, 3, none⟩ = some sl := (blk_cell hblk 3).trans rfl
        have hfr := blk_frozen hblk 3
        have hxs : (xs.length + 1) * 8 ≤ 140737488355328 := by have := HK2.out.len; omega
        have HXS := Lib.hid hxs
        clear hblk hxs
        obtain ⟨A, cp, rfl⟩ := Kd.R_slice HK2.out.own
        go_wp2_with (first | (at_builtin; refine Kd.R_append PK (w0 := w0) w0.heap.size rfl (.tmp 83) (.tmp 85) 72 60 (.pointer none) 8 rfl Try.underlying72 info60 rfl (by decide) (by decide) (.slice A xs.length cp) xs (some ⟨gk, 0, none⟩) [.pointer (some ⟨gk, 0, none⟩)] (fun k => w.heap.size ≤ k) (fun _ => False) rfl rfl rfl (fun _ h => h.elim) (fun k hk => Nat.le_trans HK2.out.rd.keep.1 hk) HK2.out.own HK2.out.rd.below HK2.out.rd.below.size HXS.out ?_; intro v1 w1 hv hb hg hat; have HK3 := Lib.hid (HK2.out.push (Nat.le_of_lt hgw) HOWN.out hle hwg hkw HTR.out hv hb hg hat); have hfr1 : w1.frozen? ⟨gf, 3, none⟩ = false := blk_frozen (blk_grown HK2.out.blk hg (Kd.R_ne HK2.out.own HK2.out.blk (by decide))) 3; have hcell1 : w1.cell? ⟨gf, 3, none⟩ = some (.slice A xs.length cp) := (blk_cell (blk_grown HK2.out.blk hg (Kd.R_ne HK2.out.own HK2.out.blk (by decide))) 3).trans rfl; obtain ⟨A1, cp1, hv1⟩ := Kd.R_slice hv; subst hv1; clear hv hb hg hat hcell hfr) | fail)
        go_roundw
        case rel => exact ⟨k + 1, _, _, _, _, _, by omega, by go_num, HN.out, HS2.out, by have h := HK3.out; rw [show (xs ++ [some (⟨gk, 0, none⟩ : Addr)]).length = xs.length + 1 by simp] at h; exact h⟩
        case measure => simp [intOf]; omega
    · obtain rfl : k = m := by omega
      go_wp2
      go_ret
      rw [HT.out]
      exact kids_post HKS.out HC.out hm1 hm2

end Go.Proofs.Ytjffhhalmicodaa.X
