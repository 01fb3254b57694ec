/- Texts of this claim, merged by a program (wip/tools/shake.py); what nothing names is left out. -/
import Derived.RangeFuncFrom
import Derived.Test.YtpfenoioeajkmaaDoorSqa
section
set_option linter.unusedVariables false
set_option linter.unusedSimpArgs false
namespace Go.Proofs.YtpfenoioeajkmaaDoor.X
open Go.RowKit Go.Proofs.YtpfenoioeajkmaaDoorW.PrintWords Go.Proofs.YtpfenoioeajkmaaDoorW.PrintLast Go.Proofs.YtpfenoioeajkmaaDoorW.PrintMore Go.Proofs.YtpfenoioeajkmaaDoor.L
abbrev Fct := Nat × Nat × Nat × Nat
def encF (f : Fct) : Value := .agg #[.int .i64 f.1, .int .i64 f.2.1, .int .i64 f.2.2.1, .int .i64 f.2.2.2]
def fT (t : ByteArray) (h a b : Nat) : Bool := decide (t.extract h t.size = backF (t.extract 0 a) ++ backF (t.extract a (a + b)) ++ backF (t.extract (a + b) h))
def fB (s : ByteArray) (k a : Nat) : Nat → List Fct
  | 0 => []
  | m + 1 => fB s k a m ++ if fT (rotF s k) (s.size / 2) a (m + 1) then [(k, a, m + 1, s.size / 2 - a - (m + 1))] else []
def fA (s : ByteArray) (k : Nat) : Nat → List Fct
  | 0 => []
  | m + 1 => fA s k m ++ fB s k (m + 1) (s.size / 2 - (m + 1))
def fK (s : ByteArray) : Nat → List Fct
  | 0 => []
  | k + 1 => fK s k ++ fA s k (s.size / 2 - 1)
def facs (s : ByteArray) : List Fct := fK s s.size
theorem fB_pre (s : ByteArray) (k a : Nat) : ∀ {m m' : Nat}, m ≤ m' → fB s k a m <+: fB s k a m'
  | m, 0, h => by obtain rfl : m = 0 := by omega
                  exact List.prefix_refl _
  | m, m' + 1, h => by
    by_cases e : m = m' + 1
    · rw [e]; exact List.prefix_refl _
    · exact (fB_pre s k a (by omega)).trans (List.prefix_append _ _)
theorem fA_pre (s : ByteArray) (k : Nat) : ∀ {m m' : Nat}, m ≤ m' → fA s k m <+: fA s k m'
  | m, 0, h => by obtain rfl : m = 0 := by omega
                  exact List.prefix_refl _
  | m, m' + 1, h => by
    by_cases e : m = m' + 1
    · rw [e]; exact List.prefix_refl _
    · exact (fA_pre s k (by omega)).trans (List.prefix_append _ _)
theorem fK_pre (s : ByteArray) : ∀ {m m' : Nat}, m ≤ m' → fK s m <+: fK s m'
  | m, 0, h => by obtain rfl : m = 0 := by omega
                  exact List.prefix_refl _
  | m, m' + 1, h => by
    by_cases e : m = m' + 1
    · rw [e]; exact List.prefix_refl _
    · exact (fK_pre s (by omega)).trans (List.prefix_append _ _)
theorem pre_app {α : Type} (l : List α) {x y : List α} (h : x <+: y) : l ++ x <+: l ++ y := by
  obtain ⟨z, rfl⟩ := h
  exact ⟨z, by rw [List.append_assoc]⟩
theorem all_pre {s : ByteArray} {k m b : Nat} (hk : k < s.size) (hm : m + 1 ≤ s.size / 2 - 1) (hb : b ≤ s.size / 2 - (m + 1)) : fK s k ++ fA s k m ++ fB s k (m + 1) b <+: facs s := by
  have h1 : fA s k m ++ fB s k (m + 1) b <+: fA s k (m + 1) := pre_app _ (fB_pre s k (m + 1) hb)
  have h2 : fK s k ++ (fA s k m ++ fB s k (m + 1) b) <+: fK s (k + 1) := pre_app _ (h1.trans (fA_pre s k hm))
  rw [List.append_assoc]
  exact h2.trans (fK_pre s (by omega))
theorem fB_step (s : ByteArray) (k a : Nat) {b : Nat} (hb : 1 ≤ b) : fB s k a b = fB s k a (b - 1) ++ if fT (rotF s k) (s.size / 2) a b then [(k, a, b, s.size / 2 - a - b)] else [] := by
  obtain ⟨m, rfl⟩ : ∃ m, b = m + 1 := ⟨b - 1, by omega⟩
  rfl
theorem fA_step (s : ByteArray) (k : Nat) {a : Nat} (ha : 1 ≤ a) : fA s k a = fA s k (a - 1) ++ fB s k a (s.size / 2 - a) := by
  obtain ⟨m, rfl⟩ : ∃ m, a = m + 1 := ⟨a - 1, by omega⟩
  rfl
theorem yes_step {s t : ByteArray} {k a b h : Nat} (hf : fT t h a b = true) (hrt : rotF s k = t) (hh : s.size / 2 = h) (hb : 1 ≤ b) :
    fK s k ++ fA s k (a - 1) ++ fB s k a (b - 1) ++ [(k, a, b, h - a - b)] = fK s k ++ fA s k (a - 1) ++ fB s k a (b + 1 - 1) := by
  rw [show b + 1 - 1 = b by omega, fB_step s k a hb, hrt, hh, if_pos hf, List.append_assoc]
theorem no_step {s t : ByteArray} {k a b h : Nat} (hf : fT t h a b = false) (hrt : rotF s k = t) (hh : s.size / 2 = h) (hb : 1 ≤ b) :
    fK s k ++ fA s k (a - 1) ++ fB s k a (b - 1) = fK s k ++ fA s k (a - 1) ++ fB s k a (b + 1 - 1) := by
  rw [show b + 1 - 1 = b by omega, fB_step s k a hb, hrt, hh, hf, if_neg (by decide), List.append_nil]
theorem row_step {s : ByteArray} {k a b c h : Nat} (hh : s.size / 2 = h) (ha : 1 ≤ a) (hb : 1 ≤ b) (hb2 : b ≤ h - a + 1) (hc : a + b = c) (hn : ¬ c ≤ h) (hah : a < h) :
    fK s k ++ fA s k (a - 1) ++ fB s k a (b - 1) = fK s k ++ fA s k (a + 1 - 1) := by
  rw [show a + 1 - 1 = a by omega, fA_step s k ha, hh, show b - 1 = h - a by omega, List.append_assoc]
theorem yes_pre {s t : ByteArray} {k a b c h : Nat} (hf : fT t h a b = true) (hrt : rotF s k = t) (hh : s.size / 2 = h) (ha : 1 ≤ a) (hb : 1 ≤ b) (hc : a + b = c) (hn : c ≤ h) (hah : a < h) (hk : k < s.size) :
    fK s k ++ fA s k (a - 1) ++ fB s k a (b - 1) ++ [(k, a, b, h - a - b)] <+: facs s := by
  rw [yes_step hf hrt hh hb, show b + 1 - 1 = b by omega]
  obtain ⟨m, rfl⟩ : ∃ m, a = m + 1 := ⟨a - 1, by omega⟩
  rw [show m + 1 - 1 = m by omega]
  exact all_pre hk (by rw [hh]; omega) (by rw [hh]; omega)
theorem yes_len {s t : ByteArray} {k a b c h : Nat} (hf : fT t h a b = true) (hrt : rotF s k = t) (hh : s.size / 2 = h) (ha : 1 ≤ a) (hb : 1 ≤ b) (hc : a + b = c) (hn : c ≤ h) (hah : a < h) (hk : k < s.size) :
    (fK s k ++ fA s k (a - 1) ++ fB s k a (b - 1)).length < (facs s).length := by
  have := (yes_pre hf hrt hh ha hb hc hn hah hk).length_le
  rw [List.length_append] at this
  simp only [List.length_singleton] at this
  omega
theorem wrap_succ {a : Nat} (h : a ≤ 100) : wrap64 ((a : Int) + 1) = ((a + 1 : Nat) : Int) := by unfold wrap64; omega
theorem beq_lists {a b : ByteArray} {r : Bool} (h : decide (a = b) = r) : (a.toList = b.toList) = (r = true) := by
  rw [ByteArray.toList_eq, ByteArray.toList_eq]
  cases r with
  | true =>
    have := of_decide_eq_true h
    simp [this]
  | false =>
    simp only [Bool.false_eq_true, eq_iff_iff, iff_false]
    intro q
    have e : a = b := by
      cases a
      cases b
      simp only [ByteArray.mk.injEq]
      exact Array.toList_inj.1 q
    exact of_decide_eq_false h e
theorem grown_of_below {W W' : World} (h : Below W.heap.size W W') : W.grownBy W' none := ⟨h.os, h.tape, h.output, h.size, fun k hk _ => h.block k hk⟩
def KpF (Bn : Nat) (s : ByteArray) (A B : World) : Prop := (A.cell? ⟨Bn, 0, none⟩ = some (.string s) → B.cell? ⟨Bn, 0, none⟩ = some (.string s)) ∧ KeepsWalks A B
theorem rot_size (s : ByteArray) {k : Nat} (hk : k ≤ s.size) : (rotF s k).size = s.size := by
  unfold rotF
  rw [ByteArray.size_append, ByteArray.size_extract, ByteArray.size_extract]
  omega
theorem bt_app (a b : ByteArray) (i : Nat) (hi : i < (a ++ b).size) : bt (a ++ b) (i : Int) = if i < a.size then bt a (i : Int) else bt b ((i - a.size : Nat) : Int) := by
  rw [← bt_at (a ++ b) (i : Int) (by simpa using hi)]
  by_cases h : i < a.size
  · rw [if_pos h, ← bt_at a (i : Int) (by simpa using h)]
    have : (a ++ b)[i]'hi = a[i]'h := ByteArray.getElem_append_left h
    show (((a ++ b)[i]'hi).toNat : Int) = ((a[i]'h).toNat : Int)
    rw [this]
  · have hb : i - a.size < b.size := by rw [ByteArray.size_append] at hi; omega
    rw [if_neg h, ← bt_at b ((i - a.size : Nat) : Int) (by simpa using hb)]
    have : (a ++ b)[i]'hi = b[i - a.size]'hb := ByteArray.getElem_append_right (by omega)
    show (((a ++ b)[i]'hi).toNat : Int) = ((b[i - a.size]'hb).toNat : Int)
    rw [this]
theorem rot_bt (s : ByteArray) {k : Nat} (hk : k ≤ s.size) (i : Nat) (hi : i < s.size) : bt (rotF s k) i = bt s (if i < s.size - k then k + i else i - (s.size - k) : Nat) := by
  have h := rot_size s hk
  unfold rotF at h ⊢
  have h1 : (s.extract k s.size).size = s.size - k := by rw [ByteArray.size_extract]; omega
  rw [bt_app _ _ i (by rw [h]; exact hi), h1]
  by_cases hlt : i < s.size - k
  · rw [if_pos hlt, if_pos hlt, bt_cut s k s.size i (by omega) (Nat.le_refl _)]
  · rw [if_neg hlt, if_neg hlt, bt_cut s 0 k (i - (s.size - k)) (by omega) hk, Nat.zero_add]
theorem rot_W {s : ByteArray} (h : isW s = true) {k : Nat} (hk : k ≤ s.size) : isW (rotF s k) = true := by
  have hs := rot_size s hk
  rw [isW_iff] at h ⊢
  refine ⟨by rw [hs]; exact h.1, fun i hi => ?_⟩
  rw [hs] at hi
  rw [rot_bt s hk i hi]
  refine h.2 _ ?_
  split <;> omega
theorem back_W' {s : ByteArray} (h : isW s = true) (w : World) : Calls Tryd.prog 53 #[.string s] w fun e w' => e = .returned (.string (backF s)) ∧ Below w.heap.size w w' := moulds_back.calls s _ w (back_f h)
set_option maxHeartbeats 8000000 in
set_option maxRecDepth 100000 in
theorem factors1_in (n l Bn : Nat) (s : ByteArray) (hw : isW s = true) (J Jx : List Fct → World → Prop) (W : World) (hJ : AbidesFrom W.heap.size J)
    (hY : ∀ pre x W1, J pre W1 → pre.length < (facs s).length → YieldAt Fence.wide (n - 1) Tryd.prog l #[encF x] W1 fun e W' => (e = .returned (.bool true) ∧ J (pre ++ [x]) W' ∧ KpF Bn s W1 W') ∨ (e = .returned (.bool false) ∧ Jx (pre ++ [x]) W'))
    (hc : W.cell? ⟨Bn, 0, none⟩ = some (.string s)) (h0 : J [] W) :
    Calls Tryd.prog 77 #[.func (.yield l) #[] #[], .pointer (some ⟨Bn, 0, none⟩)] W fun e W' => (∃ v, e = .returned v) ∧ ((∃ xs, xs = facs s ∧ J xs W') ∨ (∃ pre, pre <+: facs s ∧ Jx pre W')) := by
  have hs24 := isW_le hw
  have hBnW : Bn < W.heap.size := World.block_lt_of_cell? _ _ hc
  have HW := Lib.hid hw
  have HA := Lib.hid (ascii_of ((isW_iff s).1 hw).2)
  have HJ := Lib.hid hJ
  have HY := Lib.hid hY
  clear hw hJ hY
  go_enter Tryd.func77, Tryd.ntmps77
  go_wp2_with fail
  have hit : (W.iter s 0).heap[W.heap.size]? = some (.stringIter s 0) := World.iter_heap W s 0
  have hbl : Below W.heap.size W (W.iter s 0) := (Below.refl _ _).alloc (Nat.le_refl _) _
  have hc1 : (W.iter s 0).cell? ⟨Bn, 0, none⟩ = some (.string s) := (hbl.cell (p := ⟨Bn, 0, none⟩) (World.block_lt_of_cell? _ _ hc)).trans hc
  have h01 := HJ.out [] W (W.iter s 0) none h0 (grown_of_below hbl) (fun r e => by cases e)
  have hsz1 := hbl.size
  generalize W.iter s 0 = w1 at hit hbl hc1 h01 hsz1 ⊢
  have HI := Lib.hid hit
  have HJ0 := Lib.hid h01
  have HC := Lib.hid hc1
  have HZ := Lib.hid hsz1
  generalize hB : W.heap.size = B at *
  clear hit hbl hc1 h01 hc h0 hsz1
  have hq : ((s.size : Int).tdiv 2) = ((s.size / 2 : Nat) : Int) := Int.ofNat_tdiv _ 2
  have hq2 : ((s.size : Int) / 2) = ((s.size / 2 : Nat) : Int) := by omega
  have hhs : s.size / 2 ≤ s.size := by omega
  generalize hh : s.size / 2 = h at *
  have HH := Lib.hid hh
  clear hh
  (try simp only [hq])
  (try simp only [hq2])
  clear hq hq2
  go_loopw [4] (fun _ wr => ∃ k : Nat, k ≤ s.size ∧ Hid (wr.heap[B]? = some (.stringIter s k)) ∧ Hid (wr.cell? ⟨Bn, 0, none⟩ = some (.string s)) ∧ Hid (J (fK s k) wr) ∧ Hid (B ≤ wr.heap.size)) (fun _ wr => match wr.heap[B]? with | some (.stringIter _ p) => s.size - p | _ => 0)
  case atStart => exact ⟨0, by omega, HI, HC, HJ0, HZ⟩
  case round =>
    clear HI HC HJ0 HZ
    obtain ⟨k, hk, HI, HC, HJ0, HZ⟩ := hrel
    have HI0 := HI
    by_cases hlt : k < s.size
    · have hnx := fun ty => run_next_at (P := Tryd.prog) HI.out hlt (ascii_at HA.out hlt) ty
      have hit2 : (putObj wr B (.stringIter s (k + 1))).heap[B]? = some (.stringIter s (k + 1)) := putObj_at HI.out
      have hg2 : wr.grownBy (putObj wr B (.stringIter s (k + 1))) (some B) := Go.grownBy_putObj' wr B (.stringIter s (k + 1))
      have hc2 := cell_grown hg2 HC.out (by simp; omega)
      have hJ2 := HJ.out _ _ _ _ HJ0.out hg2 (fun r e => by cases e; exact ⟨Nat.le_refl _, _, HI.out, rfl⟩)
      have HSZ := Lib.hid (show B ≤ (putObj wr B (.stringIter s (k + 1))).heap.size from Nat.le_trans HZ.out hg2.size)
      go_wp2_with fail
      clear hnx
      generalize putObj wr B (.stringIter s (k + 1)) = w2 at hit2 hc2 hJ2 HSZ ⊢
      clear hg2
      have HI2 := Lib.hid hit2
      have HC2 := Lib.hid hc2
      have HJ2 := Lib.hid hJ2
      clear hit2 hJ2 HI HC HJ0 HZ
      generalize hrt : rotF s k = t at *
      have hrt' : s.extract k s.size ++ s.extract 0 k = t := hrt
      have hts : t.size = s.size := by rw [← hrt]; exact rot_size s hk
      have htw : isW t = true := by rw [← hrt]; exact rot_W HW.out hk
      have HT := Lib.hid htw
      have HRT := Lib.hid hrt
      clear hrt htw
      have hsk : ¬ ((k : Int) < 0) := by omega
      have hsz : (9223372036854775807 < s.size) = False := by simp; omega
      refine start_ (n := 8) (S := fun w' => w'.cell? ⟨Bn, 0, none⟩ = some (.string s) ∧ True) (ds := []) #[false, false, false, false, false, false, false, false] (by kernel_rfl) rfl rfl ⟨hc2, trivial⟩ (fun hHeld => ?_)
      refine take_ (i := 0) (N := (some 16)) (v := ?_) (a' := ?_) #[true, false, false, false, false, false, false, false] rfl rfl (by kernel_rfl) (fun _ _ _ h => h) (Or.inl ⟨by rfl, ?_⟩) hHeld ?_ ?_
      rotate_left
      · rintro w' ⟨s0, s1⟩; go_simp; first | done | with_reducible rfl
      rotate_left
      · simp only [Act.put, List.setIfInBounds_toArray, List.set_cons_zero, List.set_cons_succ, i64_w, i32_w]; rfl
      refine pure_ (i := 1) (N := (some 17)) (v := ?_) (a' := ?_) #[true, true, false, false, false, false, false, false] rfl rfl (by kernel_rfl) (fun _ _ _ h => h) (Or.inl ⟨by rfl, ?_⟩) ?_ ?_
      rotate_left
      · intro w'; go_simp; first | done | with_reducible rfl
      rotate_left
      · simp only [Act.put, List.setIfInBounds_toArray, List.set_cons_zero, List.set_cons_succ, i64_w, i32_w]; rfl
      refine pure_ (i := 2) (N := (some 18)) (v := ?_) (a' := ?_) #[true, true, true, false, false, false, false, false] rfl rfl (by kernel_rfl) (fun _ _ _ h => h) (Or.inl ⟨by rfl, ?_⟩) ?_ ?_
      rotate_left
      · intro w'; go_simp; first | done | with_reducible rfl
      rotate_left
      · simp only [Act.put, List.setIfInBounds_toArray, List.set_cons_zero, List.set_cons_succ, i64_w, i32_w]; rfl
      refine take_ (i := 3) (N := (some 19)) (v := ?_) (a' := ?_) #[true, true, true, true, false, false, false, false] rfl rfl (by kernel_rfl) (fun _ _ _ h => h) (Or.inl ⟨by rfl, ?_⟩) hHeld ?_ ?_
      rotate_left
      · rintro w' ⟨s0, s1⟩; go_simp; first | done | with_reducible rfl
      rotate_left
      · simp only [Act.put, List.setIfInBounds_toArray, List.set_cons_zero, List.set_cons_succ, i64_w, i32_w]; rfl
      refine pure_ (i := 4) (N := (some 20)) (v := ?_) (a' := ?_) #[true, true, true, true, true, false, false, false] rfl rfl (by kernel_rfl) (fun _ _ _ h => h) (Or.inl ⟨by rfl, ?_⟩) ?_ ?_
      rotate_left
      · intro w'; go_simp; first | done | with_reducible rfl
      rotate_left
      · simp only [Act.put, List.setIfInBounds_toArray, List.set_cons_zero, List.set_cons_succ, i64_w, i32_w]; rfl
      refine pure_ (i := 5) (N := (some 21)) (v := ?_) (a' := ?_) #[true, true, true, true, true, true, false, false] rfl rfl (by kernel_rfl) (fun _ _ _ h => h) (Or.inl ⟨by rfl, ?_⟩) ?_ ?_
      rotate_left
      · intro w'; go_simp; first | done | with_reducible rfl
      rotate_left
      · simp only [Act.put, List.setIfInBounds_toArray, List.set_cons_zero, List.set_cons_succ, i64_w, i32_w]; rfl
      refine pure_ (i := 6) (N := (some 22)) (v := ?_) (a' := ?_) #[true, true, true, true, true, true, true, false] rfl rfl (by kernel_rfl) (fun _ _ _ h => h) (Or.inl ⟨by rfl, ?_⟩) ?_ ?_
      rotate_left
      · intro w'; go_simp; first | done | with_reducible rfl
      rotate_left
      · simp only [Act.put, List.setIfInBounds_toArray, List.set_cons_zero, List.set_cons_succ, i64_w, i32_w]; rfl
      refine pure_ (i := 7) (N := (some 5)) (v := ?_) (a' := ?_) #[true, true, true, true, true, true, true, true] rfl rfl (by kernel_rfl) (fun _ _ _ h => h) (Or.inl ⟨by rfl, ?_⟩) ?_ ?_
      rotate_left
      · intro w'; go_simp; first | done | with_reducible rfl
      rotate_left
      · simp only [Act.put, List.setIfInBounds_toArray, List.set_cons_zero, List.set_cons_succ, i64_w, i32_w]; rfl
      refine done_ (by kernel_rfl) ?_
      clear hHeld hrt' hsk hc2 hsz
      have HTS := Lib.hid hts
      have HJ2 := Lib.hid (HJ.out _ _ _ _ HJ2.out (grown_of_below (Below.refl w2.heap.size w2).drew) (fun r e => by cases e))
      go_wp2_with fail
      go_loopw [6] (fun v wr => ∃ a : Nat, 1 ≤ a ∧ (a ≤ h ∨ a = 1) ∧ v = .int .i64 a ∧ Hid (wr.heap[B]? = some (.stringIter s (k + 1))) ∧ Hid (wr.cell? ⟨Bn, 0, none⟩ = some (.string s)) ∧ Hid (J (fK s k ++ fA s k (a - 1)) wr) ∧ Hid (B ≤ wr.heap.size)) (fun v _ => h + 1 - (intOf v).toNat)
      case atStart => exact ⟨1, by omega, by omega, rfl, HI2, HC2, by rw [show (1 - 1 : Nat) = 0 by rfl, fA, List.append_nil]; exact HJ2, HSZ⟩
      case round =>
        clear HI2 HC2 HJ2 HSZ
        obtain ⟨a, ha1, ha2, rfl, HI2, HC2, HJ2, HSZ⟩ := hrel
        by_cases hah : a < h
        · go_wp2_with fail
          go_loopw [7] (fun v wr => ∃ b : Nat, 1 ≤ b ∧ b ≤ h - a + 1 ∧ v = .int .i64 b ∧ Hid (wr.heap[B]? = some (.stringIter s (k + 1))) ∧ Hid (wr.cell? ⟨Bn, 0, none⟩ = some (.string s)) ∧ Hid (J (fK s k ++ fA s k (a - 1) ++ fB s k a (b - 1)) wr) ∧ Hid (B ≤ wr.heap.size)) (fun v _ => h + 1 - (intOf v).toNat)
          case atStart => exact ⟨1, by omega, by omega, rfl, HI2, HC2, by rw [show (1 - 1 : Nat) = 0 by rfl, fB, List.append_nil]; exact HJ2, HSZ⟩
          case round =>
            clear HI2 HC2 HJ2 HSZ
            obtain ⟨b, hb1, hb2, rfl, HI2, HC2, HJ2, HSZ⟩ := hrel
            have hab : wrap64 ((a : Int) + (b : Int)) = ((a + b : Nat) : Int) := by unfold wrap64; omega
            have hac : a ≤ a + b := by omega
            have HQ := Lib.hid (And.intro hb1 hb2)
            generalize hcc : a + b = c at hab hac
            have HCC := Lib.hid hcc
            have has : a ≤ s.size := Nat.le_trans (Nat.le_of_lt hah) hhs
            clear hcc hb1 hb2
            by_cases hbh : c ≤ h
            · have hcs : c ≤ s.size := Nat.le_trans hbh hhs
              go_wp2_with fail
              generalize hX : backF (t.extract 0 a) = X
              generalize hY : backF (t.extract a c) = Y
              generalize hZ : backF (t.extract c h) = Z
              have hXs : X.size ≤ 24 := by rw [← hX, back_size, ByteArray.size_extract]; omega
              have hYs : Y.size ≤ 24 := by rw [← hY, back_size, ByteArray.size_extract]; omega
              have hZs : Z.size ≤ 24 := by rw [← hZ, back_size, ByteArray.size_extract]; omega
              have hz1 : (9223372036854775807 < X.size + Y.size) = False := by simp; omega
              have hz2 : (9223372036854775807 < X.size + Y.size + Z.size) = False := by simp; omega
              have HX := Lib.hid hX
              have HYY := Lib.hid hY
              have HZZ := Lib.hid hZ
              clear hX hY hZ hXs hYs hZs
              have hts := HTS.out
              have hfc : wrap64 (wrap64 ((h : Int) - a) - b) = ((h - a - b : Nat) : Int) := by have := HQ.out; have := HCC.out; unfold wrap64; omega
              refine istart_ (n := 38) n #[false, false, false, false, false, false, false, false, false, false, false, false, false, false, false, false, false, false, false, false, false, false, false, false, false, false, false, false, false, false, false, false, false, false, false, false, false, false] (by kernel_rfl) rfl rfl ?_
              refine ipure_ (i := 0) (N := (some 35)) (v := ?_) (a' := ?_) #[true, false, false, false, false, false, false, false, false, false, false, false, false, false, false, false, false, false, false, false, false, false, false, false, false, false, false, false, false, false, false, false, false, false, false, false, false, false] rfl rfl (by kernel_rfl) (fun _ _ _ h => h) ⟨Or.inl ⟨by rfl, ?_⟩, fun _ => rfl⟩ ?_ ?_
              rotate_left
              · intro w'; go_simp; first | done | with_reducible rfl
              rotate_left
              · simp only [Act.put, List.setIfInBounds_toArray, List.set_cons_zero, List.set_cons_succ, i64_w, i32_w]; rfl
              refine ipure_ (i := 1) (N := (some 36)) (v := ?_) (a' := ?_) #[true, true, false, false, false, false, false, false, false, false, false, false, false, false, false, false, false, false, false, false, false, false, false, false, false, false, false, false, false, false, false, false, false, false, false, false, false, false] rfl rfl (by kernel_rfl) (fun _ _ _ h => h) ⟨Or.inl ⟨by rfl, ?_⟩, fun _ => rfl⟩ ?_ ?_
              rotate_left
              · intro w'; go_simp; first | done | with_reducible rfl
              rotate_left
              · simp only [Act.put, List.setIfInBounds_toArray, List.set_cons_zero, List.set_cons_succ, i64_w, i32_w]; rfl
              refine ipure_ (i := 2) (N := (some 37)) (v := ?_) (a' := ?_) #[true, true, true, false, false, false, false, false, false, false, false, false, false, false, false, false, false, false, false, false, false, false, false, false, false, false, false, false, false, false, false, false, false, false, false, false, false, false] rfl rfl (by kernel_rfl) (fun _ _ _ h => h) ⟨Or.inl ⟨by rfl, ?_⟩, fun _ => rfl⟩ ?_ ?_
              rotate_left
              · intro w'; go_simp; first | done | with_reducible rfl
              rotate_left
              · simp only [Act.put, List.setIfInBounds_toArray, List.set_cons_zero, List.set_cons_succ, i64_w, i32_w]; rfl
              refine ipure_ (i := 3) (N := (some 38)) (v := ?_) (a' := ?_) #[true, true, true, true, false, false, false, false, false, false, false, false, false, false, false, false, false, false, false, false, false, false, false, false, false, false, false, false, false, false, false, false, false, false, false, false, false, false] rfl rfl (by kernel_rfl) (fun _ _ _ h => h) ⟨Or.inl ⟨by rfl, ?_⟩, fun _ => rfl⟩ ?_ ?_
              rotate_left
              · intro w'; go_simp; first | done | with_reducible rfl
              rotate_left
              · simp only [Act.put, List.setIfInBounds_toArray, List.set_cons_zero, List.set_cons_succ, i64_w, i32_w]; rfl
              refine ipure_ (i := 4) (N := (some 39)) (v := ?_) (a' := ?_) #[true, true, true, true, true, false, false, false, false, false, false, false, false, false, false, false, false, false, false, false, false, false, false, false, false, false, false, false, false, false, false, false, false, false, false, false, false, false] rfl rfl (by kernel_rfl) (fun _ _ _ h => h) ⟨Or.inl ⟨by rfl, ?_⟩, fun _ => rfl⟩ ?_ ?_
              rotate_left
              · intro w'; go_simp; first | done | with_reducible rfl
              rotate_left
              · simp only [Act.put, List.setIfInBounds_toArray, List.set_cons_zero, List.set_cons_succ, i64_w, i32_w]; rfl
              refine ipure_ (i := 5) (N := (some 40)) (v := ?_) (a' := ?_) #[true, true, true, true, true, true, false, false, false, false, false, false, false, false, false, false, false, false, false, false, false, false, false, false, false, false, false, false, false, false, false, false, false, false, false, false, false, false] rfl rfl (by kernel_rfl) (fun _ _ _ h => h) ⟨Or.inl ⟨by rfl, ?_⟩, fun _ => rfl⟩ ?_ ?_
              rotate_left
              · intro w'; go_simp; first | done | with_reducible rfl
              rotate_left
              · simp only [Act.put, List.setIfInBounds_toArray, List.set_cons_zero, List.set_cons_succ, i64_w, i32_w]; rfl
              refine ipure_ (i := 7) (N := (some 42)) (v := ?_) (a' := ?_) #[true, true, true, true, true, true, false, true, false, false, false, false, false, false, false, false, false, false, false, false, false, false, false, false, false, false, false, false, false, false, false, false, false, false, false, false, false, false] rfl rfl (by kernel_rfl) (fun _ _ _ h => h) ⟨Or.inl ⟨by rfl, ?_⟩, fun _ => rfl⟩ ?_ ?_
              rotate_left
              · intro w'; go_simp; first | done | with_reducible rfl
              rotate_left
              · simp only [Act.put, List.setIfInBounds_toArray, List.set_cons_zero, List.set_cons_succ, i64_w, i32_w]; rfl
              refine ipure_ (i := 8) (N := (some 43)) (v := ?_) (a' := ?_) #[true, true, true, true, true, true, false, true, true, false, false, false, false, false, false, false, false, false, false, false, false, false, false, false, false, false, false, false, false, false, false, false, false, false, false, false, false, false] rfl rfl (by kernel_rfl) (fun _ _ _ h => h) ⟨Or.inl ⟨by rfl, ?_⟩, fun _ => rfl⟩ ?_ ?_
              rotate_left
              · intro w'; go_simp; first | done | with_reducible rfl
              rotate_left
              · simp only [Act.put, List.setIfInBounds_toArray, List.set_cons_zero, List.set_cons_succ, i64_w, i32_w]; rfl
              refine ipure_ (i := 9) (N := (some 44)) (v := ?_) (a' := ?_) #[true, true, true, true, true, true, false, true, true, true, false, false, false, false, false, false, false, false, false, false, false, false, false, false, false, false, false, false, false, false, false, false, false, false, false, false, false, false] rfl rfl (by kernel_rfl) (fun _ _ _ h => h) ⟨Or.inl ⟨by rfl, ?_⟩, fun _ => rfl⟩ ?_ ?_
              rotate_left
              · intro w'; go_simp; first | done | with_reducible rfl
              rotate_left
              · simp only [Act.put, List.setIfInBounds_toArray, List.set_cons_zero, List.set_cons_succ, i64_w, i32_w]; rfl
              refine ipure_ (i := 10) (N := (some 45)) (v := ?_) (a' := ?_) #[true, true, true, true, true, true, false, true, true, true, true, false, false, false, false, false, false, false, false, false, false, false, false, false, false, false, false, false, false, false, false, false, false, false, false, false, false, false] rfl rfl (by kernel_rfl) (fun _ _ _ h => h) ⟨Or.inl ⟨by rfl, ?_⟩, fun _ => rfl⟩ ?_ ?_
              rotate_left
              · intro w'; go_simp; first | done | with_reducible rfl
              rotate_left
              · simp only [Act.put, List.setIfInBounds_toArray, List.set_cons_zero, List.set_cons_succ, i64_w, i32_w]; rfl
              refine ipure_ (i := 11) (N := (some 46)) (v := ?_) (a' := ?_) #[true, true, true, true, true, true, false, true, true, true, true, true, false, false, false, false, false, false, false, false, false, false, false, false, false, false, false, false, false, false, false, false, false, false, false, false, false, false] rfl rfl (by kernel_rfl) (fun _ _ _ h => h) ⟨Or.inl ⟨by rfl, ?_⟩, fun _ => rfl⟩ ?_ ?_
              rotate_left
              · intro w'; go_simp; first | done | with_reducible rfl
              rotate_left
              · simp only [Act.put, List.setIfInBounds_toArray, List.set_cons_zero, List.set_cons_succ, i64_w, i32_w]; rfl
              refine ipure_ (i := 12) (N := (some 47)) (v := ?_) (a' := ?_) #[true, true, true, true, true, true, false, true, true, true, true, true, true, false, false, false, false, false, false, false, false, false, false, false, false, false, false, false, false, false, false, false, false, false, false, false, false, false] rfl rfl (by kernel_rfl) (fun _ _ _ h => h) ⟨Or.inl ⟨by rfl, ?_⟩, fun _ => rfl⟩ ?_ ?_
              rotate_left
              · intro w'; go_simp; first | done | with_reducible rfl
              rotate_left
              · simp only [Act.put, List.setIfInBounds_toArray, List.set_cons_zero, List.set_cons_succ, i64_w, i32_w]; rfl
              refine ipure_ (i := 15) (N := (some 50)) (v := ?_) (a' := ?_) #[true, true, true, true, true, true, false, true, true, true, true, true, true, false, false, true, false, false, false, false, false, false, false, false, false, false, false, false, false, false, false, false, false, false, false, false, false, false] rfl rfl (by kernel_rfl) (fun _ _ _ h => h) ⟨Or.inl ⟨by rfl, ?_⟩, fun _ => rfl⟩ ?_ ?_
              rotate_left
              · intro w'; go_simp; first | done | with_reducible rfl
              rotate_left
              · simp only [Act.put, List.setIfInBounds_toArray, List.set_cons_zero, List.set_cons_succ, i64_w, i32_w]; rfl
              refine ipure_ (i := 16) (N := (some 51)) (v := ?_) (a' := ?_) #[true, true, true, true, true, true, false, true, true, true, true, true, true, false, false, true, true, false, false, false, false, false, false, false, false, false, false, false, false, false, false, false, false, false, false, false, false, false] rfl rfl (by kernel_rfl) (fun _ _ _ h => h) ⟨Or.inl ⟨by rfl, ?_⟩, fun _ => rfl⟩ ?_ ?_
              rotate_left
              · intro w'; go_simp; first | done | with_reducible rfl
              rotate_left
              · simp only [Act.put, List.setIfInBounds_toArray, List.set_cons_zero, List.set_cons_succ, i64_w, i32_w]; rfl
              refine ipure_ (i := 17) (N := (some 52)) (v := ?_) (a' := ?_) #[true, true, true, true, true, true, false, true, true, true, true, true, true, false, false, true, true, true, false, false, false, false, false, false, false, false, false, false, false, false, false, false, false, false, false, false, false, false] rfl rfl (by kernel_rfl) (fun _ _ _ h => h) ⟨Or.inl ⟨by rfl, ?_⟩, fun _ => rfl⟩ ?_ ?_
              rotate_left
              · intro w'; go_simp; first | done | with_reducible rfl
              rotate_left
              · simp only [Act.put, List.setIfInBounds_toArray, List.set_cons_zero, List.set_cons_succ, i64_w, i32_w]; rfl
              refine ipure_ (i := 18) (N := (some 53)) (v := ?_) (a' := ?_) #[true, true, true, true, true, true, false, true, true, true, true, true, true, false, false, true, true, true, true, false, false, false, false, false, false, false, false, false, false, false, false, false, false, false, false, false, false, false] rfl rfl (by kernel_rfl) (fun _ _ _ h => h) ⟨Or.inl ⟨by rfl, ?_⟩, fun _ => rfl⟩ ?_ ?_
              rotate_left
              · intro w'; go_simp; first | done | with_reducible rfl
              rotate_left
              · simp only [Act.put, List.setIfInBounds_toArray, List.set_cons_zero, List.set_cons_succ, i64_w, i32_w]; rfl
              refine ipure_ (i := 19) (N := (some 54)) (v := ?_) (a' := ?_) #[true, true, true, true, true, true, false, true, true, true, true, true, true, false, false, true, true, true, true, true, false, false, false, false, false, false, false, false, false, false, false, false, false, false, false, false, false, false] rfl rfl (by kernel_rfl) (fun _ _ _ h => h) ⟨Or.inl ⟨by rfl, ?_⟩, fun _ => rfl⟩ ?_ ?_
              rotate_left
              · intro w'; go_simp; first | done | with_reducible rfl
              rotate_left
              · simp only [Act.put, List.setIfInBounds_toArray, List.set_cons_zero, List.set_cons_succ, i64_w, i32_w]; rfl
              refine ipure_ (i := 20) (N := (some 55)) (v := ?_) (a' := ?_) #[true, true, true, true, true, true, false, true, true, true, true, true, true, false, false, true, true, true, true, true, true, false, false, false, false, false, false, false, false, false, false, false, false, false, false, false, false, false] rfl rfl (by kernel_rfl) (fun _ _ _ h => h) ⟨Or.inl ⟨by rfl, ?_⟩, fun _ => rfl⟩ ?_ ?_
              rotate_left
              · intro w'; go_simp; first | done | with_reducible rfl
              rotate_left
              · simp only [Act.put, List.setIfInBounds_toArray, List.set_cons_zero, List.set_cons_succ, i64_w, i32_w]; rfl
              refine ilast_ (i := 6) (N := (some 41)) #[true, true, true, true, true, true, true, true, true, true, true, true, true, false, false, true, true, true, true, true, true, false, false, false, false, false, false, false, false, false, false, false, false, false, false, false, false, false] rfl rfl (by kernel_rfl) (fun K hK => ?_)
              refine igoes_ Tryd.func53 (by kernel_rfl) rfl #[.string (t.extract 0 a)] (by rfl) rfl rfl (by (try simp only [List.map_toArray, List.map_cons, List.map_nil]); first | done | rfl) ?_
              refine (back_W' (cut_W HT.out 0 a (by omega)) _).mono ?_
              rintro e w3 ⟨rfl, hb3⟩
              refine ⟨_, rfl, ?_⟩
              rw [HX.out]
              refine hK.out _ _ ?_
              clear hK K
              refine inorm_ (a' := ?_) ?_ ?_
              rotate_left
              · show Act.put _ (some 41) _ = _; simp only [Act.put, List.setIfInBounds_toArray, List.set_cons_zero, List.set_cons_succ, i64_w, i32_w]; rfl
              refine ilast_ (i := 13) (N := (some 48)) #[true, true, true, true, true, true, true, true, true, true, true, true, true, true, false, true, true, true, true, true, true, false, false, false, false, false, false, false, false, false, false, false, false, false, false, false, false, false] rfl rfl (by kernel_rfl) (fun K hK => ?_)
              refine igoes_ Tryd.func53 (by kernel_rfl) rfl #[.string (t.extract a c)] (by rfl) rfl rfl (by (try simp only [List.map_toArray, List.map_cons, List.map_nil]); first | done | rfl) ?_
              refine (back_W' (cut_W HT.out a c (by rw [hts]; exact hcs)) _).mono ?_
              rintro e w4 ⟨rfl, hb4⟩
              refine ⟨_, rfl, ?_⟩
              rw [HYY.out]
              refine hK.out _ _ ?_
              clear hK K
              refine inorm_ (a' := ?_) ?_ ?_
              rotate_left
              · show Act.put _ (some 48) _ = _; simp only [Act.put, List.setIfInBounds_toArray, List.set_cons_zero, List.set_cons_succ, i64_w, i32_w]; rfl
              refine ipure_ (i := 14) (N := (some 49)) (v := ?_) (a' := ?_) #[true, true, true, true, true, true, true, true, true, true, true, true, true, true, true, true, true, true, true, true, true, false, false, false, false, false, false, false, false, false, false, false, false, false, false, false, false, false] rfl rfl (by kernel_rfl) (fun _ _ _ h => h) ⟨Or.inl ⟨by rfl, ?_⟩, fun _ => rfl⟩ ?_ ?_
              rotate_left
              · intro w'; go_simp; first | done | with_reducible rfl
              rotate_left
              · simp only [Act.put, List.setIfInBounds_toArray, List.set_cons_zero, List.set_cons_succ, i64_w, i32_w]; rfl
              refine ilast_ (i := 21) (N := (some 56)) #[true, true, true, true, true, true, true, true, true, true, true, true, true, true, true, true, true, true, true, true, true, true, false, false, false, false, false, false, false, false, false, false, false, false, false, false, false, false] rfl rfl (by kernel_rfl) (fun K hK => ?_)
              refine igoes_ Tryd.func53 (by kernel_rfl) rfl #[.string (t.extract c h)] (by rfl) rfl rfl (by (try simp only [List.map_toArray, List.map_cons, List.map_nil]); first | done | rfl) ?_
              refine (back_W' (cut_W HT.out c h (by rw [hts]; exact hhs)) _).mono ?_
              rintro e w5 ⟨rfl, hb5⟩
              refine ⟨_, rfl, ?_⟩
              rw [HZZ.out]
              refine hK.out _ _ ?_
              clear hK K
              refine inorm_ (a' := ?_) ?_ ?_
              rotate_left
              · show Act.put _ (some 56) _ = _; simp only [Act.put, List.setIfInBounds_toArray, List.set_cons_zero, List.set_cons_succ, i64_w, i32_w]; rfl
              refine ipure_ (i := 22) (N := (some 57)) (v := ?_) (a' := ?_) #[true, true, true, true, true, true, true, true, true, true, true, true, true, true, true, true, true, true, true, true, true, true, true, false, false, false, false, false, false, false, false, false, false, false, false, false, false, false] rfl rfl (by kernel_rfl) (fun _ _ _ h => h) ⟨Or.inl ⟨by rfl, ?_⟩, fun _ => rfl⟩ ?_ ?_
              rotate_left
              · intro w'; go_simp; first | done | with_reducible rfl
              rotate_left
              · simp only [Act.put, List.setIfInBounds_toArray, List.set_cons_zero, List.set_cons_succ, i64_w, i32_w]; rfl
              have hbt : Below wr.heap.size wr w5 := (Below.refl wr.heap.size wr).drew.trans (hb3.trans ((hb4.mono hb3.size).trans (hb5.mono (Nat.le_trans hb3.size hb4.size))))
              have hBl : B < wr.heap.size := (Array.getElem?_eq_some_iff.1 HI2.out).1
              have HI5 := Lib.hid ((hbt.block B hBl).trans HI2.out)
              have HC5 := Lib.hid ((hbt.cell (p := ⟨Bn, 0, none⟩) (World.block_lt_of_cell? _ _ HC2.out)).trans HC2.out)
              have HJ5 := Lib.hid (HJ.out _ _ _ none HJ2.out (grown_of_below hbt) (fun r e => by cases e))
              have HZ5 := Lib.hid (Nat.le_trans HSZ.out hbt.size)
              have hfT : decide (t.extract h s.size = X ++ Y ++ Z) = fT t h a b := by
                unfold fT
                rw [HCC.out, HX.out, HYY.out, HZZ.out, hts]
              clear hbt hb3 hb4 hb5 hBl HI2 HC2 HJ2 HSZ
              have hwb := wrap_succ (a := b) (by have := HQ.out; omega)
              cases hf : fT t h a b with
              | true =>
                rw [hf] at hfT
                have hfL := beq_lists hfT
                have HFT := Lib.hid hf
                refine ipure_ (i := 23) (N := (some 58)) (v := (.bool true)) (a' := ?_) #[true, true, true, true, true, true, true, true, true, true, true, true, true, true, true, true, true, true, true, true, true, true, true, true, false, false, false, false, false, false, false, false, false, false, false, false, false, false] rfl rfl (by kernel_rfl) (fun _ _ _ h => h) ⟨Or.inl ⟨by rfl, ?_⟩, fun _ => rfl⟩ ?_ ?_
                · intro w'; go_simp; first | done | with_reducible rfl
                rotate_left
                · simp only [Act.put, List.setIfInBounds_toArray, List.set_cons_zero, List.set_cons_succ, i64_w, i32_w]; rfl
                refine ipure_ (i := 24) (N := (some 59)) (v := ?_) (a' := ?_) #[true, true, true, true, true, true, true, true, true, true, true, true, true, true, true, true, true, true, true, true, true, true, true, true, true, false, false, false, false, false, false, false, false, false, false, false, false, false] rfl rfl (by kernel_rfl) (fun _ _ _ h => h) ⟨Or.inl ⟨by rfl, ?_⟩, fun _ => rfl⟩ ?_ ?_
                rotate_left
                · intro w'; go_simp; first | done | with_reducible rfl
                rotate_left
                · simp only [Act.put, List.setIfInBounds_toArray, List.set_cons_zero, List.set_cons_succ, i64_w, i32_w]; rfl
                refine ipure_ (i := 25) (N := (some 60)) (v := ?_) (a' := ?_) #[true, true, true, true, true, true, true, true, true, true, true, true, true, true, true, true, true, true, true, true, true, true, true, true, true, true, false, false, false, false, false, false, false, false, false, false, false, false] rfl rfl (by kernel_rfl) (fun _ _ _ h => h) ⟨Or.inl ⟨by rfl, ?_⟩, fun _ => rfl⟩ ?_ ?_
                rotate_left
                · intro w'; go_simp; first | done | with_reducible rfl
                rotate_left
                · simp only [Act.put, List.setIfInBounds_toArray, List.set_cons_zero, List.set_cons_succ, i64_w, i32_w]; rfl
                refine ipure_ (i := 26) (N := (some 61)) (v := ?_) (a' := ?_) #[true, true, true, true, true, true, true, true, true, true, true, true, true, true, true, true, true, true, true, true, true, true, true, true, true, true, true, false, false, false, false, false, false, false, false, false, false, false] rfl rfl (by kernel_rfl) (fun _ _ _ h => h) ⟨Or.inl ⟨by rfl, ?_⟩, fun _ => rfl⟩ ?_ ?_
                rotate_left
                · intro w'; go_simp; first | done | with_reducible rfl
                rotate_left
                · simp only [Act.put, List.setIfInBounds_toArray, List.set_cons_zero, List.set_cons_succ, i64_w, i32_w]; rfl
                refine ipure_ (i := 27) (N := (some 62)) (v := ?_) (a' := ?_) #[true, true, true, true, true, true, true, true, true, true, true, true, true, true, true, true, true, true, true, true, true, true, true, true, true, true, true, true, false, false, false, false, false, false, false, false, false, false] rfl rfl (by kernel_rfl) (fun _ _ _ h => h) ⟨Or.inl ⟨by rfl, ?_⟩, fun _ => rfl⟩ ?_ ?_
                rotate_left
                · intro w'; go_simp; first | done | with_reducible rfl
                rotate_left
                · simp only [Act.put, List.setIfInBounds_toArray, List.set_cons_zero, List.set_cons_succ, i64_w, i32_w]; rfl
                refine ipure_ (i := 28) (N := (some 63)) (v := ?_) (a' := ?_) #[true, true, true, true, true, true, true, true, true, true, true, true, true, true, true, true, true, true, true, true, true, true, true, true, true, true, true, true, true, false, false, false, false, false, false, false, false, false] rfl rfl (by kernel_rfl) (fun _ _ _ h => h) ⟨Or.inl ⟨by rfl, ?_⟩, fun _ => rfl⟩ ?_ ?_
                rotate_left
                · intro w'; go_simp; first | done | with_reducible rfl
                rotate_left
                · simp only [Act.put, List.setIfInBounds_toArray, List.set_cons_zero, List.set_cons_succ, i64_w, i32_w]; rfl
                refine ipure_ (i := 29) (N := (some 64)) (v := ?_) (a' := ?_) #[true, true, true, true, true, true, true, true, true, true, true, true, true, true, true, true, true, true, true, true, true, true, true, true, true, true, true, true, true, true, false, false, false, false, false, false, false, false] rfl rfl (by kernel_rfl) (fun _ _ _ h => h) ⟨Or.inl ⟨by rfl, ?_⟩, fun _ => rfl⟩ ?_ ?_
                rotate_left
                · intro w'; go_simp; first | done | with_reducible rfl
                rotate_left
                · simp only [Act.put, List.setIfInBounds_toArray, List.set_cons_zero, List.set_cons_succ, i64_w, i32_w]; rfl
                refine ipure_ (i := 30) (N := (some 65)) (v := ?_) (a' := ?_) #[true, true, true, true, true, true, true, true, true, true, true, true, true, true, true, true, true, true, true, true, true, true, true, true, true, true, true, true, true, true, true, false, false, false, false, false, false, false] rfl rfl (by kernel_rfl) (fun _ _ _ h => h) ⟨Or.inl ⟨by rfl, ?_⟩, fun _ => rfl⟩ ?_ ?_
                rotate_left
                · intro w'; go_simp; first | done | with_reducible rfl
                rotate_left
                · simp only [Act.put, List.setIfInBounds_toArray, List.set_cons_zero, List.set_cons_succ, i64_w, i32_w]; rfl
                refine ipure_ (i := 31) (N := (some 66)) (v := ?_) (a' := ?_) #[true, true, true, true, true, true, true, true, true, true, true, true, true, true, true, true, true, true, true, true, true, true, true, true, true, true, true, true, true, true, true, true, false, false, false, false, false, false] rfl rfl (by kernel_rfl) (fun _ _ _ h => h) ⟨Or.inl ⟨by rfl, ?_⟩, fun _ => rfl⟩ ?_ ?_
                rotate_left
                · intro w'; go_simp; first | done | with_reducible rfl
                rotate_left
                · simp only [Act.put, List.setIfInBounds_toArray, List.set_cons_zero, List.set_cons_succ, i64_w, i32_w]; rfl
                refine ipure_ (i := 32) (N := (some 67)) (v := ?_) (a' := ?_) #[true, true, true, true, true, true, true, true, true, true, true, true, true, true, true, true, true, true, true, true, true, true, true, true, true, true, true, true, true, true, true, true, true, false, false, false, false, false] rfl rfl (by kernel_rfl) (fun _ _ _ h => h) ⟨Or.inl ⟨by rfl, ?_⟩, fun _ => rfl⟩ ?_ ?_
                rotate_left
                · intro w'; go_simp; first | done | with_reducible rfl
                rotate_left
                · simp only [Act.put, List.setIfInBounds_toArray, List.set_cons_zero, List.set_cons_succ, i64_w, i32_w]; rfl
                refine ipure_ (i := 33) (N := (some 68)) (v := ?_) (a' := ?_) #[true, true, true, true, true, true, true, true, true, true, true, true, true, true, true, true, true, true, true, true, true, true, true, true, true, true, true, true, true, true, true, true, true, true, false, false, false, false] rfl rfl (by kernel_rfl) (fun _ _ _ h => h) ⟨Or.inl ⟨by rfl, ?_⟩, fun _ => rfl⟩ ?_ ?_
                rotate_left
                · intro w'; go_simp; first | done | with_reducible rfl
                rotate_left
                · simp only [Act.put, List.setIfInBounds_toArray, List.set_cons_zero, List.set_cons_succ, i64_w, i32_w]; rfl
                refine ipure_ (i := 34) (N := (some 69)) (v := ?_) (a' := ?_) #[true, true, true, true, true, true, true, true, true, true, true, true, true, true, true, true, true, true, true, true, true, true, true, true, true, true, true, true, true, true, true, true, true, true, true, false, false, false] rfl rfl (by kernel_rfl) (fun _ _ _ h => h) ⟨Or.inl ⟨by rfl, ?_⟩, fun _ => rfl⟩ ?_ ?_
                rotate_left
                · intro w'; go_simp; first | done | with_reducible rfl
                rotate_left
                · simp only [Act.put, List.setIfInBounds_toArray, List.set_cons_zero, List.set_cons_succ, i64_w, i32_w]; rfl
                refine ilast_ (i := 35) (N := (some 70)) #[true, true, true, true, true, true, true, true, true, true, true, true, true, true, true, true, true, true, true, true, true, true, true, true, true, true, true, true, true, true, true, true, true, true, true, true, false, false] rfl rfl (by kernel_rfl) (fun K hK => ?_)
                refine iround_ (l := l) #[encF (k, a, b, h - a - b)] (by rfl) rfl rfl rfl (by (try simp only [List.map_toArray, List.map_cons, List.map_nil]); first | done | rfl) ?_
                refine (HY.out _ (k, a, b, h - a - b) w5 HJ5.out (yes_len HFT.out HRT.out HH.out ha1 HQ.out.1 HCC.out hbh hah hlt)).mono ?_
                rintro e W6 (⟨rfl, hJ6, hK6⟩ | ⟨rfl, hJx6⟩)
                · refine ⟨_, rfl, ?_⟩
                  have HI6 := Lib.hid (hK6.2.same B _ HI5.out rfl)
                  have HC6 := Lib.hid (hK6.1 HC5.out)
                  have HJ6 := Lib.hid hJ6
                  have HZ6 := Lib.hid (Nat.le_trans HZ5.out hK6.2.size)
                  clear hJ6 hK6
                  refine hK.out _ _ ?_
                  clear hK K
                  refine inorm_ (a' := ?_) ?_ ?_
                  rotate_left
                  · show Act.put _ (some 70) _ = _; simp only [Act.put, List.setIfInBounds_toArray, List.set_cons_zero, List.set_cons_succ, i64_w, i32_w]; rfl
                  refine ipure_ (i := 36) (N := (some 71)) (v := ?_) (a' := ?_) #[true, true, true, true, true, true, true, true, true, true, true, true, true, true, true, true, true, true, true, true, true, true, true, true, true, true, true, true, true, true, true, true, true, true, true, true, true, false] rfl rfl (by kernel_rfl) (fun _ _ _ h => h) ⟨Or.inl ⟨by rfl, ?_⟩, fun _ => rfl⟩ ?_ ?_
                  rotate_left
                  · intro w'; go_simp; first | done | with_reducible rfl
                  rotate_left
                  · simp only [Act.put, List.setIfInBounds_toArray, List.set_cons_zero, List.set_cons_succ, i64_w, i32_w]; rfl
                  refine ipure_ (i := 37) (N := (some 72)) (v := ?_) (a' := ?_) #[true, true, true, true, true, true, true, true, true, true, true, true, true, true, true, true, true, true, true, true, true, true, true, true, true, true, true, true, true, true, true, true, true, true, true, true, true, true] rfl rfl (by kernel_rfl) (fun _ _ _ h => h) ⟨Or.inl ⟨by rfl, ?_⟩, fun _ => rfl⟩ ?_ ?_
                  rotate_left
                  · intro w'; go_simp; first | done | with_reducible rfl
                  rotate_left
                  · simp only [Act.put, List.setIfInBounds_toArray, List.set_cons_zero, List.set_cons_succ, i64_w, i32_w]; rfl
                  refine idone_ (by kernel_rfl) ?_
                  go_wp2_with fail
                  rw [hwb]
                  refine ⟨⟨b + 1, by omega, by have := HQ.out; have := HCC.out; omega, rfl, HI6, HC6, ?_, HZ6⟩, by simp [intOf]; have := HQ.out; have := HCC.out; omega⟩
                  rw [← yes_step HFT.out HRT.out HH.out HQ.out.1]
                  exact HJ6
                · refine ⟨_, rfl, ?_⟩
                  have HJ6 := Lib.hid hJx6
                  clear hJx6
                  refine hK.out _ _ ?_
                  clear hK K
                  refine inorm_ (a' := ?_) ?_ ?_
                  rotate_left
                  · show Act.put _ (some 70) _ = _; simp only [Act.put, List.setIfInBounds_toArray, List.set_cons_zero, List.set_cons_succ, i64_w, i32_w]; rfl
                  refine ipure_ (i := 36) (N := (some 71)) (v := ?_) (a' := ?_) #[true, true, true, true, true, true, true, true, true, true, true, true, true, true, true, true, true, true, true, true, true, true, true, true, true, true, true, true, true, true, true, true, true, true, true, true, true, false] rfl rfl (by kernel_rfl) (fun _ _ _ h => h) ⟨Or.inl ⟨by rfl, ?_⟩, fun _ => rfl⟩ ?_ ?_
                  rotate_left
                  · intro w'; go_simp; first | done | with_reducible rfl
                  rotate_left
                  · simp only [Act.put, List.setIfInBounds_toArray, List.set_cons_zero, List.set_cons_succ, i64_w, i32_w]; rfl
                  refine ipure_ (i := 37) (N := (some 72)) (v := ?_) (a' := ?_) #[true, true, true, true, true, true, true, true, true, true, true, true, true, true, true, true, true, true, true, true, true, true, true, true, true, true, true, true, true, true, true, true, true, true, true, true, true, true] rfl rfl (by kernel_rfl) (fun _ _ _ h => h) ⟨Or.inl ⟨by rfl, ?_⟩, fun _ => rfl⟩ ?_ ?_
                  rotate_left
                  · intro w'; go_simp; first | done | with_reducible rfl
                  rotate_left
                  · simp only [Act.put, List.setIfInBounds_toArray, List.set_cons_zero, List.set_cons_succ, i64_w, i32_w]; rfl
                  refine idone_ (by kernel_rfl) ?_
                  go_wp2_with fail
                  refine bodyPost_ret (results_none rfl _ _ _) rfl ?_
                  exact ⟨⟨_, rfl⟩, .inr ⟨_, yes_pre HFT.out HRT.out HH.out ha1 HQ.out.1 HCC.out hbh hah hlt, HJ6.out⟩⟩
              | false =>
                rw [hf] at hfT
                have hfL := beq_lists hfT
                have HFT := Lib.hid hf
                refine ipure_ (i := 23) (N := (some 58)) (v := (.bool false)) (a' := ?_) #[true, true, true, true, true, true, true, true, true, true, true, true, true, true, true, true, true, true, true, true, true, true, true, true, false, false, false, false, false, false, false, false, false, false, false, false, false, false] rfl rfl (by kernel_rfl) (fun _ _ _ h => h) ⟨Or.inl ⟨by rfl, ?_⟩, fun _ => rfl⟩ ?_ ?_
                · intro w'; go_simp; first | done | with_reducible rfl
                rotate_left
                · simp only [Act.put, List.setIfInBounds_toArray, List.set_cons_zero, List.set_cons_succ, i64_w, i32_w]; rfl
                refine ipure_ (i := 24) (N := (some 59)) (v := ?_) (a' := ?_) #[true, true, true, true, true, true, true, true, true, true, true, true, true, true, true, true, true, true, true, true, true, true, true, true, true, false, false, false, false, false, false, false, false, false, false, false, false, false] rfl rfl (by kernel_rfl) (fun _ _ _ h => h) ⟨Or.inl ⟨by rfl, ?_⟩, fun _ => rfl⟩ ?_ ?_
                rotate_left
                · intro w'; go_simp; first | done | with_reducible rfl
                rotate_left
                · simp only [Act.put, List.setIfInBounds_toArray, List.set_cons_zero, List.set_cons_succ, i64_w, i32_w]; rfl
                refine ipure_ (i := 25) (N := (some 60)) (v := undef) (a' := ?_) #[true, true, true, true, true, true, true, true, true, true, true, true, true, true, true, true, true, true, true, true, true, true, true, true, true, true, false, false, false, false, false, false, false, false, false, false, false, false] rfl rfl (by kernel_rfl) (fun _ _ _ h => h) ⟨Or.inr ⟨by rfl, rfl⟩, fun _ => rfl⟩ ?_ ?_
                rotate_left
                · simp only [Act.put, List.setIfInBounds_toArray, List.set_cons_zero, List.set_cons_succ, i64_w, i32_w]; rfl
                refine ipure_ (i := 26) (N := (some 61)) (v := undef) (a' := ?_) #[true, true, true, true, true, true, true, true, true, true, true, true, true, true, true, true, true, true, true, true, true, true, true, true, true, true, true, false, false, false, false, false, false, false, false, false, false, false] rfl rfl (by kernel_rfl) (fun _ _ _ h => h) ⟨Or.inr ⟨by rfl, rfl⟩, fun _ => rfl⟩ ?_ ?_
                rotate_left
                · simp only [Act.put, List.setIfInBounds_toArray, List.set_cons_zero, List.set_cons_succ, i64_w, i32_w]; rfl
                refine ipure_ (i := 27) (N := (some 62)) (v := undef) (a' := ?_) #[true, true, true, true, true, true, true, true, true, true, true, true, true, true, true, true, true, true, true, true, true, true, true, true, true, true, true, true, false, false, false, false, false, false, false, false, false, false] rfl rfl (by kernel_rfl) (fun _ _ _ h => h) ⟨Or.inr ⟨by rfl, rfl⟩, fun _ => rfl⟩ ?_ ?_
                rotate_left
                · simp only [Act.put, List.setIfInBounds_toArray, List.set_cons_zero, List.set_cons_succ, i64_w, i32_w]; rfl
                refine ipure_ (i := 28) (N := (some 63)) (v := undef) (a' := ?_) #[true, true, true, true, true, true, true, true, true, true, true, true, true, true, true, true, true, true, true, true, true, true, true, true, true, true, true, true, true, false, false, false, false, false, false, false, false, false] rfl rfl (by kernel_rfl) (fun _ _ _ h => h) ⟨Or.inr ⟨by rfl, rfl⟩, fun _ => rfl⟩ ?_ ?_
                rotate_left
                · simp only [Act.put, List.setIfInBounds_toArray, List.set_cons_zero, List.set_cons_succ, i64_w, i32_w]; rfl
                refine ipure_ (i := 29) (N := (some 64)) (v := undef) (a' := ?_) #[true, true, true, true, true, true, true, true, true, true, true, true, true, true, true, true, true, true, true, true, true, true, true, true, true, true, true, true, true, true, false, false, false, false, false, false, false, false] rfl rfl (by kernel_rfl) (fun _ _ _ h => h) ⟨Or.inr ⟨by rfl, rfl⟩, fun _ => rfl⟩ ?_ ?_
                rotate_left
                · simp only [Act.put, List.setIfInBounds_toArray, List.set_cons_zero, List.set_cons_succ, i64_w, i32_w]; rfl
                refine ipure_ (i := 30) (N := (some 65)) (v := undef) (a' := ?_) #[true, true, true, true, true, true, true, true, true, true, true, true, true, true, true, true, true, true, true, true, true, true, true, true, true, true, true, true, true, true, true, false, false, false, false, false, false, false] rfl rfl (by kernel_rfl) (fun _ _ _ h => h) ⟨Or.inr ⟨by rfl, rfl⟩, fun _ => rfl⟩ ?_ ?_
                rotate_left
                · simp only [Act.put, List.setIfInBounds_toArray, List.set_cons_zero, List.set_cons_succ, i64_w, i32_w]; rfl
                refine ipure_ (i := 31) (N := (some 66)) (v := undef) (a' := ?_) #[true, true, true, true, true, true, true, true, true, true, true, true, true, true, true, true, true, true, true, true, true, true, true, true, true, true, true, true, true, true, true, true, false, false, false, false, false, false] rfl rfl (by kernel_rfl) (fun _ _ _ h => h) ⟨Or.inr ⟨by rfl, rfl⟩, fun _ => rfl⟩ ?_ ?_
                rotate_left
                · simp only [Act.put, List.setIfInBounds_toArray, List.set_cons_zero, List.set_cons_succ, i64_w, i32_w]; rfl
                refine ipure_ (i := 32) (N := (some 67)) (v := undef) (a' := ?_) #[true, true, true, true, true, true, true, true, true, true, true, true, true, true, true, true, true, true, true, true, true, true, true, true, true, true, true, true, true, true, true, true, true, false, false, false, false, false] rfl rfl (by kernel_rfl) (fun _ _ _ h => h) ⟨Or.inr ⟨by rfl, rfl⟩, fun _ => rfl⟩ ?_ ?_
                rotate_left
                · simp only [Act.put, List.setIfInBounds_toArray, List.set_cons_zero, List.set_cons_succ, i64_w, i32_w]; rfl
                refine ipure_ (i := 33) (N := (some 68)) (v := undef) (a' := ?_) #[true, true, true, true, true, true, true, true, true, true, true, true, true, true, true, true, true, true, true, true, true, true, true, true, true, true, true, true, true, true, true, true, true, true, false, false, false, false] rfl rfl (by kernel_rfl) (fun _ _ _ h => h) ⟨Or.inr ⟨by rfl, rfl⟩, fun _ => rfl⟩ ?_ ?_
                rotate_left
                · simp only [Act.put, List.setIfInBounds_toArray, List.set_cons_zero, List.set_cons_succ, i64_w, i32_w]; rfl
                refine ipure_ (i := 34) (N := (some 69)) (v := undef) (a' := ?_) #[true, true, true, true, true, true, true, true, true, true, true, true, true, true, true, true, true, true, true, true, true, true, true, true, true, true, true, true, true, true, true, true, true, true, true, false, false, false] rfl rfl (by kernel_rfl) (fun _ _ _ h => h) ⟨Or.inr ⟨by rfl, rfl⟩, fun _ => rfl⟩ ?_ ?_
                rotate_left
                · simp only [Act.put, List.setIfInBounds_toArray, List.set_cons_zero, List.set_cons_succ, i64_w, i32_w]; rfl
                refine ipure_ (i := 35) (N := (some 70)) (v := undef) (a' := ?_) #[true, true, true, true, true, true, true, true, true, true, true, true, true, true, true, true, true, true, true, true, true, true, true, true, true, true, true, true, true, true, true, true, true, true, true, true, false, false] rfl rfl (by kernel_rfl) (fun _ _ _ h => h) ⟨Or.inr ⟨by rfl, rfl⟩, fun _ => rfl⟩ ?_ ?_
                rotate_left
                · simp only [Act.put, List.setIfInBounds_toArray, List.set_cons_zero, List.set_cons_succ, i64_w, i32_w]; rfl
                refine ipure_ (i := 36) (N := (some 71)) (v := undef) (a' := ?_) #[true, true, true, true, true, true, true, true, true, true, true, true, true, true, true, true, true, true, true, true, true, true, true, true, true, true, true, true, true, true, true, true, true, true, true, true, true, false] rfl rfl (by kernel_rfl) (fun _ _ _ h => h) ⟨Or.inr ⟨by rfl, rfl⟩, fun _ => rfl⟩ ?_ ?_
                rotate_left
                · simp only [Act.put, List.setIfInBounds_toArray, List.set_cons_zero, List.set_cons_succ, i64_w, i32_w]; rfl
                refine ipure_ (i := 37) (N := (some 72)) (v := ?_) (a' := ?_) #[true, true, true, true, true, true, true, true, true, true, true, true, true, true, true, true, true, true, true, true, true, true, true, true, true, true, true, true, true, true, true, true, true, true, true, true, true, true] rfl rfl (by kernel_rfl) (fun _ _ _ h => h) ⟨Or.inl ⟨by rfl, ?_⟩, fun _ => rfl⟩ ?_ ?_
                rotate_left
                · intro w'; go_simp; first | done | with_reducible rfl
                rotate_left
                · simp only [Act.put, List.setIfInBounds_toArray, List.set_cons_zero, List.set_cons_succ, i64_w, i32_w]; rfl
                refine idone_ (by kernel_rfl) ?_
                go_wp2_with fail
                rw [hwb]
                refine ⟨⟨b + 1, by omega, by have := HQ.out; have := HCC.out; omega, rfl, HI5, HC5, ?_, HZ5⟩, by simp [intOf]; have := HQ.out; have := HCC.out; omega⟩
                rw [← no_step HFT.out HRT.out HH.out HQ.out.1]
                exact HJ5
            · skip
              go_wp2_with fail
              refine ⟨⟨a + 1, Nat.le_add_left _ _, .inl hah, by go_num, HI2, HC2, ?_, HSZ⟩, by simp [intOf]; omega⟩
              rw [← row_step HH.out ha1 HQ.out.1 HQ.out.2 HCC.out hbh hah]
              exact HJ2
        · go_wp2_with fail
          refine ⟨⟨k + 1, by omega, HI2, HC2, ?_, HSZ⟩, ?_⟩
          · rw [fK, HH.out, show h - 1 = a - 1 by omega]
            exact HJ2
          · show (match _ with | some (Obj.stringIter _ p) => s.size - p | _ => 0) < (match _ with | some (Obj.stringIter _ p) => s.size - p | _ => 0)
            rw [HI2.out, HI0.out]
            show s.size - (k + 1) < s.size - k
            omega
    · obtain rfl : k = s.size := by omega
      have hnx := fun ty => run_next_over (P := Tryd.prog) HI.out hlt ty
      go_wp2
      go_end0
      exact ⟨⟨_, rfl⟩, .inl ⟨_, rfl, HJ0.out⟩⟩
end Go.Proofs.YtpfenoioeajkmaaDoor.X
end

section
set_option linter.unusedVariables false
set_option linter.unusedSimpArgs false
namespace Go.Proofs.YtpfenoioeajkmaaDoor.X
open Go.RowKit Go.Proofs.YtpfenoioeajkmaaDoorW.PrintWords Go.Proofs.YtpfenoioeajkmaaDoorW.PrintLast Go.Proofs.YtpfenoioeajkmaaDoorW.PrintMore Go.Proofs.YtpfenoioeajkmaaDoor.L
theorem calls_marks {P : Program} {f : FuncId} {fn : Func} {c : Code} {args : Array Value} {w : World} {R : Ending → World → Prop} (n : Nat) (hf : P.funcs[f]? = some fn) (hb : fn.body = some c)
    (h : c.wp P (bodyPostM Fence.wide n P fn R) { tmps := args ++ Array.replicate (fn.ntmps - args.size) undef, defers := [] } w) : Calls P f args w R :=
  (callsIn_wide (n := n)).1 (callsIn_of_wp_marks hf hb trivial ((wpIn_wide (n := n)).2 h))
attribute [local go_sem] Oper.semAt_some
theorem cell_new_l (W : World) (v : Value) (t : TypeId) : (W.alloc (.cells #[v] t)).cell? ⟨W.heap.size, 0, none⟩ = some v ∧ (W.alloc (.cells #[v] t)).frozen? ⟨W.heap.size, 0, none⟩ = false := ⟨by simp, by simp⟩
theorem cell_alloc_l {W : World} {a : Addr} {v : Value} (o : Obj) (h : W.cell? a = some v) : (W.alloc o).cell? a = some v := cell_kept h (World.grownBy_alloc W o none) (fun r e => by cases e)
theorem frozen_alloc_l {W : World} {a : Addr} {v : Value} (o : Obj) (h : W.cell? a = some v) (hf : W.frozen? a = false) : (W.alloc o).frozen? a = false := (frozen_kept h (World.grownBy_alloc W o none) (fun r e => by cases e)).trans hf
theorem fB_len (s : ByteArray) (k a : Nat) : ∀ m, (fB s k a m).length ≤ m
  | 0 => by simp [fB]
  | m + 1 => by
    have := fB_len s k a m
    rw [fB, List.length_append]
    split <;> simp <;> omega
theorem fA_len (s : ByteArray) (k : Nat) : ∀ m, (fA s k m).length ≤ m * (s.size / 2)
  | 0 => by simp [fA]
  | m + 1 => by
    have := fA_len s k m
    have h2 := fB_len s k (m + 1) (s.size / 2 - (m + 1))
    rw [fA, List.length_append, Nat.succ_mul]
    omega
theorem fK_len (s : ByteArray) : ∀ k, (fK s k).length ≤ k * ((s.size / 2 - 1) * (s.size / 2))
  | 0 => by simp [fK]
  | k + 1 => by
    have := fK_len s k
    have h2 := fA_len s k (s.size / 2 - 1)
    rw [fK, List.length_append, Nat.succ_mul]
    omega
theorem facs_len {s : ByteArray} (h : s.size ≤ 24) : (facs s).length ≤ 24 * (12 * 12) :=
  Nat.le_trans (fK_len s s.size) (Nat.mul_le_mul h (Nat.mul_le_mul (by omega) (by omega)))
theorem kpF_t {Bn : Nat} {s : ByteArray} {A B C : World} (h : KpF Bn s A B) (k : KpF Bn s B C) : KpF Bn s A C := ⟨fun q => k.1 (h.1 q), h.2.trans k.2⟩
theorem kpF_b {Bn : Nat} {s : ByteArray} {w : World} (W : World) (l : Nat) (o o' : Obj) (hl : w.heap.size ≤ l) (h : W.heap[l]? = some o) (hc : o.isCells = false) (hw : o.isWalk = false) : KpF Bn s W (W.putObj l o') :=
  ⟨fun q => cell_kept q (Go.grownBy_putObj' W l o') (fun r e => by cases e; exact ⟨_, h, hc⟩), walksK_b (w := w) W l o o' hl h hc hw⟩
theorem facs_stops (n Bn : Nat) (s : ByteArray) (hw : isW s = true) (w : World) (hc : w.cell? ⟨Bn, 0, none⟩ = some (.string s)) :
    SeqStopsK Fence.wide n Tryd.prog 77 #[.pointer (some ⟨Bn, 0, none⟩)] (fun x => #[encF x]) (KpF Bn s) (fun xs => xs = facs s) (fun pre => pre <+: facs s) (facs s).length w :=
  fun l J Jx W hW hJ hJx hY h0 => callsIn_wide.2 (factors1_in n l Bn s hw J Jx W hJ hY ((hW.cell (p := ⟨Bn, 0, none⟩) (World.block_lt_of_cell? _ _ hc)).trans hc) h0)
set_option maxHeartbeats 2000000 in
set_option maxRecDepth 100000 in
theorem factors_calls (s : ByteArray) (w : World) : Calls Tryd.prog 58 #[.string s] w fun e w' => e = .returned (.func (.func 77) #[] #[.pointer (some ⟨w.heap.size, 0, none⟩)]) ∧ w' = w.alloc (.cells #[.string s] 9) := by
  go_enter Tryd.func58, Tryd.ntmps58
  go_wp2
  go_ret
  exact ⟨rfl, rfl⟩
theorem Is_any {s : ByteArray} (hs : s.size ≤ 1000) (w : World) : Calls Tryd.prog 49 #[.string s] w fun e w' => e = .returned (.bool (isO s)) ∧ Below w.heap.size w w' := moulds_Is.calls s _ w (Is_f hs)
set_option maxHeartbeats 4000000 in
set_option maxRecDepth 100000 in
theorem Factors_yes (s : ByteArray) (h : isO s = true) (w : World) :
    Calls Tryd.prog 33 #[.string s] w fun e w' => e = .returned (.tuple #[.int .i64 (facs s).length, .int .i64 0]) ∧ Below w.heap.size w w' := by
  have hw := isO_W h
  have hs24 := isW_le hw
  have HO := Lib.hid (fun w => Is_any (s := s) (by omega) w)
  have HH := Lib.hid h
  have HWD := Lib.hid hw
  clear h hw
  refine calls_marks 3 Tryd.func33 rfl ?_
  simp only [Tryd.ntmps33, List.size_toArray, List.length_cons, List.length_nil, Nat.reduceAdd, Nat.reduceSub, Array.replicate_succ, Array.replicate_zero, List.push_toArray, List.append_toArray, List.nil_append, List.cons_append]
  go_wp2_with fail
  refine (HO.out _).mono ?_
  rintro e w1 ⟨rfl, hb1⟩
  rw [HH.out]
  have HB := Lib.hid hb1
  clear hb1
  go_wp2_with fail
  refine (factors_calls s _).mono ?_
  rintro e w2 ⟨rfl, rfl⟩
  go_wp2_with fail
  have c0 := cell_new_l w1 (.int .i64 0) 3
  have c1 := cell_new_l (w1.alloc (.cells #[.int .i64 0] 3)) (.string s) 9
  have c2 := cell_alloc_l (.cells #[.string s] 9) c0.1
  have c3 := frozen_alloc_l (.cells #[.string s] 9) c0.1 c0.2
  rw [World.size_alloc] at c1
  have hb3 : Below w1.heap.size w1 ((w1.alloc (.cells #[.int .i64 0] 3)).alloc (.cells #[.string s] 9)) := ((Below.refl _ w1).alloc (Nat.le_refl _) _).alloc (by simp) _
  have hsz : ((w1.alloc (.cells #[.int .i64 0] 3)).alloc (.cells #[.string s] 9)).heap.size = w1.heap.size + 2 := by simp
  generalize (w1.alloc (.cells #[.int .i64 0] 3)).alloc (.cells #[.string s] 9) = w3 at c1 c2 c3 hb3 hsz ⊢
  refine (wpIn_wide (n := 3)).1 ?_
  refine wpIn_rangeFunc_ownF rfl (by omega) (gf := 77) (lb := #[.pointer (some ⟨w1.heap.size + 1, 0, none⟩)]) rfl trivial (enters_of Tryd.func77 (by kernel_rfl) rfl)
    (facs_stops 2 (w1.heap.size + 1) s HWD.out w3 c1.1) kpF_t kpF_b (Below.refl _ _) (fun _ => rfl)
    (fun pre W => (W.cell? ⟨w1.heap.size, 0, none⟩ = some (.int .i64 pre.length) ∧ W.frozen? ⟨w1.heap.size, 0, none⟩ = false) ∧ Below w1.heap.size w1 W)
    (fun _ _ _ => False)
    (OwnFrom.and (Own.from (fun s A B row hs hg hr => ⟨cell_kept hs.1 hg hr, (frozen_kept hs.1 hg hr).trans hs.2⟩) _) (ownFrom_below (Nat.le_refl _) (by omega)))
    (fun _ _ _ _ _ hs _ _ => hs)
    ⟨⟨c2, c3⟩, hb3⟩
    (fun x => { tmps := #[Value.string s, undef, Value.int IntKind.i64 0, Value.int IntKind.i64 0, Value.pointer (some { block := w1.heap.size, off := 0 }), Value.string s, Value.bool true, Value.bool false, Value.string s, Value.func (Fn.func 77) #[] #[Value.pointer (some { block := w1.heap.size + 1, off := 0 })], encF x, undef, undef, undef], defers := [] }) ?assign ?body ?done ?stop
  case assign =>
    intro l x W K hK
    gi_wp2
    simpa using hK
  case body =>
    rintro l pre x W ⟨⟨hc, hf⟩, hB⟩ hlen
    have hfl := facs_len hs24
    have hwl : wrap64 ((pre.length : Int) + 1) = ((pre.length + 1 : Nat) : Int) := by unfold wrap64; omega
    gi_wp2
    refine ⟨KeepsOthers.setCell _ _ _, ⟨fun q => (World.cell?_setCell_other W _ _ _ (by simp)).trans q, KeepsWalks.setCell _ _ _⟩, ⟨?_, by rw [World.frozen?_setCell]; exact hf⟩, hB.setCell (p := ⟨w1.heap.size, 0, none⟩) (Nat.le_refl _) _⟩
    rw [List.length_append, List.length_singleton]
    exact World.cell?_setCell_same' _ _ _ (by rw [hc]; rfl)
  case done =>
    rintro D ys W hD rfl ⟨⟨hc, hf⟩, hB⟩ hK
    go_wp2
    refine ⟨by simp, .inl ⟨_, _, rfl, run_takeDeferred hK, ?_⟩⟩
    refine ⟨_, results_tmp2 rfl _ _ _, rfl, HB.out.trans ((hB.trans ?_).mono HB.out.size)⟩
    exact belowK_b (w := w3) (by omega) W D _ _ hD hK rfl rfl
  case stop =>
    rintro D c pre W hD _ h _
    exact h.elim
end Go.Proofs.YtpfenoioeajkmaaDoor.X
end

section
set_option linter.unusedVariables false
set_option linter.unusedSimpArgs false
namespace Go.Proofs.YtpfenoioeajkmaaDoor.X
open Go.RowKit Go.Proofs.YtpfenoioeajkmaaDoorW.PrintWords Go.Proofs.YtpfenoioeajkmaaDoorW.PrintLast Go.Proofs.YtpfenoioeajkmaaDoorW.PrintMore Go.Proofs.YtpfenoioeajkmaaDoor.L
attribute [local go_sem] Oper.semAt_some
theorem blk_at {W : World} {b : Nat} {cs : Array Value} {t : TypeId} (h : W.heap[b]? = some (.cells cs t)) (i : Nat) {v : Value} (hv : cs[i]? = some v) : W.cell? ⟨b, i, none⟩ = some v := by
  simp [World.cell?, h, hv]
end Go.Proofs.YtpfenoioeajkmaaDoor.X
end

section
set_option linter.unusedVariables false
set_option linter.unusedSimpArgs false
namespace Go.Proofs.YtpfenoioeajkmaaDoor.X
open Go.RowKit Go.Proofs.YtpfenoioeajkmaaDoorW.PrintWords Go.Proofs.YtpfenoioeajkmaaDoorW.PrintLast Go.Proofs.YtpfenoioeajkmaaDoorW.PrintMore Go.Proofs.YtpfenoioeajkmaaDoor.L
set_option maxHeartbeats 2000000 in
set_option maxRecDepth 100000 in
theorem Tile_of (s : ByteArray) (n c : Int) (b : Bool) (hb : decide (0 < n) = b) (hF : ∀ w, Calls Tryd.prog 33 #[.string s] w fun e w' => e = .returned (.tuple #[.int .i64 n, .int .i64 c]) ∧ Below w.heap.size w w') (w : World) :
    Calls Tryd.prog 30 #[.string s] w fun e w' => e = .returned (.tuple #[.bool b, .int .i64 c]) ∧ Below w.heap.size w w' := by
  have HF := Lib.hid hF
  clear hF
  go_enter Tryd.func30, Tryd.ntmps30
  go_wp2_with fail
  refine (HF.out _).mono ?_
  rintro e w1 ⟨rfl, hb1⟩
  have H1 := Lib.hid ((Below.refl w.heap.size w).trans (hb1.mono (Below.refl w.heap.size w).size))
  clear hb1
  go_wp2
  go_ret2
  exact ⟨rfl, H1.out⟩
theorem Tile_yes (s : ByteArray) (h : isO s = true) (w : World) : Calls Tryd.prog 30 #[.string s] w fun e w' => e = .returned (.tuple #[.bool (decide (0 < ((facs s).length : Int))), .int .i64 0]) ∧ Below w.heap.size w w' :=
  Tile_of s _ 0 _ rfl (Factors_yes s h) w
theorem ris_calls (s : ByteArray) (hs : s.size ≤ 140737488351232) (w : World) : Calls Tryd.prog 24 #[.string s] w fun e w' => e = .returned (.bool (isO s)) ∧ Below w.heap.size w w' := ref_Is.calls s _ w (RIs_f hs)
theorem blk_name {w : World} (o : Obj) : ∃ w' B, w' = w.alloc o ∧ w.heap.size = B ∧ w'.heap[B]? = some o ∧ Below w.heap.size w w' ∧ B < w'.heap.size :=
  ⟨_, _, rfl, rfl, World.alloc_heap_new w o, below_one o, by simp⟩
end Go.Proofs.YtpfenoioeajkmaaDoor.X
end

section
set_option linter.unusedVariables false
set_option linter.unusedSimpArgs false
namespace Go.Proofs.YtpfenoioeajkmaaDoor.X
open Go.RowKit Go.Proofs.YtpfenoioeajkmaaDoorW.PrintWords Go.Proofs.YtpfenoioeajkmaaDoorW.PrintLast Go.Proofs.YtpfenoioeajkmaaDoorW.PrintMore Go.Proofs.YtpfenoioeajkmaaDoor.L
structure Kept (B : Nat) (o : Obj) (w : World) : Prop where
  h : w.heap[B]? = some o
theorem Kept.lt {B : Nat} {o : Obj} {w : World} (h : Kept B o w) : B < w.heap.size := (Array.getElem?_eq_some_iff.1 h.h).1
theorem Kept.later {B : Nat} {o : Obj} {w w' : World} (h : Kept B o w) (hb : Below w.heap.size w w') : Kept B o w' := ⟨(hb.block B h.lt).trans h.h⟩
theorem isO_4 {s : ByteArray} (h : isO s = true) : 4 ≤ s.size := by
  unfold isO at h
  simp only [Bool.and_eq_true, decide_eq_true_eq] at h
  omega
end Go.Proofs.YtpfenoioeajkmaaDoor.X
end

section
set_option linter.unusedVariables false
set_option linter.unusedSimpArgs false
namespace Go.Proofs.YtpfenoioeajkmaaDoor.X
open Go.RowKit Go.Proofs.YtpfenoioeajkmaaDoorW.PrintWords Go.Proofs.YtpfenoioeajkmaaDoorW.PrintLast Go.Proofs.YtpfenoioeajkmaaDoorW.PrintMore
structure Pts (w : World) (b off n : Nat) (x y : Nat → Int) : Prop where
  c0 : ∀ i : Nat, i < n → w.cell? ⟨b, off + i * 2, none⟩ = some (.int .i64 (x i))
  c1 : ∀ i : Nat, i < n → w.cell? ⟨b, off + i * 2 + 1, none⟩ = some (.int .i64 (y i))
theorem Pts.later {w w' : World} {b off n : Nat} {x y : Nat → Int} (h : Pts w b off n x y) (hb : Below w.heap.size w w') : Pts w' b off n x y :=
  ⟨fun i hi => (hb.cell (p := ⟨b, off + i * 2, none⟩) (World.block_lt_of_cell? w _ (h.c0 i hi))).trans (h.c0 i hi), fun i hi => (hb.cell (p := ⟨b, off + i * 2 + 1, none⟩) (World.block_lt_of_cell? w _ (h.c1 i hi))).trans (h.c1 i hi)⟩
end Go.Proofs.YtpfenoioeajkmaaDoor.X
end

section
set_option linter.unusedVariables false
set_option linter.unusedSimpArgs false
namespace Go.Proofs.YtpfenoioeajkmaaDoor.X
open Go.RowKit Go.Proofs.YtpfenoioeajkmaaDoorW.PrintWords Go.Proofs.YtpfenoioeajkmaaDoorW.PrintLast Go.Proofs.YtpfenoioeajkmaaDoorW.PrintMore
def Sl (w : World) (A : Option Addr) (n c : Nat) (x y : Nat → Int) : Prop := (A = none ∧ n = 0 ∧ c = 0) ∨ (∃ b off, A = some ⟨b, off, none⟩ ∧ n ≤ c ∧ Pts w b off n x y) ∨ ∃ ad, A = some ad ∧ n = 0
theorem Sl.later {w w' : World} {A : Option Addr} {n c : Nat} {x y : Nat → Int} (h : Sl w A n c x y) (hb : Below w.heap.size w w') : Sl w' A n c x y := by
  rcases h with h | ⟨b, off, h1, h2, h3⟩ | h
  · exact .inl h
  · exact .inr (.inl ⟨b, off, h1, h2, h3.later hb⟩)
  · exact .inr (.inr h)
end Go.Proofs.YtpfenoioeajkmaaDoor.X
end

section
set_option linter.unusedVariables false
set_option linter.unusedSimpArgs false
namespace Go.Proofs.YtpfenoioeajkmaaDoor.X
open Go.RowKit Go.Proofs.YtpfenoioeajkmaaDoorW.PrintWords Go.Proofs.YtpfenoioeajkmaaDoorW.PrintLast Go.Proofs.YtpfenoioeajkmaaDoorW.PrintMore Go.Proofs.YtpfenoioeajkmaaDoor.L
def rcb (X Y x y c : Int) : Int := if x < X ∧ c = 117 ∧ Y = y then 1 else if x < X ∧ c = 100 ∧ Y = y + 1 then -1 else 0
def cntTo (s : ByteArray) (x y : Int) : Nat → Int
  | 0 => 0
  | k + 1 => cntTo s x y k + rcb (sumx s k) (rsumy s k) x y (bt s k)
def colTo (s : ByteArray) (x : Int) : Nat → List (Int × Int)
  | 0 => []
  | m + 1 => colTo s x m ++ if cntTo s x ((m : Int) - 24) s.size = 1 then [(x, (m : Int) - 24)] else []
def cellsTo (s : ByteArray) : Nat → List (Int × Int)
  | 0 => []
  | m + 1 => cellsTo s m ++ colTo s ((m : Int) - 24) 49
end Go.Proofs.YtpfenoioeajkmaaDoor.X
end

section
set_option linter.unusedVariables false
set_option linter.unusedSimpArgs false
namespace Go.Proofs.YtpfenoioeajkmaaDoor.G
def S (n : Nat) (f : Nat → Int) : Int := match n with
  | 0 => 0
  | n + 1 => S n f + f n
theorem S_succ (n : Nat) (f : Nat → Int) : S (n + 1) f = S n f + f n := rfl
theorem S_congr {n : Nat} {f g : Nat → Int} (h : ∀ i, i < n → f i = g i) : S n f = S n g := by
  induction n with
  | zero => rfl
  | succ n ih => rw [S_succ, S_succ, ih fun i hi => h i (by omega), h n (by omega)]
theorem S_add (n : Nat) (f g : Nat → Int) : S n (fun i => f i + g i) = S n f + S n g := by
  induction n with
  | zero => rfl
  | succ n ih => rw [S_succ, S_succ, S_succ, ih]; omega
theorem S_sub (n : Nat) (f g : Nat → Int) : S n (fun i => f i - g i) = S n f - S n g := by
  induction n with
  | zero => rfl
  | succ n ih => rw [S_succ, S_succ, S_succ, ih]; omega
theorem S_neg (n : Nat) (f : Nat → Int) : S n (fun i => -f i) = -S n f := by
  induction n with
  | zero => rfl
  | succ n ih => rw [S_succ, S_succ, ih]; omega
theorem S_mul (n : Nat) (c : Int) (f : Nat → Int) : S n (fun i => c * f i) = c * S n f := by
  induction n with
  | zero => exact (Int.mul_zero c).symm
  | succ n ih => rw [S_succ, S_succ, ih, Int.mul_add]
theorem S_zero {n : Nat} {f : Nat → Int} (h : ∀ i, i < n → f i = 0) : S n f = 0 := by
  induction n with
  | zero => rfl
  | succ n ih => rw [S_succ, ih fun i hi => h i (by omega), h n (by omega)]; rfl
theorem S_swap (n m : Nat) (f : Nat → Nat → Int) : S n (fun i => S m (fun j => f i j)) = S m (fun j => S n (fun i => f i j)) := by
  induction n with
  | zero => exact (S_zero fun _ _ => rfl).symm
  | succ n ih => rw [S_succ, ih, ← S_add]; rfl
theorem S_tel (n : Nat) (f : Nat → Int) : S n (fun i => f (i + 1) - f i) = f n - f 0 := by
  induction n with
  | zero => exact (Int.sub_self _).symm
  | succ n ih => rw [S_succ, ih]; omega
theorem S_one {n k : Nat} {f : Nat → Int} (hk : k < n) (h : ∀ i, i < n → i ≠ k → f i = 0) : S n f = f k := by
  induction n with
  | zero => omega
  | succ n ih =>
    rw [S_succ]
    by_cases e : k = n
    · subst e
      rw [S_zero fun i hi => h i (by omega) (by omega)]
      omega
    · rw [ih (by omega) fun i hi hne => h i (by omega) hne, h n (by omega) (by omega)]
      omega
theorem S_head (n : Nat) (f : Nat → Int) : S (n + 1) f = f 0 + S n (fun i => f (i + 1)) := by
  induction n with
  | zero => rw [S_succ]; show 0 + f 0 = f 0 + 0; omega
  | succ n ih => rw [S_succ, ih, S_succ]; omega
theorem S_split (n m : Nat) (f : Nat → Int) : S (n + m) f = S n f + S m (fun i => f (n + i)) := by
  induction m with
  | zero => show S n f = S n f + 0; omega
  | succ m ih => rw [← Nat.add_assoc, S_succ, S_succ, ih]; omega
def Z (K : Nat) (f : Int → Int) : Int := S (2 * K) fun i => f ((i : Int) - K)
theorem Z_congr {K : Nat} {f g : Int → Int} (h : ∀ x, -(K : Int) ≤ x → x < K → f x = g x) : Z K f = Z K g := S_congr fun i hi => h _ (by omega) (by omega)
theorem Z_mul (K : Nat) (c : Int) (f : Int → Int) : Z K (fun x => c * f x) = c * Z K f := S_mul _ _ _
theorem Z_zero {K : Nat} {f : Int → Int} (h : ∀ x, -(K : Int) ≤ x → x < K → f x = 0) : Z K f = 0 := S_zero fun i hi => h _ (by omega) (by omega)
theorem Z_S (K n : Nat) (f : Int → Nat → Int) : Z K (fun x => S n (fun i => f x i)) = S n (fun i => Z K (fun x => f x i)) := S_swap _ _ _
theorem Z_one {K : Nat} {a : Int} {f : Int → Int} (h1 : -(K : Int) ≤ a) (h2 : a < K) (h : ∀ x, x ≠ a → f x = 0) : Z K f = f a := by
  unfold Z
  rw [S_one (k := (a + K).toNat) (by omega) fun i hi hne => h _ (by omega)]
  congr 1
  omega
theorem Z_count {K : Nat} {a : Int} (h1 : -(K : Int) ≤ a) (h2 : a ≤ K) : Z K (fun x => if x < a then 1 else 0) = a + K := by
  unfold Z
  have : ∀ m : Nat, S m (fun i => if (i : Int) - K < a then 1 else 0) = if (m : Int) ≤ a + K then (m : Int) else a + K := by
    intro m
    induction m with
    | zero => rw [if_pos (by omega)]; rfl
    | succ m ih =>
      rw [S_succ, ih]
      by_cases e : (m : Int) - K < a
      · rw [if_pos e, if_pos (by omega), if_pos (by omega)]; omega
      · rw [if_neg e]
        split <;> split <;> omega
  rw [this]
  split <;> omega
end Go.Proofs.YtpfenoioeajkmaaDoor.G
end

section
set_option linter.unusedVariables false
set_option linter.unusedSimpArgs false
namespace Go.Proofs.YtpfenoioeajkmaaDoor.G
def ux (d : Nat) : Int := if d = 0 then 1 else if d = 2 then -1 else 0
def uy (d : Nat) : Int := if d = 1 then 1 else if d = 3 then -1 else 0
structure Loop (n : Nat) (X Y : Nat → Int) (D : Nat → Nat) : Prop where
  n4 : 4 ≤ n
  d4 : ∀ i, D i < 4
  sx : ∀ i, X (i + 1) = X i + ux (D i)
  sy : ∀ i, Y (i + 1) = Y i + uy (D i)
  px : ∀ i, X (i + n) = X i
  py : ∀ i, Y (i + n) = Y i
  pd : ∀ i, D (i + n) = D i
  inj : ∀ i j, X i = X j → Y i = Y j → i % n = j % n
theorem d_cases {d : Nat} (h : d < 4) : d = 0 ∨ d = 1 ∨ d = 2 ∨ d = 3 := by omega
def wi (X Y : Nat → Int) (D : Nat → Nat) (x y : Int) (i : Nat) : Int := if D i = 1 ∧ x < X i ∧ Y i = y then 1 else if D i = 3 ∧ x < X i ∧ Y i = y + 1 then -1 else 0
def W (n : Nat) (X Y : Nat → Int) (D : Nat → Nat) (x y : Int) : Int := S n (wi X Y D x y)
def cx (a : Int) (k : Nat) : Int := if k = 0 then a else if k = 1 then a - 1 else if k = 2 then a - 1 else a
def cy (b : Int) (k : Nat) : Int := if k = 0 then b else if k = 1 then b else if k = 2 then b - 1 else b - 1
def ti (X Y : Nat → Int) (D : Nat → Nat) (a b : Int) (k i : Nat) : Int :=
  (if D i = k ∧ X i = a ∧ Y i = b then 1 else 0) - (if D i = (k + 2) % 4 ∧ X (i + 1) = a ∧ Y (i + 1) = b then 1 else 0)
section
variable {n : Nat} {X Y : Nat → Int} {D : Nat → Nat}
theorem Loop.mod_x (L : Loop n X Y D) (i : Nat) : X (i % n) = X i := by
  have : ∀ q r, X (r + q * n) = X r := fun q r => by
    induction q with
    | zero => rw [Nat.zero_mul, Nat.add_zero]
    | succ q ih => rw [Nat.succ_mul, ← Nat.add_assoc, L.px, ih]
  rw [← this (i / n) (i % n), Nat.mul_comm, Nat.mod_add_div]
theorem Loop.mod_y (L : Loop n X Y D) (i : Nat) : Y (i % n) = Y i := by
  have : ∀ q r, Y (r + q * n) = Y r := fun q r => by
    induction q with
    | zero => rw [Nat.zero_mul, Nat.add_zero]
    | succ q ih => rw [Nat.succ_mul, ← Nat.add_assoc, L.py, ih]
  rw [← this (i / n) (i % n), Nat.mul_comm, Nat.mod_add_div]
theorem Loop.mod_d (L : Loop n X Y D) (i : Nat) : D (i % n) = D i := by
  have : ∀ q r, D (r + q * n) = D r := fun q r => by
    induction q with
    | zero => rw [Nat.zero_mul, Nat.add_zero]
    | succ q ih => rw [Nat.succ_mul, ← Nat.add_assoc, L.pd, ih]
  rw [← this (i / n) (i % n), Nat.mul_comm, Nat.mod_add_div]
theorem mod_add_cancel {n b i j : Nat} (h : (b + i) % n = (b + j) % n) : i % n = j % n := by
  have e : ((i : Int) % n) = ((j : Int) % n) := by
    have h1 : (((b + i : Nat) : Int) % n) = (((b + j : Nat) : Int) % n) := by rw [← Int.natCast_emod, ← Int.natCast_emod, h]
    rw [Int.emod_eq_emod_iff_emod_sub_eq_zero] at h1 ⊢
    rw [← h1]
    congr 1
    omega
  rw [← Int.natCast_emod, ← Int.natCast_emod] at e
  exact Int.ofNat_inj.1 e
theorem mod_ne_add {n d i : Nat} (h0 : 0 < d) (h1 : d < n) : (i + d) % n ≠ i % n := by
  intro h
  have : d % n = 0 % n := mod_add_cancel (b := i) (by rw [Nat.add_zero]; exact h)
  rw [Nat.mod_eq_of_lt h1, Nat.zero_mod] at this
  omega
theorem Loop.no_u (L : Loop n X Y D) (i : Nat) : D (i + 1) ≠ (D i + 2) % 4 := by
  intro h
  have h4 := L.n4
  have h1 := L.d4 i
  refine mod_ne_add (n := n) (d := 2) (i := i) (by omega) (by omega) (L.inj _ _ ?_ ?_)
  · rw [L.sx (i + 1), L.sx i, h]
    rcases d_cases h1 with e | e | e | e <;> rw [e] <;> simp [ux] <;> omega
  · rw [L.sy (i + 1), L.sy i, h]
    rcases d_cases h1 with e | e | e | e <;> rw [e] <;> simp [uy] <;> omega
theorem cross_v (L : Loop n X Y D) (x y : Int) : W n X Y D (x - 1) y - W n X Y D x y = S n fun i => (if D i = 1 ∧ X i = x ∧ Y i = y then 1 else 0) - (if D i = 3 ∧ X i = x ∧ Y i = y + 1 then 1 else 0) := by
  unfold W
  rw [← S_sub]
  refine S_congr fun i _ => ?_
  unfold wi
  rcases d_cases (L.d4 i) with e | e | e | e <;> rw [e] <;> simp <;> (try split) <;> (try split) <;> (try split) <;> omega
theorem cross_h (L : Loop n X Y D) (x y : Int) : W n X Y D x y - W n X Y D x (y - 1) = S n fun i => (if D i = 0 ∧ X i = x ∧ Y i = y then 1 else 0) - (if D i = 2 ∧ X i = x + 1 ∧ Y i = y then 1 else 0) := by
  have ht := S_tel n fun i => if x < X i ∧ Y i = y then (1 : Int) else 0
  have hx := L.px 0
  have hy := L.py 0
  rw [Nat.zero_add] at hx hy
  rw [hx, hy, Int.sub_self] at ht
  have : W n X Y D x y - W n X Y D x (y - 1) = W n X Y D x y - W n X Y D x (y - 1) + 0 := by omega
  rw [this, ← ht]
  unfold W
  rw [← S_sub, ← S_add]
  refine S_congr fun i _ => ?_
  unfold wi
  rw [L.sx i, L.sy i]
  rcases d_cases (L.d4 i) with e | e | e | e <;> rw [e] <;> simp [ux, uy] <;> (repeat' split) <;> omega
theorem cross (L : Loop n X Y D) (a b : Int) {k : Nat} (hk : k < 4) : W n X Y D (cx a k) (cy b k) - W n X Y D (cx a ((k + 3) % 4)) (cy b ((k + 3) % 4)) = S n (ti X Y D a b k) := by
  rcases d_cases hk with e | e | e | e <;> subst e
  · show W n X Y D a b - W n X Y D a (b - 1) = _
    rw [cross_h L]
    refine S_congr fun i _ => ?_
    unfold ti
    rw [L.sx i, L.sy i]
    rcases d_cases (L.d4 i) with e | e | e | e <;> rw [e] <;> simp [ux, uy] <;> (repeat' split) <;> omega
  · show W n X Y D (a - 1) b - W n X Y D a b = _
    rw [cross_v L]
    refine S_congr fun i _ => ?_
    unfold ti
    rw [L.sx i, L.sy i]
    rcases d_cases (L.d4 i) with e | e | e | e <;> rw [e] <;> simp [ux, uy] <;> (repeat' split) <;> omega
  · show W n X Y D (a - 1) (b - 1) - W n X Y D (a - 1) b = _
    have h := cross_h L (a - 1) b
    have : W n X Y D (a - 1) (b - 1) - W n X Y D (a - 1) b = -(W n X Y D (a - 1) b - W n X Y D (a - 1) (b - 1)) := by omega
    rw [this, h, ← S_neg]
    refine S_congr fun i _ => ?_
    unfold ti
    rw [L.sx i, L.sy i]
    rcases d_cases (L.d4 i) with e | e | e | e <;> rw [e] <;> simp [ux, uy] <;> (repeat' split) <;> omega
  · show W n X Y D a (b - 1) - W n X Y D (a - 1) (b - 1) = _
    have h := cross_v L a (b - 1)
    have : W n X Y D a (b - 1) - W n X Y D (a - 1) (b - 1) = -(W n X Y D (a - 1) (b - 1) - W n X Y D a (b - 1)) := by omega
    rw [this, h, ← S_neg]
    refine S_congr fun i _ => ?_
    unfold ti
    rw [L.sx i, L.sy i]
    rcases d_cases (L.d4 i) with e | e | e | e <;> rw [e] <;> simp [ux, uy] <;> (repeat' split) <;> omega
theorem Loop.sum_from (L : Loop n X Y D) (m k : Nat) : S n (fun i => if D i = k ∧ X i = X m ∧ Y i = Y m then 1 else 0) = if D m = k then 1 else 0 := by
  have h4 := L.n4
  have hm : m % n < n := Nat.mod_lt _ (by omega)
  rw [S_one (k := m % n) hm, L.mod_d, L.mod_x, L.mod_y]
  · simp
  · intro i hi hne
    rw [if_neg]
    rintro ⟨-, h1, h2⟩
    have := L.inj _ _ h1 h2
    rw [Nat.mod_eq_of_lt hi] at this
    exact hne this
theorem Loop.sum_to (L : Loop n X Y D) (m k : Nat) : S n (fun i => if D i = k ∧ X (i + 1) = X (m + 1) ∧ Y (i + 1) = Y (m + 1) then 1 else 0) = if D m = k then 1 else 0 := by
  have h4 := L.n4
  have hm : m % n < n := Nat.mod_lt _ (by omega)
  have e1 : X (m % n + 1) = X (m + 1) := by rw [L.sx, L.sx, L.mod_x, L.mod_d]
  have e2 : Y (m % n + 1) = Y (m + 1) := by rw [L.sy, L.sy, L.mod_y, L.mod_d]
  rw [S_one (k := m % n) hm, L.mod_d, e1, e2]
  · simp
  · intro i hi hne
    rw [if_neg]
    rintro ⟨-, h1, h2⟩
    have := L.inj _ _ h1 h2
    have := mod_add_cancel (b := 1) (i := i) (j := m) (by rw [Nat.add_comm 1, Nat.add_comm 1]; exact this)
    rw [Nat.mod_eq_of_lt hi] at this
    exact hne this
theorem Loop.at_point (L : Loop n X Y D) (j : Nat) {k : Nat} (hk : k < 4) :
    W n X Y D (cx (X (j + 1)) k) (cy (Y (j + 1)) k) - W n X Y D (cx (X (j + 1)) ((k + 3) % 4)) (cy (Y (j + 1)) ((k + 3) % 4)) = (if D (j + 1) = k then 1 else 0) - (if D j = (k + 2) % 4 then 1 else 0) := by
  rw [cross L _ _ hk]
  unfold ti
  rw [S_sub, L.sum_from, L.sum_to]
def turn (e f : Nat) : Int := if f = e then 0 else if f = (e + 1) % 4 then 1 else -1
def LW (n : Nat) (X Y : Nat → Int) (D : Nat → Nat) (j : Nat) : Int := W n X Y D (cx (X j) (D j)) (cy (Y j) (D j))
theorem around_pure (G : Nat → Int) {e f : Nat} {l : Int} (he : e < 4) (hf : f < 4) (hu : f ≠ (e + 2) % 4) (h : ∀ k, k < 4 → G k - G ((k + 3) % 4) = (if f = k then 1 else 0) - (if e = (k + 2) % 4 then 1 else 0)) (hl : l = G ((e + 1) % 4)) :
    G f = l ∧ (∀ k, k < 4 → G k = l ∨ G k = l - 1) ∧ G 0 + G 1 + G 2 + G 3 = 4 * (l - 1) + (2 - turn e f) ∧ G ((f + 3) % 4) = l - 1 := by
  have h0 := h 0 (by omega)
  have h1 := h 1 (by omega)
  have h2 := h 2 (by omega)
  have h3 := h 3 (by omega)
  have hk : (∀ k, k < 4 → G k = l ∨ G k = l - 1) ↔ (G 0 = l ∨ G 0 = l - 1) ∧ (G 1 = l ∨ G 1 = l - 1) ∧ (G 2 = l ∨ G 2 = l - 1) ∧ (G 3 = l ∨ G 3 = l - 1) :=
    ⟨fun q => ⟨q 0 (by omega), q 1 (by omega), q 2 (by omega), q 3 (by omega)⟩, fun ⟨a, b, c, d⟩ k hk => by rcases d_cases hk with e | e | e | e <;> subst e <;> assumption⟩
  rw [hk]
  clear h hk
  rcases d_cases he with e | e | e | e <;> rcases d_cases hf with g | g | g | g <;> subst e <;> subst g <;> simp [turn] at h0 h1 h2 h3 hl hu ⊢ <;> omega
theorem Loop.around (L : Loop n X Y D) (j : Nat) : LW n X Y D (j + 1) = LW n X Y D j ∧
    (∀ k, k < 4 → W n X Y D (cx (X (j + 1)) k) (cy (Y (j + 1)) k) = LW n X Y D j ∨ W n X Y D (cx (X (j + 1)) k) (cy (Y (j + 1)) k) = LW n X Y D j - 1) ∧
    W n X Y D (cx (X (j + 1)) 0) (cy (Y (j + 1)) 0) + W n X Y D (cx (X (j + 1)) 1) (cy (Y (j + 1)) 1) + W n X Y D (cx (X (j + 1)) 2) (cy (Y (j + 1)) 2) + W n X Y D (cx (X (j + 1)) 3) (cy (Y (j + 1)) 3) = 4 * (LW n X Y D j - 1) + (2 - turn (D j) (D (j + 1))) ∧
    W n X Y D (cx (X (j + 1)) (D (j + 1))) (cy (Y (j + 1)) (D (j + 1))) = LW n X Y D j ∧ W n X Y D (cx (X (j + 1)) ((D (j + 1) + 3) % 4)) (cy (Y (j + 1)) ((D (j + 1) + 3) % 4)) = LW n X Y D j - 1 := by
  have hl : LW n X Y D j = W n X Y D (cx (X (j + 1)) ((D j + 1) % 4)) (cy (Y (j + 1)) ((D j + 1) % 4)) := by
    unfold LW
    rw [L.sx j, L.sy j]
    rcases d_cases (L.d4 j) with e | e | e | e <;> rw [e] <;> simp [cx, cy, ux, uy] <;> (try congr 1) <;> omega
  obtain ⟨q1, q2, q3, q4⟩ := around_pure (fun k => W n X Y D (cx (X (j + 1)) k) (cy (Y (j + 1)) k)) (L.d4 j) (L.d4 (j + 1)) (L.no_u j) (fun k hk => L.at_point j hk) hl
  exact ⟨q1, q2, q3, q1, q4⟩
end
end Go.Proofs.YtpfenoioeajkmaaDoor.G
end

section
set_option linter.unusedVariables false
set_option linter.unusedSimpArgs false
namespace Go.Proofs.YtpfenoioeajkmaaDoor.G
section
variable {n : Nat} {X Y : Nat → Int} {D : Nat → Nat}
theorem W_right {x : Int} (y : Int) (h : ∀ i, X i ≤ x) : W n X Y D x y = 0 := S_zero fun i _ => by
  have := h i
  unfold wi
  rw [if_neg (by omega), if_neg (by omega)]
theorem Loop.LW_eq (L : Loop n X Y D) (j : Nat) : LW n X Y D j = LW n X Y D 0 := by
  induction j with
  | zero => rfl
  | succ j ih => rw [(L.around j).1, ih]
theorem Loop.right (L : Loop n X Y D) (i : Nat) : W n X Y D (cx (X i) ((D i + 3) % 4)) (cy (Y i) ((D i + 3) % 4)) = LW n X Y D 0 - 1 := by
  have h4 := L.n4
  obtain ⟨j, hj⟩ : ∃ j, i + n = j + 1 := ⟨i + n - 1, by omega⟩
  have h := (L.around j).2.2.2.2
  rw [← hj, L.px, L.py, L.pd, L.LW_eq] at h
  exact h
theorem Loop.left (L : Loop n X Y D) (i : Nat) : W n X Y D (cx (X i) (D i)) (cy (Y i) (D i)) = LW n X Y D 0 := L.LW_eq i
theorem max_of (X : Nat → Int) : ∀ n, 0 < n → ∃ i, i < n ∧ ∀ j, j < n → X j ≤ X i
  | 1, _ => ⟨0, by omega, fun j hj => by obtain rfl : j = 0 := by omega
                                         exact Int.le_refl _⟩
  | n + 2, _ => by
    obtain ⟨i, hi, h⟩ := max_of X (n + 1) (by omega)
    by_cases e : X (n + 1) ≤ X i
    · exact ⟨i, by omega, fun j hj => by
        by_cases q : j = n + 1
        · rw [q]; exact e
        · exact h j (by omega)⟩
    · exact ⟨n + 1, by omega, fun j hj => by
        by_cases q : j = n + 1
        · rw [q]; exact Int.le_refl _
        · have := h j (by omega); omega⟩
theorem Loop.maxX (L : Loop n X Y D) : ∃ i, ∀ j, X j ≤ X i := by
  have h4 := L.n4
  obtain ⟨i, hi, h⟩ := max_of X n (by omega)
  exact ⟨i, fun j => by rw [← L.mod_x j]; exact h _ (Nat.mod_lt _ (by omega))⟩
theorem sum_ne {n : Nat} {f : Nat → Int} (h : S n f ≠ 0) : ∃ i, i < n ∧ f i ≠ 0 := by
  refine Classical.byContradiction fun q => h (S_zero fun i hi => ?_)
  exact Classical.byContradiction fun p => q ⟨i, hi, p⟩
theorem Loop.cases3 (L : Loop n X Y D) (y : Int) {M : Int} (hM : ∀ i, X i ≤ M) : ∀ (m : Nat) (x : Int), M - m ≤ x → W n X Y D x y = 0 ∨ W n X Y D x y = LW n X Y D 0 ∨ W n X Y D x y = LW n X Y D 0 - 1
  | 0, x, hx => .inl (W_right y fun i => by have := hM i; omega)
  | m + 1, x, hx => by
    have ih := L.cases3 y hM m (x + 1) (by omega)
    have hc := cross_v L (x + 1) y
    rw [show x + 1 - 1 = x by omega] at hc
    by_cases h0 : W n X Y D x y - W n X Y D (x + 1) y = 0
    · rw [show W n X Y D x y = W n X Y D (x + 1) y by omega]
      exact ih
    · rw [hc] at h0
      obtain ⟨i, hi, hne⟩ := sum_ne h0
      by_cases e1 : D i = 1 ∧ X i = x + 1 ∧ Y i = y
      · have := L.left i
        rw [e1.1] at this
        rw [show cx (X i) 1 = x by show X i - 1 = x; omega, show cy (Y i) 1 = y from e1.2.2] at this
        exact .inr (.inl this)
      · rw [if_neg e1] at hne
        by_cases e3 : D i = 3 ∧ X i = x + 1 ∧ Y i = y + 1
        · have := L.right i
          rw [e3.1] at this
          rw [show cx (X i) ((3 + 3) % 4) = x by show X i - 1 = x; omega, show cy (Y i) ((3 + 3) % 4) = y by show Y i - 1 = y; omega] at this
          exact .inr (.inr this)
        · rw [if_neg e3] at hne
          exact absurd rfl hne
def Box (K : Nat) (X Y : Nat → Int) : Prop := ∀ i, -(K : Int) < X i ∧ X i < K ∧ -(K : Int) < Y i ∧ Y i < K
theorem Loop.three (L : Loop n X Y D) (x y : Int) : W n X Y D x y = 0 ∨ W n X Y D x y = LW n X Y D 0 ∨ W n X Y D x y = LW n X Y D 0 - 1 := by
  obtain ⟨i, h⟩ := L.maxX
  exact L.cases3 y h (X i - x).toNat x (by omega)
theorem Loop.area (L : Loop n X Y D) {K : Nat} (hB : Box K X Y) : Z K (fun x => Z K fun y => W n X Y D x y) = S n fun i => X i * uy (D i) := by
  unfold W
  have e1 : (fun x => Z K fun y => S n (wi X Y D x y)) = fun x => S n fun i => Z K fun y => wi X Y D x y i := by
    funext x
    exact Z_S K n fun y i => wi X Y D x y i
  rw [e1, Z_S K n fun x i => Z K fun y => wi X Y D x y i]
  have hs : S n (fun i => uy (D i)) = 0 := by
    have ht := S_tel n Y
    have hy := L.py 0
    rw [Nat.zero_add] at hy
    rw [hy, Int.sub_self] at ht
    rw [← ht]
    exact S_congr fun i _ => by rw [L.sy i]; omega
  have h2 : S n (fun i => X i * uy (D i)) = S n (fun i => (X i + K) * uy (D i)) := by
    have : (fun i => (X i + K) * uy (D i)) = fun i => X i * uy (D i) + (K : Int) * uy (D i) := by funext i; rw [Int.add_mul]
    rw [this, S_add, S_mul, hs, Int.mul_zero, Int.add_zero]
  rw [h2]
  refine S_congr fun i _ => ?_
  obtain ⟨b1, b2, b3, b4⟩ := hB i
  have e2 : ∀ x : Int, (Z K fun y => wi X Y D x y i) = uy (D i) * (if x < X i then 1 else 0) := by
    intro x
    rcases d_cases (L.d4 i) with e | e | e | e
    · rw [Z_zero fun y _ _ => by unfold wi; rw [e]; simp, e]; simp [uy]
    · have : ∀ y, wi X Y D x y i = if y = Y i then (if x < X i then 1 else 0) else 0 := by
        intro y
        unfold wi
        rw [e]
        simp
        (repeat' split) <;> omega
      rw [Z_congr fun y _ _ => this y, Z_one (a := Y i) (by omega) (by omega) fun y hy => if_neg hy, if_pos rfl, e]
      simp [uy]
    · rw [Z_zero fun y _ _ => by unfold wi; rw [e]; simp, e]; simp [uy]
    · have hn := hB (i + 1)
      rw [L.sy i, e] at hn
      simp [uy] at hn
      have : ∀ y, wi X Y D x y i = if y = Y i - 1 then (if x < X i then -1 else 0) else 0 := by
        intro y
        unfold wi
        rw [e]
        simp
        (repeat' split) <;> omega
      rw [Z_congr fun y _ _ => this y, Z_one (a := Y i - 1) (by omega) (by omega) fun y hy => if_neg hy, if_pos rfl, e]
      simp [uy]
      split <;> rfl
  rw [Z_congr fun x _ _ => e2 x, Z_mul, Z_count (by omega) (by omega), Int.mul_comm]
theorem Loop.zo (L : Loop n X Y D) (h1 : LW n X Y D 0 = 1) (x y : Int) : W n X Y D x y = 0 ∨ W n X Y D x y = 1 := by
  have := L.three x y
  rw [h1] at this
  omega
end
end Go.Proofs.YtpfenoioeajkmaaDoor.G
end

section
set_option linter.unusedVariables false
set_option linter.unusedSimpArgs false
namespace Go.Proofs.YtpfenoioeajkmaaDoor.G
theorem S_rot {n : Nat} {f : Nat → Int} (h : ∀ i, f (i + n) = f i) (b : Nat) : S n (fun i => f (b + i)) = S n f := by
  induction b with
  | zero => exact S_congr fun i _ => by rw [Nat.zero_add]
  | succ b ih =>
    have h1 := S_head n fun i => f (b + i)
    have h2 := S_succ n fun i => f (b + i)
    rw [h2, ih] at h1
    have h3 : S n (fun i => f (b + 1 + i)) = S n fun i => f (b + (i + 1)) := S_congr fun i _ => by congr 1; omega
    rw [h3]
    have h4 := h b
    rw [Nat.add_zero] at h1
    omega
section
variable {n : Nat} {X Y : Nat → Int} {D : Nat → Nat}
theorem unit_of (d : Nat) (h : d < 4) : (ux d = 1 ∧ uy d = 0) ∨ (ux d = 0 ∧ uy d = 1) ∨ (ux d = -1 ∧ uy d = 0) ∨ (ux d = 0 ∧ uy d = -1) := by
  rcases d_cases h with e | e | e | e <;> subst e <;> simp [ux, uy]
end
end Go.Proofs.YtpfenoioeajkmaaDoor.G
end

section
set_option linter.unusedVariables false
set_option linter.unusedSimpArgs false
namespace Go.Proofs.YtpfenoioeajkmaaDoor.G
section
variable {n : Nat} {X Y : Nat → Int} {D : Nat → Nat}
def inn (n : Nat) (X Y : Nat → Int) (D : Nat → Nat) (a b : Int) : Int := if W n X Y D a b = 1 ∧ W n X Y D (a - 1) b = 1 ∧ W n X Y D (a - 1) (b - 1) = 1 ∧ W n X Y D a (b - 1) = 1 then 1 else 0
def on (X Y : Nat → Int) (D : Nat → Nat) (a b : Int) (i : Nat) : Int := if X (i + 1) = a ∧ Y (i + 1) = b then 2 - turn (D i) (D (i + 1)) else 0
theorem Loop.point (L : Loop n X Y D) (h1 : LW n X Y D 0 = 1) (a b : Int) :
    W n X Y D a b + W n X Y D (a - 1) b + W n X Y D (a - 1) (b - 1) + W n X Y D a (b - 1) = 4 * inn n X Y D a b + S n (on X Y D a b) := by
  have h4 := L.n4
  by_cases hp : ∃ j, j < n ∧ X (j + 1) = a ∧ Y (j + 1) = b
  · obtain ⟨j, hj, rfl, rfl⟩ := hp
    obtain ⟨-, -, h, -, hr⟩ := L.around j
    rw [L.LW_eq, h1] at h hr
    have hs : S n (on X Y D (X (j + 1)) (Y (j + 1))) = 2 - turn (D j) (D (j + 1)) := by
      rw [S_one (k := j) hj]
      · unfold on
        rw [if_pos ⟨rfl, rfl⟩]
      · intro i hi hne
        unfold on
        rw [if_neg]
        rintro ⟨hx, hy⟩
        have := mod_add_cancel (b := 1) (i := i) (j := j) (by rw [Nat.add_comm 1, Nat.add_comm 1]; exact L.inj _ _ hx hy)
        rw [Nat.mod_eq_of_lt hi, Nat.mod_eq_of_lt hj] at this
        exact hne this
    rw [hs]
    have hin : inn n X Y D (X (j + 1)) (Y (j + 1)) = 0 := by
      unfold inn
      rw [if_neg]
      rintro ⟨q0, q1, q2, q3⟩
      have hd := L.d4 (j + 1)
      rcases d_cases hd with e | e | e | e <;> rw [e] at hr <;> simp [cx, cy] at hr <;> omega
    rw [hin]
    simp [cx, cy] at h
    omega
  · have hs : S n (on X Y D a b) = 0 := S_zero fun i hi => by
      unfold on
      rw [if_neg fun q => hp ⟨i, hi, q⟩]
    have ht : ∀ k, S n (ti X Y D a b k) = 0 := fun k => S_zero fun i hi => by
      unfold ti
      rw [if_neg fun q => hp ⟨(i + n - 1) % n, Nat.mod_lt _ (by omega), by
          have e : X ((i + n - 1) % n + 1) = X i := by rw [L.sx, L.mod_x, L.mod_d, ← L.sx, show i + n - 1 + 1 = i + n by omega, L.px]
          have e2 : Y ((i + n - 1) % n + 1) = Y i := by rw [L.sy, L.mod_y, L.mod_d, ← L.sy, show i + n - 1 + 1 = i + n by omega, L.py]
          rw [e, e2]; exact q.2⟩, if_neg fun q => hp ⟨i, hi, q.2⟩]
      rfl
    have c1 := cross L a b (k := 1) (by omega)
    have c2 := cross L a b (k := 2) (by omega)
    have c3 := cross L a b (k := 3) (by omega)
    rw [ht] at c1 c2 c3
    simp [cx, cy] at c1 c2 c3
    rw [hs]
    have := L.zo h1 a b
    unfold inn
    split <;> omega
theorem Loop.even (L : Loop n X Y D) : n % 2 = 0 := by
  have h : ∀ i : Nat, (X i + Y i - X 0 - Y 0 - i) % 2 = 0 := by
    intro i
    induction i with
    | zero => simp; omega
    | succ i ih =>
      rw [L.sx, L.sy]
      rcases unit_of _ (L.d4 i) with ⟨e, f⟩ | ⟨e, f⟩ | ⟨e, f⟩ | ⟨e, f⟩ <;> rw [e, f] <;> omega
  have := h n
  have hx := L.px 0
  have hy := L.py 0
  rw [Nat.zero_add] at hx hy
  rw [hx, hy] at this
  omega
end
end Go.Proofs.YtpfenoioeajkmaaDoor.G
end

section
set_option linter.unusedVariables false
set_option linter.unusedSimpArgs false
namespace Go.Proofs.YtpfenoioeajkmaaDoor.G
def bi (b : Bool) : Int := if b then 1 else 0
end Go.Proofs.YtpfenoioeajkmaaDoor.G
end

section
set_option linter.unusedVariables false
set_option linter.unusedSimpArgs false
namespace Go.Proofs.YtpfenoioeajkmaaDoor.G
theorem S_rev (m : Nat) (f : Nat → Int) : S m f = S m fun t => f (m - 1 - t) := by
  induction m generalizing f with
  | zero => rfl
  | succ m ih =>
    rw [S_succ, S_head, ih]
    have : S m (fun t => f (m - 1 - t)) = S m (fun i => f (m + 1 - 1 - (i + 1))) := S_congr fun t ht => by congr 1; omega
    rw [this, show m + 1 - 1 - 0 = m by omega]
    omega
def Opp (D : Nat → Nat) (i m j : Nat) : Prop := ∀ t, t < m → D (j + t) = (D (i + m - 1 - t) + 2) % 4
theorem Opp.symm {D : Nat → Nat} (h4 : ∀ i, D i < 4) {i m j : Nat} (h : Opp D i m j) : Opp D j m i := fun t ht => by
  have := h (m - 1 - t) (by omega)
  rw [show i + m - 1 - (m - 1 - t) = i + t by omega, show j + (m - 1 - t) = j + m - 1 - t by omega] at this
  rw [this]
  have := h4 (i + t)
  omega
theorem uxy (d : Nat) : ux d * uy d = 0 := by
  unfold ux uy
  (repeat' split) <;> omega
section
variable {n : Nat} {X Y : Nat → Int} {D : Nat → Nat}
def Q (X Y : Nat → Int) (D : Nat → Nat) (i m : Nat) : Int := S m fun t => X (i + t) * uy (D (i + t)) - Y (i + t) * ux (D (i + t))
theorem Loop.Q_area (L : Loop n X Y D) : Q X Y D 0 n = 2 * S n fun i => X i * uy (D i) := by
  have ht := S_tel n fun i => X i * Y i
  have hx := L.px 0
  have hy := L.py 0
  rw [Nat.zero_add] at hx hy
  rw [hx, hy, Int.sub_self] at ht
  have e : (S n fun i => X (i + 1) * Y (i + 1) - X i * Y i) = S n fun i => X i * uy (D i) + Y i * ux (D i) := S_congr fun i _ => by
    have := uxy (D i)
    rw [L.sx, L.sy]
    grind
  rw [e, S_add] at ht
  unfold Q
  simp only [Nat.zero_add]
  rw [S_sub]
  omega
structure Fac (n : Nat) (D : Nat → Nat) (a b c : Nat) : Prop where
  n2 : n = a + b + c + a + b + c
  A : Opp D 0 a (a + b + c)
  B : Opp D a b (a + b + c + a)
  C : Opp D (a + b) c (a + b + c + a + b)
end
end Go.Proofs.YtpfenoioeajkmaaDoor.G
end

section
set_option linter.unusedVariables false
set_option linter.unusedSimpArgs false
namespace Go.Proofs.YtpfenoioeajkmaaDoor.G
section
variable {n : Nat} {X Y : Nat → Int} {D : Nat → Nat}
def T (n : Nat) (D : Nat → Nat) (i : Nat) : Int := turn (D (i + n - 1)) (D i)
end
end Go.Proofs.YtpfenoioeajkmaaDoor.G
end

section
set_option linter.unusedVariables false
set_option linter.unusedSimpArgs false
namespace Go.Proofs.YtpfenoioeajkmaaDoor.L
open Go.RowKit Go.Proofs.YtpfenoioeajkmaaDoorW.PrintWords Go.Proofs.YtpfenoioeajkmaaDoorW.PrintLast Go.Proofs.YtpfenoioeajkmaaDoorW.PrintMore Go.Proofs.YtpfenoioeajkmaaDoor.X Go.Proofs.YtpfenoioeajkmaaDoor.G
def cd (c : Int) : Nat := if c = 114 then 0 else if c = 117 then 1 else if c = 108 then 2 else 3
theorem cd_lt (c : Int) : cd c < 4 := by
  unfold cd
  (repeat' split) <;> omega
theorem cd_step {c : Int} (h : isL c) : stepx c = ux (cd c) ∧ stepy c = uy (cd c) := by
  rcases h with rfl | rfl | rfl | rfl <;> decide
theorem cd_inj {c d : Int} (h : isL c) (h2 : isL d) (e : cd c = cd d) : c = d := by
  rcases h with rfl | rfl | rfl | rfl <;> rcases h2 with rfl | rfl | rfl | rfl <;> first | rfl | (exact absurd e (by decide))
theorem cd_back {c : Int} (h : isL c) : cd (exb ruld ldru c) = (cd c + 2) % 4 := by
  rcases h with rfl | rfl | rfl | rfl <;> decide +kernel
def gX (s : ByteArray) (i : Nat) : Int := sumx s (i % s.size)
def gY (s : ByteArray) (i : Nat) : Int := sumy s (i % s.size)
def gD (s : ByteArray) (i : Nat) : Nat := cd (bt s ((i % s.size : Nat) : Int))
theorem isO_parts {s : ByteArray} (h : isO s = true) : isW s = true ∧ 4 ≤ s.size ∧ (sumx s s.size = 0 ∧ sumy s s.size = 0) ∧ 0 < dbl s s.size ∧ apart s s.size := by
  have hw := isO_W h
  unfold isO at h
  simp only [Bool.and_eq_true, decide_eq_true_eq] at h
  exact ⟨hw, h.2.1, h.2.2.1, h.2.2.2.1, (apart_iff hw).2 h.2.2.2.2⟩
theorem loop_of {s : ByteArray} (h : isO s = true) : G.Loop s.size (gX s) (gY s) (gD s) := by
  obtain ⟨hw, h4, ⟨zx, zy⟩, -, hap⟩ := isO_parts h
  have hl := ((isW_iff s).1 hw).2
  have hn : 0 < s.size := by omega
  have nx : ∀ i, ((i + 1) % s.size = i % s.size + 1 ∧ i % s.size + 1 < s.size) ∨ ((i + 1) % s.size = 0 ∧ i % s.size + 1 = s.size) := fun i => by
    have hi := Nat.mod_lt i hn
    by_cases e : i % s.size + 1 < s.size
    · left
      refine ⟨?_, e⟩
      rw [Nat.add_mod, Nat.mod_eq_of_lt (a := 1) (by omega), Nat.mod_eq_of_lt e]
    · right
      have e2 : i % s.size + 1 = s.size := by omega
      refine ⟨?_, e2⟩
      rw [Nat.add_mod, Nat.mod_eq_of_lt (a := 1) (by omega), e2, Nat.mod_self]
  refine ⟨h4, fun i => cd_lt _, fun i => ?_, fun i => ?_, fun i => ?_, fun i => ?_, fun i => ?_, fun i j hx hy => ?_⟩
  · unfold gX gD
    have hi := Nat.mod_lt i hn
    rw [← (cd_step (hl _ hi)).1]
    rcases nx i with ⟨e, _⟩ | ⟨e, e2⟩
    · rw [e, sumx]
    · rw [e]
      have : sumx s (i % s.size + 1) = 0 := by rw [e2]; exact zx
      rw [sumx] at this
      show (0 : Int) = _
      omega
  · unfold gY gD
    have hi := Nat.mod_lt i hn
    rw [← (cd_step (hl _ hi)).2]
    rcases nx i with ⟨e, _⟩ | ⟨e, e2⟩
    · rw [e, sumy]
    · rw [e]
      have : sumy s (i % s.size + 1) = 0 := by rw [e2]; exact zy
      rw [sumy] at this
      show (0 : Int) = _
      omega
  · unfold gX; rw [Nat.add_mod_right]
  · unfold gY; rw [Nat.add_mod_right]
  · unfold gD; rw [Nat.add_mod_right]
  · unfold gX at hx
    unfold gY at hy
    have hi := Nat.mod_lt i hn
    have hj := Nat.mod_lt j hn
    generalize i % s.size = p at *
    generalize j % s.size = q at *
    rcases Nat.lt_trichotomy p q with e | e | e
    · have := hap p q (by omega) e hj
      rw [(same_iff hw (by omega) (by omega)).2 (by rw [hx, hy])] at this
      cases this
    · exact e
    · have := hap q p (by omega) e hi
      rw [(same_iff hw (by omega) (by omega)).2 (by rw [hx, hy])] at this
      cases this
theorem dbl_Q {s : ByteArray} (h : isO s = true) : dbl s s.size = 2 * S s.size fun i => gX s i * uy (gD s i) := by
  obtain ⟨hw, h4, ⟨zx, zy⟩, -, hap⟩ := isO_parts h
  have hl := ((isW_iff s).1 hw).2
  rw [← (loop_of h).Q_area]
  have key : ∀ k, k ≤ s.size → dbl s k = Q (gX s) (gY s) (gD s) 0 k := fun k => by
    induction k with
    | zero => intro _; rfl
    | succ k ih =>
      intro hk
      have e : Q (gX s) (gY s) (gD s) 0 (k + 1) = Q (gX s) (gY s) (gD s) 0 k + (gX s (0 + k) * uy (gD s (0 + k)) - gY s (0 + k) * ux (gD s (0 + k))) := rfl
      rw [dbl, ih (by omega), e, Nat.zero_add]
      have hk' : k % s.size = k := Nat.mod_eq_of_lt (by omega)
      have hs := cd_step (hl k (by omega))
      have e1 : gX s k = sumx s k := by unfold gX; rw [hk']
      have e2 : gY s k = sumy s k := by unfold gY; rw [hk']
      have e3 : gD s k = cd (bt s (k : Int)) := by unfold gD; rw [hk']
      rw [e1, e2, e3, ← hs.1, ← hs.2, sumx, sumy]
      generalize sumx s k = a
      generalize sumy s k = b
      generalize stepx (bt s k) = u
      generalize stepy (bt s k) = v
      grind
  exact key _ (Nat.le_refl _)
def rcl (s : ByteArray) : List (Int × Int) := cellsTo s 49
attribute [irreducible] rcl
end Go.Proofs.YtpfenoioeajkmaaDoor.L
end

section
set_option linter.unusedVariables false
set_option linter.unusedSimpArgs false
namespace Go.Proofs.YtpfenoioeajkmaaDoor.L
open Go.RowKit Go.Proofs.YtpfenoioeajkmaaDoorW.PrintWords Go.Proofs.YtpfenoioeajkmaaDoorW.PrintLast Go.Proofs.YtpfenoioeajkmaaDoorW.PrintMore Go.Proofs.YtpfenoioeajkmaaDoor.X Go.Proofs.YtpfenoioeajkmaaDoor.G
theorem bytes_ext {a b : ByteArray} (hs : a.size = b.size) (h : ∀ i : Nat, i < a.size → bt a i = bt b i) : a = b := by
  rw [← strN_self a, ← strN_self b, ← hs]
  exact strN_congr fun i hi => h i hi
theorem size_even {s : ByteArray} (h : isO s = true) : s.size = s.size / 2 + s.size / 2 := by
  have := (loop_of h).even
  omega
theorem gD_rot {s : ByteArray} (h : isO s = true) {k : Nat} (hk : k < s.size) {i : Nat} (hi : i < s.size) : gD s (k + i) = cd (bt (rotF s k) i) ∧ isL (bt (rotF s k) i) := by
  have hl := ((isW_iff s).1 (isO_W h)).2
  have e : (k + i) % s.size = if i < s.size - k then k + i else i - (s.size - k) := by
    by_cases q : i < s.size - k
    · rw [if_pos q, Nat.mod_eq_of_lt (by omega)]
    · rw [if_neg q, show k + i = (i - (s.size - k)) + s.size by omega, Nat.add_mod_right, Nat.mod_eq_of_lt (by omega)]
  have hr := rot_bt s (Nat.le_of_lt hk) i hi
  rw [← e] at hr
  unfold gD
  rw [hr]
  exact ⟨rfl, hl _ (Nat.mod_lt _ (by omega))⟩
theorem back3_bt {t : ByteArray} (hw : isW t = true) {a b c h : Nat} (habc : a + b + c = h) (hh : h ≤ t.size) {i : Nat} (hi : i < h) :
    bt (backF (t.extract 0 a) ++ backF (t.extract a (a + b)) ++ backF (t.extract (a + b) h)) i = exb ruld ldru (bt t ((if i < a then a - 1 - i else if i < a + b then a + b - 1 - (i - a) else h - 1 - (i - a - b) : Nat) : Int)) := by
  have s1 : (t.extract 0 a).size = a := by rw [ByteArray.size_extract]; omega
  have s2 : (t.extract a (a + b)).size = b := by rw [ByteArray.size_extract]; omega
  have s3 : (t.extract (a + b) h).size = c := by rw [ByteArray.size_extract]; omega
  have z1 : (backF (t.extract 0 a)).size = a := by rw [back_size, s1]
  have z2 : (backF (t.extract a (a + b))).size = b := by rw [back_size, s2]
  have z3 : (backF (t.extract (a + b) h)).size = c := by rw [back_size, s3]
  have w1 := cut_W hw 0 a (by omega)
  have w2 := cut_W hw a (a + b) (by omega)
  have w3 := cut_W hw (a + b) h hh
  rw [bt_app _ _ i (by rw [ByteArray.size_append, ByteArray.size_append, z1, z2, z3]; omega), ByteArray.size_append, z1, z2]
  by_cases h1 : i < a
  · rw [if_pos (by omega), bt_app _ _ i (by rw [ByteArray.size_append, z1, z2]; omega), z1, if_pos h1, if_pos h1, back_bt w1 (by rw [s1]; exact h1), s1, bt_cut t 0 a _ (by omega) (by omega), Nat.zero_add]
  · rw [if_neg h1]
    by_cases h2 : i < a + b
    · rw [if_pos h2, if_pos h2, bt_app _ _ i (by rw [ByteArray.size_append, z1, z2]; omega), z1, if_neg h1, back_bt w2 (by rw [s2]; omega), s2, bt_cut t a (a + b) _ (by omega) (by omega), show a + (b - 1 - (i - a)) = a + b - 1 - (i - a) by omega]
    · rw [if_neg h2, if_neg h2, back_bt w3 (by rw [s3]; omega), s3, bt_cut t (a + b) h _ (by omega) hh, show a + b + (c - 1 - (i - (a + b))) = h - 1 - (i - a - b) by omega]
theorem fac_point {D : Nat → Nat} {n H a b c : Nat} (hc : a + b + c = H) (hn : n = H + H) :
    (∀ i, i < H → D (H + i) = (D (if i < a then a - 1 - i else if i < a + b then a + b - 1 - (i - a) else H - 1 - (i - a - b)) + 2) % 4) ↔ Fac n D a b c := by
  constructor
  · intro all
    refine ⟨by omega, fun d hd => ?_, fun d hd => ?_, fun d hd => ?_⟩
    · have := all d (by omega)
      rw [if_pos hd] at this
      rw [hc, this, Nat.zero_add]
    · have := all (a + d) (by omega)
      rw [if_neg (by omega), if_pos (by omega), show a + b - 1 - (a + d - a) = a + b - 1 - d by omega] at this
      rw [hc, show H + a + d = H + (a + d) by omega, this]
    · have := all (a + b + d) (by omega)
      rw [if_neg (by omega), if_neg (by omega), show H - 1 - (a + b + d - a - b) = a + b + c - 1 - d by omega] at this
      rw [hc, show H + a + b + d = H + (a + b + d) by omega, this, hc]
  · intro F i hi
    have fa := F.A
    have fb := F.B
    have fc := F.C
    rw [hc] at fa fb fc
    by_cases h1 : i < a
    · rw [if_pos h1]
      have := fa i h1
      rwa [Nat.zero_add] at this
    · rw [if_neg h1]
      by_cases h2 : i < a + b
      · rw [if_pos h2]
        have := fb (i - a) (by omega)
        rwa [show H + a + (i - a) = H + i by omega] at this
      · rw [if_neg h2]
        have := fc (i - a - b) (by omega)
        rwa [show H + a + b + (i - a - b) = H + i by omega, show a + b + c - 1 - (i - a - b) = H - 1 - (i - a - b) by omega] at this
theorem fT_fac {s : ByteArray} (h : isO s = true) {k a b : Nat} (hk : k < s.size) (hab : a + b ≤ s.size / 2) :
    fT (rotF s k) (s.size / 2) a b = true ↔ Fac s.size (fun i => gD s (k + i)) a b (s.size / 2 - a - b) := by
  have hev := size_even h
  have hw := rot_W (isO_W h) (Nat.le_of_lt hk)
  have hts := rot_size s (Nat.le_of_lt hk)
  have hg := fun {i : Nat} (hi : i < s.size) => gD_rot h hk hi
  generalize hh : s.size / 2 = H at *
  obtain ⟨c, hc⟩ : ∃ c, a + b + c = H := ⟨H - a - b, by omega⟩
  rw [show H - a - b = c by omega, ← fac_point hc hev]
  generalize rotF s k = t at *
  have hHt : H ≤ t.size := by omega
  have hsz : (t.extract H t.size).size = H := by rw [ByteArray.size_extract]; omega
  have hsz2 : (backF (t.extract 0 a) ++ backF (t.extract a (a + b)) ++ backF (t.extract (a + b) H)).size = H := by
    rw [ByteArray.size_append, ByteArray.size_append, back_size, back_size, back_size, ByteArray.size_extract, ByteArray.size_extract, ByteArray.size_extract]
    omega
  have point : ∀ i, i < H → (bt (t.extract H t.size) i = bt (backF (t.extract 0 a) ++ backF (t.extract a (a + b)) ++ backF (t.extract (a + b) H)) i ↔
      gD s (k + (H + i)) = (gD s (k + (if i < a then a - 1 - i else if i < a + b then a + b - 1 - (i - a) else H - 1 - (i - a - b))) + 2) % 4) := fun i hi => by
    have hb3 := back3_bt hw hc hHt hi
    have hq : (if i < a then a - 1 - i else if i < a + b then a + b - 1 - (i - a) else H - 1 - (i - a - b)) < s.size := by clear hb3 hg; (repeat' split) <;> omega
    generalize (if i < a then a - 1 - i else if i < a + b then a + b - 1 - (i - a) else H - 1 - (i - a - b)) = q at hb3 hq ⊢
    have hHi : H + i < s.size := by clear hb3 hg; omega
    have hHi2 : H + i < t.size := by rw [hts]; exact hHi
    obtain ⟨e1, l1⟩ := hg hHi
    obtain ⟨e2, l2⟩ := hg hq
    rw [hb3, bt_cut t H t.size i hHi2 (Nat.le_refl _), e1, e2, ← cd_back l2]
    exact ⟨fun q => by rw [q], fun q => cd_inj l1 (ex_back l2).2 q⟩
  unfold fT
  rw [decide_eq_true_eq]
  constructor
  · intro e i hi
    exact (point i hi).1 (by rw [e])
  · intro F
    refine bytes_ext (by rw [hsz, hsz2]) fun i hi => ?_
    rw [hsz] at hi
    exact (point i hi).2 (F i hi)
end Go.Proofs.YtpfenoioeajkmaaDoor.L
end

section
set_option linter.unusedVariables false
set_option linter.unusedSimpArgs false
namespace Go.Proofs.YtpfenoioeajkmaaDoor.L
open Go.RowKit Go.Proofs.YtpfenoioeajkmaaDoorW.PrintWords Go.Proofs.YtpfenoioeajkmaaDoorW.PrintLast Go.Proofs.YtpfenoioeajkmaaDoorW.PrintMore Go.Proofs.YtpfenoioeajkmaaDoor.X Go.Proofs.YtpfenoioeajkmaaDoor.G
theorem isO_mk {s : ByteArray} (hw : isW s = true) (h4 : 4 ≤ s.size) (hx : sumx s s.size = 0) (hy : sumy s s.size = 0) (hd : 0 < dbl s s.size)
    (ha : ∀ i j, i < j → j < s.size → sumx s i = sumx s j → sumy s i = sumy s j → False) : isO s = true := by
  unfold isO
  simp only [Bool.and_eq_true, decide_eq_true_eq]
  refine ⟨hw, h4, ⟨hx, hy⟩, hd, (apart_iff hw).1 fun i j hi hij hj => ?_⟩
  rw [Bool.eq_false_iff]
  intro q
  have := (same_iff hw (by omega) (by omega)).1 q
  injection this with a b
  exact ha i j hij hj a b
theorem isO_apart {s : ByteArray} (h : isO s = true) {i j : Nat} (hij : i < j) (hj : j < s.size) (hx : sumx s i = sumx s j) (hy : sumy s i = sumy s j) : False := by
  obtain ⟨hw, -, -, -, hap⟩ := isO_parts h
  have := hap i j (by omega) hij hj
  rw [(same_iff hw (by omega) (by omega)).2 (by rw [hx, hy])] at this
  cases this
theorem dbl_sum (s : ByteArray) : ∀ k, dbl s k = S k fun i => sumx s i * stepy (bt s i) - sumy s i * stepx (bt s i)
  | 0 => rfl
  | k + 1 => by
    rw [dbl, S_succ, ← dbl_sum s k, sumx, sumy]
    grind
theorem rot_bt' (s : ByteArray) {k i : Nat} (hk : k < s.size) (hi : i < s.size) : bt (rotF s k) i = bt s ((k + i) % s.size : Nat) := by
  rw [rot_bt s (Nat.le_of_lt hk) i hi]
  congr 2
  by_cases q : i < s.size - k
  · rw [if_pos q, Nat.mod_eq_of_lt (by omega)]
  · rw [if_neg q, show k + i = (i - (s.size - k)) + s.size by omega, Nat.add_mod_right, Nat.mod_eq_of_lt (by omega)]
theorem rot_rot (s : ByteArray) {r i : Nat} (hr : r < s.size) (hi : i < s.size) : rotF (rotF s r) i = rotF s ((r + i) % s.size) := by
  have hn : 0 < s.size := by omega
  have z1 := rot_size s (Nat.le_of_lt hr)
  have z2 := rot_size (rotF s r) (show i ≤ (rotF s r).size by omega)
  have hm := Nat.mod_lt (r + i) hn
  have z3 := rot_size s (Nat.le_of_lt hm)
  refine bytes_ext (by omega) fun j hj => ?_
  rw [rot_bt' (rotF s r) (by omega) (by omega), z1, rot_bt' s hr (Nat.mod_lt _ hn), rot_bt' s hm (by omega)]
  congr 2
  rw [Nat.add_mod, Nat.mod_mod, ← Nat.add_mod, Nat.add_mod ((r + i) % s.size), Nat.mod_mod, ← Nat.add_mod, Nat.add_assoc]
theorem rot_zero (s : ByteArray) (hn : 0 < s.size) : rotF s 0 = s := by
  refine bytes_ext (rot_size s (Nat.zero_le _)) fun i hi => ?_
  rw [rot_size s (Nat.zero_le _)] at hi
  rw [rot_bt' s hn hi, Nat.zero_add, Nat.mod_eq_of_lt hi]
theorem rot_sum {s : ByteArray} (h : isO s = true) {k : Nat} (hk : k < s.size) : ∀ i, i ≤ s.size → sumx (rotF s k) i = gX s (k + i) - gX s k ∧ sumy (rotF s k) i = gY s (k + i) - gY s k
  | 0, _ => by show (0 : Int) = _ ∧ (0 : Int) = _; rw [Nat.add_zero]; omega
  | i + 1, hi => by
    obtain ⟨a, b⟩ := rot_sum h hk i (by omega)
    obtain ⟨e, l⟩ := gD_rot h hk (show i < s.size by omega)
    obtain ⟨c, d⟩ := cd_step l
    have sx := (loop_of h).sx (k + i)
    have sy := (loop_of h).sy (k + i)
    rw [sumx, sumy, a, b, c, d, ← e, ← Nat.add_assoc]
    omega
theorem S_ux {s : ByteArray} (h : isO s = true) : S s.size (fun i => ux (gD s i)) = 0 ∧ S s.size (fun i => uy (gD s i)) = 0 := by
  have L := loop_of h
  have tx := S_tel s.size (gX s)
  have ty := S_tel s.size (gY s)
  have px := L.px 0
  have py := L.py 0
  rw [Nat.zero_add] at px py
  rw [px, Int.sub_self] at tx
  rw [py, Int.sub_self] at ty
  refine ⟨?_, ?_⟩
  · rw [← tx]; exact S_congr fun i _ => by rw [L.sx]; omega
  · rw [← ty]; exact S_congr fun i _ => by rw [L.sy]; omega
theorem rot_O {s : ByteArray} (h : isO s = true) {k : Nat} (hk : k < s.size) : isO (rotF s k) = true ∧ dbl (rotF s k) s.size = dbl s s.size := by
  have L := loop_of h
  have hz := rot_size s (Nat.le_of_lt hk)
  have hs := rot_sum h hk
  have hd : dbl (rotF s k) s.size = dbl s s.size := by
    rw [dbl_sum, dbl_Q h]
    have e : (S s.size fun i => sumx (rotF s k) i * stepy (bt (rotF s k) i) - sumy (rotF s k) i * stepx (bt (rotF s k) i)) =
        S s.size fun i => (gX s (k + i) * uy (gD s (k + i)) - gY s (k + i) * ux (gD s (k + i))) - (gX s k * uy (gD s (k + i)) - gY s k * ux (gD s (k + i))) := S_congr fun i hi => by
      obtain ⟨a, b⟩ := hs i (by omega)
      obtain ⟨e, l⟩ := gD_rot h hk hi
      obtain ⟨c, d⟩ := cd_step l
      rw [a, b, c, d, e]
      grind
    rw [e, S_sub, S_sub (f := fun i => gX s k * uy (gD s (k + i))), S_mul, S_mul]
    have r1 := S_rot (n := s.size) (f := fun i => uy (gD s i)) (fun i => by rw [L.pd]) k
    have r2 := S_rot (n := s.size) (f := fun i => ux (gD s i)) (fun i => by rw [L.pd]) k
    have r3 := S_rot (n := s.size) (f := fun i => gX s i * uy (gD s i) - gY s i * ux (gD s i)) (fun i => by rw [L.px, L.py, L.pd]) k
    rw [r1, r2, r3, (S_ux h).1, (S_ux h).2]
    have := L.Q_area
    unfold Q at this
    simp only [Nat.zero_add] at this
    rw [this]
    omega
  refine ⟨isO_mk (rot_W (isO_W h) (Nat.le_of_lt hk)) (by rw [hz]; exact isO_4 h) ?_ ?_ ?_ ?_, hd⟩
  · rw [hz, (hs _ (Nat.le_refl _)).1, L.px, Int.sub_self]
  · rw [hz, (hs _ (Nat.le_refl _)).2, L.py, Int.sub_self]
  · rw [hz, hd]; exact (isO_parts h).2.2.2.1
  · intro i j hij hj hx hy
    rw [hz] at hj
    rw [(hs i (by omega)).1, (hs j (by omega)).1] at hx
    rw [(hs i (by omega)).2, (hs j (by omega)).2] at hy
    have := mod_add_cancel (L.inj (k + i) (k + j) (by omega) (by omega))
    rw [Nat.mod_eq_of_lt (by omega), Nat.mod_eq_of_lt (by omega)] at this
    omega
theorem ex_qua {c : Int} (h : isL c) : isL (rexTo ruld uldr c 4) ∧ cd (rexTo ruld uldr c 4) = (cd c + 1) % 4 ∧ stepx (rexTo ruld uldr c 4) = -stepy c ∧ stepy (rexTo ruld uldr c 4) = stepx c ∧
    rexTo ruld uldr (rexTo ruld uldr (rexTo ruld uldr (rexTo ruld uldr c 4) 4) 4) 4 = c := by
  refine ⟨by rw [← (ex_quarter h).1]; exact (ex_quarter h).2, ?_⟩
  rcases h with rfl | rfl | rfl | rfl <;> decide +kernel
theorem qua_size (s : ByteArray) : (quaF s).size = s.size := strN_size _ _
theorem qua_W {s : ByteArray} (h : isW s = true) : isW (quaF s) = true := W_of (by rw [qua_size]; exact isW_le h) (strN_L (quaF_L h))
theorem qua_bt {s : ByteArray} (h : isW s = true) {i : Nat} (hi : i < s.size) : bt (quaF s) i = rexTo ruld uldr (bt s i) 4 := strN_inj (quaF_L h) hi
theorem qua_sum {s : ByteArray} (h : isW s = true) : ∀ i, i ≤ s.size → sumx (quaF s) i = -sumy s i ∧ sumy (quaF s) i = sumx s i
  | 0, _ => ⟨rfl, rfl⟩
  | i + 1, hi => by
    obtain ⟨a, b⟩ := qua_sum h i (by omega)
    have e := ex_qua (((isW_iff s).1 h).2 i (by omega))
    rw [sumx, sumy, sumx, sumy, a, b, qua_bt h (by omega), e.2.2.1, e.2.2.2.1]
    omega
theorem qua_O {s : ByteArray} (h : isO s = true) : isO (quaF s) = true ∧ dbl (quaF s) s.size = dbl s s.size := by
  have hw := isO_W h
  have hz := qua_size s
  have hs := qua_sum hw
  obtain ⟨-, h4, ⟨zx, zy⟩, hdp, -⟩ := isO_parts h
  have hd : dbl (quaF s) s.size = dbl s s.size := by
    rw [dbl_sum, dbl_sum]
    exact S_congr fun i hi => by
      obtain ⟨a, b⟩ := hs i (by omega)
      have e := ex_qua (((isW_iff s).1 hw).2 i hi)
      rw [a, b, qua_bt hw hi, e.2.2.1, e.2.2.2.1]
      grind
  refine ⟨isO_mk (qua_W hw) (by rw [hz]; exact h4) ?_ ?_ ?_ ?_, hd⟩
  · rw [hz, (hs _ (Nat.le_refl _)).1, zy]; rfl
  · rw [hz, (hs _ (Nat.le_refl _)).2, zx]
  · rw [hz, hd]; exact hdp
  · intro i j hij hj hx hy
    rw [hz] at hj
    rw [(hs i (by omega)).1, (hs j (by omega)).1] at hx
    rw [(hs i (by omega)).2, (hs j (by omega)).2] at hy
    exact isO_apart h hij hj hy (by omega)
theorem qua_four {s : ByteArray} (h : isW s = true) : quaF (quaF (quaF (quaF s))) = s := by
  have w1 := qua_W h
  have w2 := qua_W w1
  have w3 := qua_W w2
  have z1 := qua_size s
  have z2 := qua_size (quaF s)
  have z3 := qua_size (quaF (quaF s))
  have z4 := qua_size (quaF (quaF (quaF s)))
  refine bytes_ext (by omega) fun i hi => ?_
  rw [qua_bt w3 (by omega), qua_bt w2 (by omega), qua_bt w1 (by omega), qua_bt h (by omega)]
  exact (ex_qua (((isW_iff s).1 h).2 i (by omega))).2.2.2.2
theorem qua_rot {s : ByteArray} (h : isW s = true) {k : Nat} (hk : k < s.size) : quaF (rotF s k) = rotF (quaF s) k := by
  have z1 := rot_size s (Nat.le_of_lt hk)
  have z2 := qua_size (rotF s k)
  have z3 := qua_size s
  have z4 := rot_size (quaF s) (show k ≤ (quaF s).size by omega)
  refine bytes_ext (by omega) fun i hi => ?_
  rw [qua_bt (rot_W h (Nat.le_of_lt hk)) (by omega), rot_bt' s hk (by omega), rot_bt' (quaF s) (by omega) (by omega), z3, qua_bt h (Nat.mod_lt _ (by omega))]
theorem ex_mir {c : Int} (h : isL c) : isL (rexTo ud du c 2) ∧ cd (rexTo ud du c 2) = (4 - cd c) % 4 ∧ stepx (rexTo ud du c 2) = stepx c ∧ stepy (rexTo ud du c 2) = -stepy c ∧ rexTo ud du (rexTo ud du c 2) 2 = c := by
  refine ⟨by rw [← (ex_mirror h).1]; exact (ex_back (ex_mirror h).2).2, ?_⟩
  rcases h with rfl | rfl | rfl | rfl <;> decide +kernel
theorem mir_size (s : ByteArray) : (mirF s).size = s.size := strN_size _ _
theorem mir_W {s : ByteArray} (h : isW s = true) : isW (mirF s) = true := W_of (by rw [mir_size]; exact isW_le h) (strN_L (mirF_L h))
theorem mir_bt {s : ByteArray} (h : isW s = true) {i : Nat} (hi : i < s.size) : bt (mirF s) i = rexTo ud du (bt s (s.size - 1 - i : Nat)) 2 := strN_inj (mirF_L h) hi
theorem mir_sum {s : ByteArray} (h : isW s = true) : ∀ i, i ≤ s.size → sumx (mirF s) i = sumx s s.size - sumx s (s.size - i) ∧ sumy (mirF s) i = sumy s (s.size - i) - sumy s s.size
  | 0, _ => by show (0 : Int) = _ ∧ (0 : Int) = _; rw [Nat.sub_zero]; omega
  | i + 1, hi => by
    obtain ⟨a, b⟩ := mir_sum h i (by omega)
    have e := ex_mir (((isW_iff s).1 h).2 (s.size - 1 - i) (by omega))
    have sx : sumx s (s.size - i) = sumx s (s.size - 1 - i) + stepx (bt s (s.size - 1 - i : Nat)) := by rw [show s.size - i = s.size - 1 - i + 1 by omega, sumx]
    have sy : sumy s (s.size - i) = sumy s (s.size - 1 - i) + stepy (bt s (s.size - 1 - i : Nat)) := by rw [show s.size - i = s.size - 1 - i + 1 by omega, sumy]
    rw [sumx, sumy, a, b, mir_bt h (by omega), e.2.2.1, e.2.2.2.1, show s.size - (i + 1) = s.size - 1 - i by omega]
    omega
theorem mir_O {s : ByteArray} (h : isO s = true) : isO (mirF s) = true ∧ dbl (mirF s) s.size = dbl s s.size := by
  have hw := isO_W h
  have hz := mir_size s
  have hs := mir_sum hw
  obtain ⟨-, h4, ⟨zx, zy⟩, hdp, -⟩ := isO_parts h
  have hd : dbl (mirF s) s.size = dbl s s.size := by
    rw [dbl_sum, dbl_sum, S_rev]
    exact S_congr fun j hj => by
      obtain ⟨a, b⟩ := hs (s.size - 1 - j) (by omega)
      have e := ex_mir (((isW_iff s).1 hw).2 j hj)
      have l := (((isW_iff s).1 hw).2 j hj)
      rw [a, b, mir_bt hw (by omega), show s.size - 1 - (s.size - 1 - j) = j by omega, e.2.2.1, e.2.2.2.1, zx, zy, show s.size - (s.size - 1 - j) = j + 1 by omega, sumx, sumy]
      have hz : stepx (bt s j) * stepy (bt s j) = 0 := by rcases l with q | q | q | q <;> rw [q] <;> decide
      generalize stepx (bt s j) = u at *
      generalize stepy (bt s j) = v at *
      grind
  refine ⟨isO_mk (mir_W hw) (by rw [hz]; exact h4) ?_ ?_ ?_ ?_, hd⟩
  · rw [hz, (hs _ (Nat.le_refl _)).1, Nat.sub_self, zx]; rfl
  · rw [hz, (hs _ (Nat.le_refl _)).2, Nat.sub_self, zy]; rfl
  · rw [hz, hd]; exact hdp
  · intro i j hij hj hx hy
    rw [hz] at hj
    rw [(hs i (by omega)).1, (hs j (by omega)).1] at hx
    rw [(hs i (by omega)).2, (hs j (by omega)).2] at hy
    by_cases e : i = 0
    · subst e
      rw [Nat.sub_zero] at hx hy
      refine isO_apart h (i := 0) (j := s.size - j) (by omega) (by omega) ?_ ?_
      · show (0 : Int) = _; omega
      · show (0 : Int) = _; omega
    · exact isO_apart h (i := s.size - j) (j := s.size - i) (by omega) (by omega) (by omega) (by omega)
theorem mir_mir {s : ByteArray} (h : isW s = true) : mirF (mirF s) = s := by
  have z1 := mir_size s
  have z2 := mir_size (mirF s)
  refine bytes_ext (by omega) fun i hi => ?_
  rw [mir_bt (mir_W h) (by omega), z1, mir_bt h (by omega), show s.size - 1 - (s.size - 1 - i) = i by omega]
  exact (ex_mir (((isW_iff s).1 h).2 i (by omega))).2.2.2.2
theorem mir_rot {s : ByteArray} (h : isW s = true) {k : Nat} (hk : k < s.size) : mirF (rotF s k) = rotF (mirF s) ((s.size - k) % s.size) := by
  have hn : 0 < s.size := by omega
  have z1 := rot_size s (Nat.le_of_lt hk)
  have z2 := mir_size (rotF s k)
  have z3 := mir_size s
  have hm := Nat.mod_lt (s.size - k) hn
  have z4 := rot_size (mirF s) (show (s.size - k) % s.size ≤ (mirF s).size by omega)
  refine bytes_ext (by omega) fun i hi => ?_
  have hp := Nat.mod_lt ((s.size - k) % s.size + i) hn
  rw [mir_bt (rot_W h (Nat.le_of_lt hk)) (by omega), z1, rot_bt' s hk (by omega), rot_bt' (mirF s) (by omega) (by omega), z3, mir_bt h hp]
  congr 3
  have e : ((s.size - k) % s.size + i) % s.size = (s.size - k + i) % s.size := by rw [Nat.add_mod, Nat.mod_mod, ← Nat.add_mod]
  rw [e]
  by_cases q : s.size - k + i < s.size
  · rw [Nat.mod_eq_of_lt q, show k + (s.size - 1 - i) = (k - 1 - i) + s.size by omega, Nat.add_mod_right, Nat.mod_eq_of_lt (by omega)]
    omega
  · rw [show s.size - k + i = (i - k) + s.size by omega, Nat.add_mod_right, Nat.mod_eq_of_lt (a := i - k) (by omega), Nat.mod_eq_of_lt (by omega)]
    omega
def leB (a b : ByteArray) : Prop := a.data.toList ≤ b.data.toList
theorem min_le (x y : ByteArray) : leB (Lib.minS x y) x ∧ leB (Lib.minS x y) y := by
  unfold Lib.minS leB
  split
  · rename_i h
    refine ⟨List.le_refl _, ?_⟩
    rcases h with h | h
    · exact List.le_of_lt h
    · rw [h]; exact List.le_refl _
  · rename_i h
    refine ⟨?_, List.le_refl _⟩
    intro q
    exact h (.inl q)
theorem min_one (x y : ByteArray) : Lib.minS x y = x ∨ Lib.minS x y = y := by
  unfold Lib.minS
  split
  · exact .inl rfl
  · exact .inr rfl
theorem leB_trans {a b c : ByteArray} (h : leB a b) (h2 : leB b c) : leB a c := List.le_trans h h2
theorem leB_antisymm {a b : ByteArray} (h : leB a b) (h2 : leB b a) : a = b := by
  have := List.le_antisymm h h2
  apply ByteArray.ext
  exact Array.toList_inj.1 this
theorem first_le (s : ByteArray) : ∀ k, (∀ i, i < k → leB (firstTo s k) (rotF s i)) ∧ leB (firstTo s k) s
  | 0 => ⟨fun i h => by omega, List.le_refl _⟩
  | k + 1 => by
    obtain ⟨a, b⟩ := first_le s k
    obtain ⟨m1, m2⟩ := min_le (firstTo s k) (rotF s k)
    refine ⟨fun i hi => ?_, leB_trans m1 b⟩
    by_cases e : i = k
    · rw [e]; exact m2
    · exact leB_trans m1 (a i (by omega))
theorem first_one (s : ByteArray) (hn : 0 < s.size) : ∀ k, k ≤ s.size → ∃ i, i < s.size ∧ firstTo s k = rotF s i
  | 0, _ => ⟨0, hn, (rot_zero s hn).symm⟩
  | k + 1, hk => by
    rcases min_one (firstTo s k) (rotF s k) with e | e
    · obtain ⟨i, hi, h⟩ := first_one s hn k (by omega)
      exact ⟨i, hi, by rw [firstTo, e, h]⟩
    · exact ⟨k, by omega, by rw [firstTo, e]⟩
theorem first_rot (s : ByteArray) {r : Nat} (hr : r < s.size) : firstTo (rotF s r) s.size = firstTo s s.size := by
  have hn : 0 < s.size := by omega
  have hz := rot_size s (Nat.le_of_lt hr)
  apply leB_antisymm
  · obtain ⟨i, hi, e⟩ := first_one s hn s.size (Nat.le_refl _)
    rw [e]
    have h := (first_le (rotF s r) s.size).1 ((i + s.size - r) % s.size) (Nat.mod_lt _ hn)
    rw [rot_rot s hr (Nat.mod_lt _ hn)] at h
    have e2 : (r + (i + s.size - r) % s.size) % s.size = i := by
      rw [Nat.add_mod, Nat.mod_mod, ← Nat.add_mod, show r + (i + s.size - r) = i + s.size by omega, Nat.add_mod_right, Nat.mod_eq_of_lt hi]
    rw [e2] at h
    exact h
  · obtain ⟨i, hi, e⟩ := first_one (rotF s r) (by omega) s.size (by omega)
    rw [e, rot_rot s hr (by omega)]
    exact (first_le s s.size).1 _ (Nat.mod_lt _ hn)
end Go.Proofs.YtpfenoioeajkmaaDoor.L
end

section
set_option linter.unusedVariables false
set_option linter.unusedSimpArgs false
namespace Go.Proofs.YtpfenoioeajkmaaDoor.L
open Go.RowKit Go.Proofs.YtpfenoioeajkmaaDoorW.PrintWords Go.Proofs.YtpfenoioeajkmaaDoorW.PrintLast Go.Proofs.YtpfenoioeajkmaaDoorW.PrintMore Go.Proofs.YtpfenoioeajkmaaDoor.X Go.Proofs.YtpfenoioeajkmaaDoor.G
def fI (s : ByteArray) (k a b : Nat) : Int := bi (fT (rotF s k) (s.size / 2) a b)
theorem fB_count (s : ByteArray) (k a : Nat) : ∀ m, ((fB s k a m).length : Int) = S m fun j => fI s k a (j + 1)
  | 0 => rfl
  | m + 1 => by
    rw [fB, List.length_append, S_succ, ← fB_count s k a m]
    unfold fI
    cases fT (rotF s k) (s.size / 2) a (m + 1) <;> simp [bi]
theorem fA_count (s : ByteArray) (k : Nat) : ∀ m, ((fA s k m).length : Int) = S m fun i => S (s.size / 2 - (i + 1)) fun j => fI s k (i + 1) (j + 1)
  | 0 => rfl
  | m + 1 => by
    rw [fA, List.length_append, S_succ, ← fA_count s k m, ← fB_count]
    omega
theorem fK_count (s : ByteArray) : ∀ m, ((fK s m).length : Int) = S m fun k => S (s.size / 2 - 1) fun i => S (s.size / 2 - (i + 1)) fun j => fI s k (i + 1) (j + 1)
  | 0 => rfl
  | m + 1 => by
    rw [fK, List.length_append, S_succ, ← fK_count s m, ← fA_count]
    omega
def nT (s : ByteArray) (k : Nat) : Int := S (s.size / 2 - 1) fun i => S (s.size / 2 - (i + 1)) fun j => fI s k (i + 1) (j + 1)
theorem facs_count (s : ByteArray) : ((facs s).length : Int) = S s.size (nT s) := fK_count s s.size
theorem facs_rot (s : ByteArray) {r : Nat} (hr : r < s.size) : (facs (rotF s r)).length = (facs s).length := by
  have hn : 0 < s.size := by omega
  have hz := rot_size s (Nat.le_of_lt hr)
  have e : (((facs (rotF s r)).length : Nat) : Int) = (((facs s).length : Nat) : Int) := by
    rw [facs_count, facs_count, hz]
    have r1 := S_rot (n := s.size) (f := fun k => nT s (k % s.size)) (fun i => by rw [Nat.add_mod_right]) r
    have r2 : S s.size (fun k => nT s (k % s.size)) = S s.size (nT s) := S_congr fun i hi => by rw [Nat.mod_eq_of_lt hi]
    rw [← r2, ← r1]
    refine S_congr fun k hk => ?_
    unfold nT fI
    rw [hz, rot_rot s hr hk]
  omega
theorem opp_map {D D' : Nat → Nat} (h4 : ∀ i, D i < 4) (h : ∀ i, D' i = (D i + 1) % 4) (i m j : Nat) : Opp D' i m j ↔ Opp D i m j := by
  unfold Opp
  refine forall_congr' fun t => forall_congr' fun _ => ?_
  rw [h, h]
  have a := h4 (j + t)
  have b := h4 (i + m - 1 - t)
  omega
theorem facs_qua {s : ByteArray} (h : isO s = true) : (facs (quaF s)).length = (facs s).length := by
  have hw := isO_W h
  have hz := qua_size s
  have e : (((facs (quaF s)).length : Nat) : Int) = (((facs s).length : Nat) : Int) := by
    rw [facs_count, facs_count, hz]
    refine S_congr fun k hk => ?_
    unfold nT fI
    rw [hz]
    refine S_congr fun i hi => S_congr fun j hj => ?_
    refine congrArg bi ?_
    rw [Bool.eq_iff_iff]
    have h1 := fT_fac (qua_O h).1 (k := k) (a := i + 1) (b := j + 1) (by omega) (by rw [hz]; omega)
    have h2 := fT_fac h (k := k) (a := i + 1) (b := j + 1) hk (by omega)
    rw [hz] at h1
    rw [h1, h2]
    have hD : ∀ i, gD (quaF s) (k + i) = (gD s (k + i) + 1) % 4 := fun i => by
      unfold gD
      rw [hz]
      have hm := Nat.mod_lt (k + i) (show 0 < s.size by omega)
      rw [qua_bt hw hm]
      exact (ex_qua (((isW_iff s).1 hw).2 _ hm)).2.1
    have h4 : ∀ i, gD s (k + i) < 4 := fun i => cd_lt _
    constructor
    · rintro ⟨n2, A, B, C⟩
      exact ⟨n2, (opp_map h4 hD _ _ _).1 A, (opp_map h4 hD _ _ _).1 B, (opp_map h4 hD _ _ _).1 C⟩
    · rintro ⟨n2, A, B, C⟩
      exact ⟨n2, (opp_map h4 hD _ _ _).2 A, (opp_map h4 hD _ _ _).2 B, (opp_map h4 hD _ _ _).2 C⟩
  omega
theorem opp_mir {D D' : Nat → Nat} {n : Nat} (h4 : ∀ i, D i < 4) (h : ∀ i, i < n → D' i = (4 - D (n - 1 - i)) % 4) {i m j p q : Nat} (hi : i + m ≤ n) (hj : j + m ≤ n) (hp : p + j + m = n) (hq : q + i + m = n) (ho : Opp D' i m j) : Opp D p m q := fun t ht => by
  have := ho (m - 1 - (m - 1 - t)) (by omega)
  rw [h _ (by omega), h _ (by omega)] at this
  rw [show n - 1 - (j + (m - 1 - (m - 1 - t))) = p + m - 1 - t by omega, show n - 1 - (i + m - 1 - (m - 1 - (m - 1 - t))) = q + t by omega] at this
  have a := h4 (p + m - 1 - t)
  have b := h4 (q + t)
  omega
theorem fac_mir {D D' : Nat → Nat} {n : Nat} (h4 : ∀ i, D i < 4) (h : ∀ i, i < n → D' i = (4 - D (n - 1 - i)) % 4) {a b c : Nat} (F : Fac n D' a b c) : Fac n D c b a := by
  have n2 := F.n2
  refine ⟨by omega, opp_mir h4 h (by omega) (by omega) (by omega) (by omega) F.C, opp_mir h4 h (by omega) (by omega) (by omega) (by omega) F.B, opp_mir h4 h (by omega) (by omega) (by omega) (by omega) F.A⟩
theorem fac_shape {D : Nat → Nat} {n b c : Nat} : Fac n D 0 b c ↔ Fac n D b c 0 := by
  constructor
  · rintro ⟨n2, A, B, C⟩
    refine ⟨by omega, ?_, ?_, fun t ht => by omega⟩
    · rw [show b + c + 0 = 0 + b + c + 0 by omega]; exact B
    · rw [Nat.zero_add] at C
      exact C
  · rintro ⟨n2, A, B, C⟩
    refine ⟨by omega, fun t ht => by omega, ?_, ?_⟩
    · rw [show 0 + b + c + 0 = b + c + 0 by omega]; exact A
    · rw [show 0 + b + c + 0 + b = b + c + 0 + b by omega, Nat.zero_add]; exact B
theorem S_tri (H : Nat) (P : Nat → Nat → Nat → Int) :
    (S (H - 1) fun i => S (H - (i + 1)) fun j => P (i + 1) (j + 1) (H - (i + 1) - (j + 1))) =
      (S (H - 1) fun i => P (i + 1) (H - (i + 1)) 0) + S (H - 1) fun i => S (H - 1) fun j => if i + 1 + (j + 1) < H then P (i + 1) (H - (i + 1) - (j + 1)) (j + 1) else 0 := by
  rw [← S_add]
  refine S_congr fun i hi => ?_
  rw [S_rev]
  obtain ⟨m, hm⟩ : ∃ m, H - (i + 1) = m + 1 := ⟨H - (i + 1) - 1, by omega⟩
  rw [hm, S_head]
  congr 1
  · congr 1 <;> omega
  · have hs := S_split m (H - 1 - m) fun j => if i + 1 + (j + 1) < H then P (i + 1) (m + 1 - (j + 1)) (j + 1) else 0
    rw [show m + (H - 1 - m) = H - 1 by omega] at hs
    rw [hs, S_zero (n := H - 1 - m) fun j _ => if_neg (by omega), Int.add_zero]
    refine S_congr fun j hj => ?_
    rw [if_pos (by omega)]
    congr 1 <;> omega
theorem S_tri_mir (H : Nat) (P P' : Nat → Nat → Nat → Int) (h : ∀ a b c, a + b + c = H → P' a b c = P c b a) (h0 : ∀ b c, b + c = H → P' b c 0 = P' 0 b c) :
    (S (H - 1) fun i => S (H - (i + 1)) fun j => P' (i + 1) (j + 1) (H - (i + 1) - (j + 1))) = S (H - 1) fun i => S (H - (i + 1)) fun j => P (i + 1) (j + 1) (H - (i + 1) - (j + 1)) := by
  rw [S_tri H P', S_tri H P]
  congr 1
  · rw [S_rev]
    refine S_congr fun i hi => ?_
    rw [h0 _ _ (by omega), h _ _ _ (by omega)]
    congr 1 <;> omega
  · rw [S_swap]
    refine S_congr fun i hi => S_congr fun j hj => ?_
    by_cases e : i + 1 + (j + 1) < H
    · rw [if_pos (by omega), if_pos e, h _ _ _ (by omega)]
      congr 1
      omega
    · rw [if_neg (by omega), if_neg e]
theorem gD_mir {s : ByteArray} (h : isO s = true) {k : Nat} (hk : k < s.size) (i : Nat) (hi : i < s.size) : gD (mirF s) ((s.size - k) % s.size + i) = (4 - gD s (k + (s.size - 1 - i))) % 4 := by
  have hw := isO_W h
  have hn : 0 < s.size := by omega
  have hm := Nat.mod_lt (s.size - k) hn
  have hz := mir_size s
  obtain ⟨e1, -⟩ := gD_rot (mir_O h).1 (k := (s.size - k) % s.size) (by omega) (show i < (mirF s).size by omega)
  obtain ⟨e2, l2⟩ := gD_rot h hk (show s.size - 1 - i < s.size by omega)
  rw [e1, e2, ← mir_rot hw hk, mir_bt (rot_W hw (Nat.le_of_lt hk)) (by rw [rot_size s (Nat.le_of_lt hk)]; exact hi), rot_size s (Nat.le_of_lt hk)]
  exact (ex_mir l2).2.1
theorem fI_shape {s : ByteArray} (h : isO s = true) {k b c : Nat} (hk : k < s.size) (hbc : b + c = s.size / 2) : fI s k b c = fI s k 0 b := by
  unfold fI
  refine congrArg bi ?_
  rw [Bool.eq_iff_iff]
  have h1 := fT_fac h (k := k) (a := b) (b := c) hk (by omega)
  have h2 := fT_fac h (k := k) (a := 0) (b := b) hk (by omega)
  rw [h1, h2, show s.size / 2 - b - c = 0 by omega, show s.size / 2 - 0 - b = c by omega]
  exact fac_shape.symm
theorem turn_mir {s : ByteArray} (h : isO s = true) {k : Nat} (hk : k < s.size) : nT (mirF s) ((s.size - k) % s.size) = nT s k := by
  have hz := mir_size s
  have hev := size_even h
  have hm := Nat.mod_lt (s.size - k) (show 0 < s.size by omega)
  have hM := (mir_O h).1
  unfold nT
  rw [hz]
  generalize hk' : (s.size - k) % s.size = k' at hm
  have key : ∀ a b c, a + b + c = s.size / 2 → fI (mirF s) k' a b = fI s k c b := fun a b c habc => by
    unfold fI
    refine congrArg bi ?_
    rw [Bool.eq_iff_iff]
    have h1 := fT_fac hM (k := k') (a := a) (b := b) (by omega) (by rw [hz]; omega)
    have h2 := fT_fac h (k := k) (a := c) (b := b) hk (by omega)
    rw [hz] at h1
    rw [hz, h1, h2, show s.size / 2 - a - b = c by omega, show s.size / 2 - c - b = a by omega]
    have hD := fun i (hi : i < s.size) => gD_mir h hk i hi
    rw [hk'] at hD
    constructor
    · exact fac_mir (D := fun i => gD s (k + i)) (D' := fun i => gD (mirF s) (k' + i)) (fun i => cd_lt _) hD
    · refine fac_mir (D := fun i => gD (mirF s) (k' + i)) (D' := fun i => gD s (k + i)) (fun i => cd_lt _) fun i hi => ?_
      have := hD (s.size - 1 - i) (by omega)
      rw [show s.size - 1 - (s.size - 1 - i) = i by omega] at this
      rw [this]
      have := cd_lt (bt s ((k + i) % s.size : Nat))
      unfold gD
      omega
  have key0 : ∀ b c, b + c = s.size / 2 → fI (mirF s) k' b c = fI (mirF s) k' 0 b := fun b c hbc => fI_shape hM (by rw [hz]; exact hm) (by rw [hz]; exact hbc)
  exact S_tri_mir (s.size / 2) (fun a b _ => fI s k a b) (fun a b _ => fI (mirF s) k' a b) (fun a b c h => key a b c h) (fun b c h => key0 b c h)
theorem facs_mir {s : ByteArray} (h : isO s = true) : (facs (mirF s)).length = (facs s).length := by
  have hn : 0 < s.size := by have := isO_4 h; omega
  have hz := mir_size s
  have e : (((facs (mirF s)).length : Nat) : Int) = (((facs s).length : Nat) : Int) := by
    rw [facs_count, facs_count, hz]
    have e1 : S s.size (nT s) = S s.size fun k => nT (mirF s) ((s.size - k) % s.size) := S_congr fun k hk => (turn_mir h hk).symm
    rw [e1]
    have r1 := S_rot (n := s.size) (f := fun k => nT (mirF s) (k % s.size)) (fun i => by rw [Nat.add_mod_right]) 1
    have r2 : S s.size (fun k => nT (mirF s) (k % s.size)) = S s.size (nT (mirF s)) := S_congr fun i hi => by rw [Nat.mod_eq_of_lt hi]
    rw [← r2, ← r1, S_rev]
    exact S_congr fun k hk => by congr 2; omega
  omega
end Go.Proofs.YtpfenoioeajkmaaDoor.L
end

section
set_option linter.unusedVariables false
set_option linter.unusedSimpArgs false
namespace Go.Proofs.YtpfenoioeajkmaaDoor.X
open Go.RowKit Go.Proofs.YtpfenoioeajkmaaDoorW.PrintWords Go.Proofs.YtpfenoioeajkmaaDoorW.PrintLast Go.Proofs.YtpfenoioeajkmaaDoorW.PrintMore Go.Proofs.YtpfenoioeajkmaaDoor.L
set_option maxHeartbeats 4000000 in
set_option maxRecDepth 100000 in
theorem Quarters_no (a s : ByteArray) (w : World) (ha : a.size ≤ 140737488351232) (hs : s.size ≤ 1000) (ht : ∀ w, Calls Tryd.prog 18 #[.string a] w fun e w' => e = .returned (.string s) ∧ Below w.heap.size w w') (h : isO s = false) (h' : isO a = false) :
    Calls Tryd.prog 9 #[.string a] w fun e w' => e = .returned (.bool true) ∧ Below w.heap.size w w' := by
  have HT := Lib.hid ht
  have HA := Lib.hid (fun w => PB.moulds_Mirror.calls s _ _ w (Mirror_no h hs))
  have HB := Lib.hid (fun w => PB.moulds_Quarter.calls s _ _ w (Quarter_no h hs))
  have HC := Lib.hid (fun w => PB.moulds_First.calls s _ _ w (First_no h hs))
  clear ht h hs h' ha
  go_enter Tryd.func9, Tryd.ntmps9
  go_wp2_with fail
  refine (HT.out _).mono ?_
  rintro e w1 ⟨rfl, hb1⟩
  have H1 := Lib.hid ((Below.refl w.heap.size w).trans (hb1.mono (Below.refl w.heap.size w).size))
  clear hb1
  go_wp2_with fail
  refine (HA.out _).mono ?_
  rintro e w2 ⟨rfl, hb2⟩
  have H2 := Lib.hid (H1.out.trans (hb2.mono H1.out.size))
  clear hb2
  go_wp2_with fail
  refine (HT.out _).mono ?_
  rintro e w3 ⟨rfl, hb3⟩
  have H3 := Lib.hid (H2.out.trans (hb3.mono H2.out.size))
  clear hb3
  go_wp2_with fail
  refine (HB.out _).mono ?_
  rintro e w4 ⟨rfl, hb4⟩
  have H4 := Lib.hid (H3.out.trans (hb4.mono H3.out.size))
  clear hb4
  go_wp2_with fail
  refine (HT.out _).mono ?_
  rintro e w5 ⟨rfl, hb5⟩
  have H5 := Lib.hid (H4.out.trans (hb5.mono H4.out.size))
  clear hb5
  go_wp2_with fail
  refine (HC.out _).mono ?_
  rintro e w6 ⟨rfl, hb6⟩
  have H6 := Lib.hid (H5.out.trans (hb6.mono H5.out.size))
  clear hb6
  go_wp2_with fail
  refine (awake_ok _).mono ?_
  rintro e w7 ⟨rfl, hb7⟩
  have H7 := Lib.hid (H6.out.trans (hb7.mono H6.out.size))
  clear hb7
  go_wp2
  go_ret
  exact ⟨rfl, H7.out⟩
structure Alike (A N : Int) (T : Bool) (t : ByteArray) : Prop where
  is : ∀ w, Calls Tryd.prog 24 #[.string t] w fun e w' => e = .returned (.bool true) ∧ Below w.heap.size w w'
  area : ∀ w, Calls Tryd.prog 39 #[.string t] w fun e w' => e = .returned (.tuple #[.int .i64 A, .int .i64 0]) ∧ Below w.heap.size w w'
  facs : ∀ w, Calls Tryd.prog 33 #[.string t] w fun e w' => e = .returned (.tuple #[.int .i64 N, .int .i64 0]) ∧ Below w.heap.size w w'
  tile : ∀ w, Calls Tryd.prog 30 #[.string t] w fun e w' => e = .returned (.tuple #[.bool T, .int .i64 0]) ∧ Below w.heap.size w w'
set_option maxHeartbeats 8000000 in
set_option maxRecDepth 100000 in
theorem Quarters_yes (s a b f : ByteArray) (q : Nat → ByteArray) (A N : Int) (T : Bool) (w : World) (h : isW s = true) (h1 : Alike A N T s) (h2 : Alike A N T a) (h3 : Alike A N T b) (hb : q 0 = b) (hf : q 3 = f)
    (hM : ∀ w, Calls Tryd.prog 26 #[.string s] w fun e w' => e = .returned (.tuple #[.string a, .int .i64 0]) ∧ Below w.heap.size w w')
    (hM2 : ∀ w, Calls Tryd.prog 26 #[.string a] w fun e w' => e = .returned (.tuple #[.string f, .int .i64 0]) ∧ Below w.heap.size w w')
    (hQ : ∀ w, Calls Tryd.prog 27 #[.string s] w fun e w' => e = .returned (.tuple #[.string b, .int .i64 0]) ∧ Below w.heap.size w w')
    (hQ2 : ∀ i, i < 3 → ∀ w, Calls Tryd.prog 27 #[.string (q i)] w fun e w' => e = .returned (.tuple #[.string (q (i + 1)), .int .i64 0]) ∧ Below w.heap.size w w')
    (hF : ∀ w, Calls Tryd.prog 22 #[.string s] w fun e w' => e = .returned (.tuple #[.string f, .int .i64 0]) ∧ Below w.heap.size w w') :
    Calls Tryd.prog 9 #[.string s] w fun e w' => e = .returned (.bool true) ∧ Below w.heap.size w w' := by
  have HT := Lib.hid (text_ok h)
  have HM := Lib.hid hM
  have HM2 := Lib.hid hM2
  have HQ := Lib.hid hQ
  have HQ2 := Lib.hid hQ2
  have HF := Lib.hid hF
  have HQB := Lib.hid hb
  have HQF := Lib.hid hf
  clear hM hM2 hQ hQ2 hF hb hf h
  go_enter Tryd.func9, Tryd.ntmps9
  go_wp2_with fail
  refine (HT.out _).mono ?_
  rintro e w1 ⟨rfl, hb1⟩
  have H1 := Lib.hid ((Below.refl w.heap.size w).trans (hb1.mono (Below.refl w.heap.size w).size))
  clear hb1
  go_wp2_with fail
  refine (HM.out _).mono ?_
  rintro e w2 ⟨rfl, hb2⟩
  have H2 := Lib.hid (H1.out.trans (hb2.mono H1.out.size))
  clear hb2
  go_wp2_with fail
  refine (HT.out _).mono ?_
  rintro e w3 ⟨rfl, hb3⟩
  have H3 := Lib.hid (H2.out.trans (hb3.mono H2.out.size))
  clear hb3
  go_wp2_with fail
  refine (HQ.out _).mono ?_
  rintro e w4 ⟨rfl, hb4⟩
  have H4 := Lib.hid (H3.out.trans (hb4.mono H3.out.size))
  clear hb4
  go_wp2_with fail
  refine (HT.out _).mono ?_
  rintro e w5 ⟨rfl, hb5⟩
  have H5 := Lib.hid (H4.out.trans (hb5.mono H4.out.size))
  clear hb5
  go_wp2_with fail
  refine (HF.out _).mono ?_
  rintro e w6 ⟨rfl, hb6⟩
  have H6 := Lib.hid (H5.out.trans (hb6.mono H5.out.size))
  clear hb6
  go_wp2_with fail
  refine (h1.is _).mono ?_
  rintro e w7 ⟨rfl, hb7⟩
  have H7 := Lib.hid (H6.out.trans (hb7.mono H6.out.size))
  clear hb7
  go_wp2_with fail
  refine (h2.is _).mono ?_
  rintro e w8 ⟨rfl, hb8⟩
  have H8 := Lib.hid (H7.out.trans (hb8.mono H7.out.size))
  clear hb8
  go_wp2_with fail
  refine (h3.is _).mono ?_
  rintro e w9 ⟨rfl, hb9⟩
  have H9 := Lib.hid (H8.out.trans (hb9.mono H8.out.size))
  clear hb9
  go_wp2_with fail
  refine (h1.area _).mono ?_
  rintro e w10 ⟨rfl, hb10⟩
  have H10 := Lib.hid (H9.out.trans (hb10.mono H9.out.size))
  clear hb10
  go_wp2_with fail
  refine (h1.facs _).mono ?_
  rintro e w11 ⟨rfl, hb11⟩
  have H11 := Lib.hid (H10.out.trans (hb11.mono H10.out.size))
  clear hb11
  go_wp2_with fail
  refine (h1.tile _).mono ?_
  rintro e w12 ⟨rfl, hb12⟩
  have H12 := Lib.hid (H11.out.trans (hb12.mono H11.out.size))
  clear hb12
  go_wp2_with fail
  obtain ⟨w13, B13, e13, f13, g13, b13, z13⟩ := blk_name (w := w12) (.cells #[.string a, .string b] 9)
  rw [← e13, f13]
  have H13 := Lib.hid (H12.out.trans (b13.mono H12.out.size))
  have HB := Lib.hid (Below.refl w13.heap.size w13)
  have G13 := Lib.hid g13
  clear e13 f13 g13 b13 z13 H1 H2 H3 H4 H5 H6 H7 H8 H9 H10 H11 H12
  go_loopw [107] (fun i wr => ∃ m : Nat, m ≤ 2 ∧ i = .int .i64 m ∧ Hid (Below w13.heap.size w13 wr)) (fun i _ => 2 - (intOf i).toNat)
  case atStart => exact ⟨0, by omega, rfl, HB⟩
  case round =>
    clear HB
    obtain ⟨m, hm, rfl, HB⟩ := hrel
    have hlt := (Array.getElem?_eq_some_iff.1 G13.out).1
    have g1 := (HB.out.block B13 hlt).trans G13.out
    have c0 := blk_at g1 0 rfl
    have c1 := blk_at g1 1 rfl
    clear hlt g1
    by_cases h0 : m = 0
    · subst h0
      go_wp2_with fail
      refine (h2.area _).mono ?_
      rintro e w2 ⟨rfl, hb2⟩
      have H2 := Lib.hid (HB.out.trans (hb2.mono HB.out.size))
      clear hb2
      go_wp2_with fail
      refine (h2.facs _).mono ?_
      rintro e w3 ⟨rfl, hb3⟩
      have H3 := Lib.hid (H2.out.trans (hb3.mono H2.out.size))
      clear hb3
      go_wp2_with fail
      refine (h2.tile _).mono ?_
      rintro e w4 ⟨rfl, hb4⟩
      have H4 := Lib.hid (H3.out.trans (hb4.mono H3.out.size))
      clear hb4
      go_wp2_with fail
      refine ⟨⟨1, by omega, rfl, H4⟩, by simp [intOf]⟩
    · by_cases h0' : m = 1
      · subst h0'
        go_wp2_with fail
        refine (h3.area _).mono ?_
        rintro e w2 ⟨rfl, hb2⟩
        have H2 := Lib.hid (HB.out.trans (hb2.mono HB.out.size))
        clear hb2
        go_wp2_with fail
        refine (h3.facs _).mono ?_
        rintro e w3 ⟨rfl, hb3⟩
        have H3 := Lib.hid (H2.out.trans (hb3.mono H2.out.size))
        clear hb3
        go_wp2_with fail
        refine (h3.tile _).mono ?_
        rintro e w4 ⟨rfl, hb4⟩
        have H4 := Lib.hid (H3.out.trans (hb4.mono H3.out.size))
        clear hb4
        go_wp2_with fail
        refine ⟨⟨2, by omega, rfl, H4⟩, by simp [intOf]⟩
      · obtain rfl : m = 2 := by omega
        clear c0 c1
        go_wp2_with fail
        refine (HM2.out _).mono ?_
        rintro e w14 ⟨rfl, hb14⟩
        have H14 := Lib.hid (H13.out.trans ((HB.out.trans (hb14.mono HB.out.size)).mono H13.out.size))
        clear hb14
        have HB14 := Lib.hid (Below.refl w14.heap.size w14)
        rw [← HQB.out]
        go_wp2_with fail
        go_loopw [164, 5] (fun i v wr => ∃ m : Nat, m ≤ 3 ∧ i = .int .i64 m ∧ v = .string (q m) ∧ Hid (Below w14.heap.size w14 wr)) (fun i _ _ => 3 - (intOf i).toNat)
        case atStart => exact ⟨0, by omega, rfl, rfl, HB14⟩
        case round =>
          clear HB14
          obtain ⟨m, hm, rfl, rfl, HB14⟩ := hrel
          by_cases hlt : m < 3
          · have hlt' : decide ((m : Int) < 3) = true := by simp; omega
            have HQ3 := Lib.hid (HQ2.out m hlt)
            go_wp2_with fail
            refine (HQ3.out _).mono ?_
            rintro e w15 ⟨rfl, hb15⟩
            have H15 := Lib.hid (HB14.out.trans (hb15.mono HB14.out.size))
            clear hb15
            go_wp2_with fail
            refine ⟨⟨m + 1, by omega, by go_num, rfl, H15⟩, by simp [intOf]; omega⟩
          · obtain rfl : m = 3 := by omega
            rw [HQF.out]
            go_wp2_with fail
            refine (awake_ok _).mono ?_
            rintro e w15 ⟨rfl, hb15⟩
            have H15 := Lib.hid (H14.out.trans ((HB14.out.trans (hb15.mono HB14.out.size)).mono H14.out.size))
            clear hb15
            go_wp2
            go_ret
            exact ⟨rfl, H15.out⟩
theorem alike_of {t : ByteArray} (h : isO t = true) {D : Int} {N : Nat} (hd : dbl t t.size = D) (hN : (facs t).length = N) : Alike (wrap64 (Int.tdiv D 2)) N (decide (0 < (N : Int))) t where
  is w := by
    have := ris_calls t (by have := isW_le (isO_W h); omega) w
    rwa [h] at this
  area w := PB.moulds_Area.calls t _ _ w (by
    have h24 := isW_le (isO_W h)
    unfold PB.moulds_Area.f moulds_double.f
    rw [Is_f (by omega), h, if_pos (by omega), hd]
    rfl)
  facs w := by
    have := Factors_yes t h w
    rwa [hN] at this
  tile w := by
    have := Tile_yes t h w
    rwa [hN] at this
theorem first_O {t : ByteArray} (h : isO t = true) {n : Nat} (hn : t.size = n) : ∃ k, k < n ∧ firstTo t n = rotF t k ∧ isO (firstTo t n) = true ∧ (firstTo t n).size = n ∧ dbl (firstTo t n) n = dbl t n ∧ (facs (firstTo t n)).length = (facs t).length := by
  subst hn
  obtain ⟨k, hk, e⟩ := first_one t (by have := isO_4 h; omega) t.size (Nat.le_refl _)
  obtain ⟨a, b⟩ := rot_O h hk
  exact ⟨k, hk, e, by rw [e]; exact a, by rw [e]; exact rot_size t (Nat.le_of_lt hk), by rw [e]; exact b, by rw [e]; exact facs_rot t hk⟩
def quaN (s : ByteArray) : Nat → ByteArray
  | 0 => s
  | i + 1 => quaF (quaN s i)
theorem quaN_size (s : ByteArray) : ∀ i, (quaN s i).size = s.size
  | 0 => rfl
  | i + 1 => by rw [quaN, qua_size, quaN_size s i]
theorem quaN_O {s : ByteArray} (h : isO s = true) : ∀ i, isO (quaN s i) = true
  | 0 => h
  | i + 1 => (qua_O (quaN_O h i)).1
theorem quarter_first {t : ByteArray} (h : isO t = true) {n : Nat} (hn : t.size = n) (w : World) : Calls Tryd.prog 27 #[.string (firstTo t n)] w fun e w' => e = .returned (.tuple #[.string (firstTo (quaF t) n), .int .i64 0]) ∧ Below w.heap.size w w' := by
  obtain ⟨k, hk, e, hO, hs, -, -⟩ := first_O h hn
  refine PB.moulds_Quarter.calls _ _ _ w ?_
  rw [Quarter_O hO, hs, e, qua_rot (isO_W h) (by omega), ← hn]
  have := first_rot (quaF t) (r := k) (by rw [qua_size]; omega)
  rw [qua_size] at this
  rw [this]
theorem mirror_first {t : ByteArray} (h : isO t = true) {n : Nat} (hn : t.size = n) (w : World) : Calls Tryd.prog 26 #[.string (firstTo t n)] w fun e w' => e = .returned (.tuple #[.string (firstTo (mirF t) n), .int .i64 0]) ∧ Below w.heap.size w w' := by
  obtain ⟨k, hk, e, hO, hs, -, -⟩ := first_O h hn
  refine PB.moulds_Mirror.calls _ _ _ w ?_
  rw [Mirror_O hO, hs, e, mir_rot (isO_W h) (by omega), ← hn]
  have := first_rot (mirF t) (r := (t.size - k) % t.size) (by rw [mir_size]; exact Nat.mod_lt _ (by omega))
  rw [mir_size] at this
  rw [this]
theorem MouldsQuarters.calls (s : ByteArray) (w : World) (hs : s.size ≤ 140737488351232) :
    Calls Tryd.prog 9 #[.string s] w fun e w' => e = .returned (.bool true) ∧ Below w.heap.size w w' := by
  cases h : isO s with
  | false => exact Quarters_no s (txt s) w hs (by have := txt_le s; omega) (text_any s) (by rw [txt_O]; exact h) h
  | true =>
    have hw := isO_W h
    obtain ⟨mO, md⟩ := mir_O h
    obtain ⟨qO, qd⟩ := qua_O h
    obtain ⟨-, -, -, aO, asz, ad, af⟩ := first_O mO (mir_size s)
    obtain ⟨-, -, -, bO, bs, bd, bf⟩ := first_O qO (qua_size s)
    refine Quarters_yes s (firstTo (mirF s) s.size) (firstTo (quaF s) s.size) (firstTo s s.size) (fun i => firstTo (quaN s (i + 1)) s.size) _ _ _ w hw (alike_of h rfl rfl)
      (alike_of aO (by rw [asz, ad, md]) (by rw [af, facs_mir h])) (alike_of bO (by rw [bs, bd, qd]) (by rw [bf, facs_qua h])) rfl ?_
      (fun w => PB.moulds_Mirror.calls s _ _ w (Mirror_O h)) ?_ (fun w => PB.moulds_Quarter.calls s _ _ w (Quarter_O h)) (fun i hi w => quarter_first (quaN_O h (i + 1)) (quaN_size s _) w) (fun w => PB.moulds_First.calls s _ _ w (First_O h))
    · show firstTo (quaF (quaF (quaF (quaF s)))) s.size = _
      rw [qua_four hw]
    · intro w
      have := mirror_first mO (mir_size s) w
      rwa [mir_mir hw] at this
end Go.Proofs.YtpfenoioeajkmaaDoor.X
end
