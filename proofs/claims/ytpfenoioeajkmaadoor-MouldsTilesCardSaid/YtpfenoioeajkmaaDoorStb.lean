/- Texts of this claim, merged by a program (wip/tools/shake.py); what nothing names is left out. -/
import Derived.RangeFuncFrom
import Derived.Test.YtpfenoioeajkmaaDoorSta
section
set_option linter.unusedVariables false
set_option linter.unusedSimpArgs false
namespace Go.Proofs.YtpfenoioeajkmaaDoor.X
open Go.RowKit Go.Proofs.YtpfenoioeajkmaaDoorW.PrintWords Go.Proofs.YtpfenoioeajkmaaDoorW.PrintLast Go.Proofs.YtpfenoioeajkmaaDoorW.PrintMore Go.Proofs.YtpfenoioeajkmaaDoor.L
abbrev Fct := Nat × Nat × Nat × Nat
def encF (f : Fct) : Value := .agg #[.int .i64 f.1, .int .i64 f.2.1, .int .i64 f.2.2.1, .int .i64 f.2.2.2]
def fT (t : ByteArray) (h a b : Nat) : Bool := decide (t.extract h t.size = backF (t.extract 0 a) ++ backF (t.extract a (a + b)) ++ backF (t.extract (a + b) h))
def fB (s : ByteArray) (k a : Nat) : Nat → List Fct
  | 0 => []
  | m + 1 => fB s k a m ++ if fT (rotF s k) (s.size / 2) a (m + 1) then [(k, a, m + 1, s.size / 2 - a - (m + 1))] else []
def fA (s : ByteArray) (k : Nat) : Nat → List Fct
  | 0 => []
  | m + 1 => fA s k m ++ fB s k (m + 1) (s.size / 2 - (m + 1))
def fK (s : ByteArray) : Nat → List Fct
  | 0 => []
  | k + 1 => fK s k ++ fA s k (s.size / 2 - 1)
def facs (s : ByteArray) : List Fct := fK s s.size
theorem fB_pre (s : ByteArray) (k a : Nat) : ∀ {m m' : Nat}, m ≤ m' → fB s k a m <+: fB s k a m'
  | m, 0, h => by obtain rfl : m = 0 := by omega
                  exact List.prefix_refl _
  | m, m' + 1, h => by
    by_cases e : m = m' + 1
    · rw [e]; exact List.prefix_refl _
    · exact (fB_pre s k a (by omega)).trans (List.prefix_append _ _)
theorem fA_pre (s : ByteArray) (k : Nat) : ∀ {m m' : Nat}, m ≤ m' → fA s k m <+: fA s k m'
  | m, 0, h => by obtain rfl : m = 0 := by omega
                  exact List.prefix_refl _
  | m, m' + 1, h => by
    by_cases e : m = m' + 1
    · rw [e]; exact List.prefix_refl _
    · exact (fA_pre s k (by omega)).trans (List.prefix_append _ _)
theorem fK_pre (s : ByteArray) : ∀ {m m' : Nat}, m ≤ m' → fK s m <+: fK s m'
  | m, 0, h => by obtain rfl : m = 0 := by omega
                  exact List.prefix_refl _
  | m, m' + 1, h => by
    by_cases e : m = m' + 1
    · rw [e]; exact List.prefix_refl _
    · exact (fK_pre s (by omega)).trans (List.prefix_append _ _)
theorem pre_app {α : Type} (l : List α) {x y : List α} (h : x <+: y) : l ++ x <+: l ++ y := by
  obtain ⟨z, rfl⟩ := h
  exact ⟨z, by rw [List.append_assoc]⟩
theorem all_pre {s : ByteArray} {k m b : Nat} (hk : k < s.size) (hm : m + 1 ≤ s.size / 2 - 1) (hb : b ≤ s.size / 2 - (m + 1)) : fK s k ++ fA s k m ++ fB s k (m + 1) b <+: facs s := by
  have h1 : fA s k m ++ fB s k (m + 1) b <+: fA s k (m + 1) := pre_app _ (fB_pre s k (m + 1) hb)
  have h2 : fK s k ++ (fA s k m ++ fB s k (m + 1) b) <+: fK s (k + 1) := pre_app _ (h1.trans (fA_pre s k hm))
  rw [List.append_assoc]
  exact h2.trans (fK_pre s (by omega))
theorem fB_step (s : ByteArray) (k a : Nat) {b : Nat} (hb : 1 ≤ b) : fB s k a b = fB s k a (b - 1) ++ if fT (rotF s k) (s.size / 2) a b then [(k, a, b, s.size / 2 - a - b)] else [] := by
  obtain ⟨m, rfl⟩ : ∃ m, b = m + 1 := ⟨b - 1, by omega⟩
  rfl
theorem fA_step (s : ByteArray) (k : Nat) {a : Nat} (ha : 1 ≤ a) : fA s k a = fA s k (a - 1) ++ fB s k a (s.size / 2 - a) := by
  obtain ⟨m, rfl⟩ : ∃ m, a = m + 1 := ⟨a - 1, by omega⟩
  rfl
theorem yes_step {s t : ByteArray} {k a b h : Nat} (hf : fT t h a b = true) (hrt : rotF s k = t) (hh : s.size / 2 = h) (hb : 1 ≤ b) :
    fK s k ++ fA s k (a - 1) ++ fB s k a (b - 1) ++ [(k, a, b, h - a - b)] = fK s k ++ fA s k (a - 1) ++ fB s k a (b + 1 - 1) := by
  rw [show b + 1 - 1 = b by omega, fB_step s k a hb, hrt, hh, if_pos hf, List.append_assoc]
theorem no_step {s t : ByteArray} {k a b h : Nat} (hf : fT t h a b = false) (hrt : rotF s k = t) (hh : s.size / 2 = h) (hb : 1 ≤ b) :
    fK s k ++ fA s k (a - 1) ++ fB s k a (b - 1) = fK s k ++ fA s k (a - 1) ++ fB s k a (b + 1 - 1) := by
  rw [show b + 1 - 1 = b by omega, fB_step s k a hb, hrt, hh, hf, if_neg (by decide), List.append_nil]
theorem row_step {s : ByteArray} {k a b c h : Nat} (hh : s.size / 2 = h) (ha : 1 ≤ a) (hb : 1 ≤ b) (hb2 : b ≤ h - a + 1) (hc : a + b = c) (hn : ¬ c ≤ h) (hah : a < h) :
    fK s k ++ fA s k (a - 1) ++ fB s k a (b - 1) = fK s k ++ fA s k (a + 1 - 1) := by
  rw [show a + 1 - 1 = a by omega, fA_step s k ha, hh, show b - 1 = h - a by omega, List.append_assoc]
theorem yes_pre {s t : ByteArray} {k a b c h : Nat} (hf : fT t h a b = true) (hrt : rotF s k = t) (hh : s.size / 2 = h) (ha : 1 ≤ a) (hb : 1 ≤ b) (hc : a + b = c) (hn : c ≤ h) (hah : a < h) (hk : k < s.size) :
    fK s k ++ fA s k (a - 1) ++ fB s k a (b - 1) ++ [(k, a, b, h - a - b)] <+: facs s := by
  rw [yes_step hf hrt hh hb, show b + 1 - 1 = b by omega]
  obtain ⟨m, rfl⟩ : ∃ m, a = m + 1 := ⟨a - 1, by omega⟩
  rw [show m + 1 - 1 = m by omega]
  exact all_pre hk (by rw [hh]; omega) (by rw [hh]; omega)
theorem yes_len {s t : ByteArray} {k a b c h : Nat} (hf : fT t h a b = true) (hrt : rotF s k = t) (hh : s.size / 2 = h) (ha : 1 ≤ a) (hb : 1 ≤ b) (hc : a + b = c) (hn : c ≤ h) (hah : a < h) (hk : k < s.size) :
    (fK s k ++ fA s k (a - 1) ++ fB s k a (b - 1)).length < (facs s).length := by
  have := (yes_pre hf hrt hh ha hb hc hn hah hk).length_le
  rw [List.length_append] at this
  simp only [List.length_singleton] at this
  omega
theorem wrap_succ {a : Nat} (h : a ≤ 100) : wrap64 ((a : Int) + 1) = ((a + 1 : Nat) : Int) := by unfold wrap64; omega
theorem beq_lists {a b : ByteArray} {r : Bool} (h : decide (a = b) = r) : (a.toList = b.toList) = (r = true) := by
  rw [ByteArray.toList_eq, ByteArray.toList_eq]
  cases r with
  | true =>
    have := of_decide_eq_true h
    simp [this]
  | false =>
    simp only [Bool.false_eq_true, eq_iff_iff, iff_false]
    intro q
    have e : a = b := by
      cases a
      cases b
      simp only [ByteArray.mk.injEq]
      exact Array.toList_inj.1 q
    exact of_decide_eq_false h e
theorem grown_of_below {W W' : World} (h : Below W.heap.size W W') : W.grownBy W' none := ⟨h.os, h.tape, h.output, h.size, fun k hk _ => h.block k hk⟩
def KpF (Bn : Nat) (s : ByteArray) (A B : World) : Prop := (A.cell? ⟨Bn, 0, none⟩ = some (.string s) → B.cell? ⟨Bn, 0, none⟩ = some (.string s)) ∧ KeepsWalks A B
theorem rot_size (s : ByteArray) {k : Nat} (hk : k ≤ s.size) : (rotF s k).size = s.size := by
  unfold rotF
  rw [ByteArray.size_append, ByteArray.size_extract, ByteArray.size_extract]
  omega
theorem bt_app (a b : ByteArray) (i : Nat) (hi : i < (a ++ b).size) : bt (a ++ b) (i : Int) = if i < a.size then bt a (i : Int) else bt b ((i - a.size : Nat) : Int) := by
  rw [← bt_at (a ++ b) (i : Int) (by simpa using hi)]
  by_cases h : i < a.size
  · rw [if_pos h, ← bt_at a (i : Int) (by simpa using h)]
    have : (a ++ b)[i]'hi = a[i]'h := ByteArray.getElem_append_left h
    show (((a ++ b)[i]'hi).toNat : Int) = ((a[i]'h).toNat : Int)
    rw [this]
  · have hb : i - a.size < b.size := by rw [ByteArray.size_append] at hi; omega
    rw [if_neg h, ← bt_at b ((i - a.size : Nat) : Int) (by simpa using hb)]
    have : (a ++ b)[i]'hi = b[i - a.size]'hb := ByteArray.getElem_append_right (by omega)
    show (((a ++ b)[i]'hi).toNat : Int) = ((b[i - a.size]'hb).toNat : Int)
    rw [this]
theorem rot_bt (s : ByteArray) {k : Nat} (hk : k ≤ s.size) (i : Nat) (hi : i < s.size) : bt (rotF s k) i = bt s (if i < s.size - k then k + i else i - (s.size - k) : Nat) := by
  have h := rot_size s hk
  unfold rotF at h ⊢
  have h1 : (s.extract k s.size).size = s.size - k := by rw [ByteArray.size_extract]; omega
  rw [bt_app _ _ i (by rw [h]; exact hi), h1]
  by_cases hlt : i < s.size - k
  · rw [if_pos hlt, if_pos hlt, bt_cut s k s.size i (by omega) (Nat.le_refl _)]
  · rw [if_neg hlt, if_neg hlt, bt_cut s 0 k (i - (s.size - k)) (by omega) hk, Nat.zero_add]
theorem rot_W {s : ByteArray} (h : isW s = true) {k : Nat} (hk : k ≤ s.size) : isW (rotF s k) = true := by
  have hs := rot_size s hk
  rw [isW_iff] at h ⊢
  refine ⟨by rw [hs]; exact h.1, fun i hi => ?_⟩
  rw [hs] at hi
  rw [rot_bt s hk i hi]
  refine h.2 _ ?_
  split <;> omega
theorem back_W' {s : ByteArray} (h : isW s = true) (w : World) : Calls Tryd.prog 53 #[.string s] w fun e w' => e = .returned (.string (backF s)) ∧ Below w.heap.size w w' := moulds_back.calls s _ w (back_f h)
set_option maxHeartbeats 8000000 in
set_option maxRecDepth 100000 in
theorem factors1_in (n l Bn : Nat) (s : ByteArray) (hw : isW s = true) (J Jx : List Fct → World → Prop) (W : World) (hJ : AbidesFrom W.heap.size J)
    (hY : ∀ pre x W1, J pre W1 → pre.length < (facs s).length → YieldAt Fence.wide (n - 1) Tryd.prog l #[encF x] W1 fun e W' => (e = .returned (.bool true) ∧ J (pre ++ [x]) W' ∧ KpF Bn s W1 W') ∨ (e = .returned (.bool false) ∧ Jx (pre ++ [x]) W'))
    (hc : W.cell? ⟨Bn, 0, none⟩ = some (.string s)) (h0 : J [] W) :
    Calls Tryd.prog 77 #[.func (.yield l) #[] #[], .pointer (some ⟨Bn, 0, none⟩)] W fun e W' => (∃ v, e = .returned v) ∧ ((∃ xs, xs = facs s ∧ J xs W') ∨ (∃ pre, pre <+: facs s ∧ Jx pre W')) := by
  have hs24 := isW_le hw
  have hBnW : Bn < W.heap.size := World.block_lt_of_cell? _ _ hc
  have HW := Lib.hid hw
  have HA := Lib.hid (ascii_of ((isW_iff s).1 hw).2)
  have HJ := Lib.hid hJ
  have HY := Lib.hid hY
  clear hw hJ hY
  go_enter Tryd.func77, Tryd.ntmps77
  go_wp2_with fail
  have hit : (W.iter s 0).heap[W.heap.size]? = some (.stringIter s 0) := World.iter_heap W s 0
  have hbl : Below W.heap.size W (W.iter s 0) := (Below.refl _ _).alloc (Nat.le_refl _) _
  have hc1 : (W.iter s 0).cell? ⟨Bn, 0, none⟩ = some (.string s) := (hbl.cell (p := ⟨Bn, 0, none⟩) (World.block_lt_of_cell? _ _ hc)).trans hc
  have h01 := HJ.out [] W (W.iter s 0) none h0 (grown_of_below hbl) (fun r e => by cases e)
  have hsz1 := hbl.size
  generalize W.iter s 0 = w1 at hit hbl hc1 h01 hsz1 ⊢
  have HI := Lib.hid hit
  have HJ0 := Lib.hid h01
  have HC := Lib.hid hc1
  have HZ := Lib.hid hsz1
  generalize hB : W.heap.size = B at *
  clear hit hbl hc1 h01 hc h0 hsz1
  have hq : ((s.size : Int).tdiv 2) = ((s.size / 2 : Nat) : Int) := Int.ofNat_tdiv _ 2
  have hq2 : ((s.size : Int) / 2) = ((s.size / 2 : Nat) : Int) := by omega
  have hhs : s.size / 2 ≤ s.size := by omega
  generalize hh : s.size / 2 = h at *
  have HH := Lib.hid hh
  clear hh
  (try simp only [hq])
  (try simp only [hq2])
  clear hq hq2
  go_loopw [4] (fun _ wr => ∃ k : Nat, k ≤ s.size ∧ Hid (wr.heap[B]? = some (.stringIter s k)) ∧ Hid (wr.cell? ⟨Bn, 0, none⟩ = some (.string s)) ∧ Hid (J (fK s k) wr) ∧ Hid (B ≤ wr.heap.size)) (fun _ wr => match wr.heap[B]? with | some (.stringIter _ p) => s.size - p | _ => 0)
  case atStart => exact ⟨0, by omega, HI, HC, HJ0, HZ⟩
  case round =>
    clear HI HC HJ0 HZ
    obtain ⟨k, hk, HI, HC, HJ0, HZ⟩ := hrel
    have HI0 := HI
    by_cases hlt : k < s.size
    · have hnx := fun ty => run_next_at (P := Tryd.prog) HI.out hlt (ascii_at HA.out hlt) ty
      have hit2 : (putObj wr B (.stringIter s (k + 1))).heap[B]? = some (.stringIter s (k + 1)) := putObj_at HI.out
      have hg2 : wr.grownBy (putObj wr B (.stringIter s (k + 1))) (some B) := Go.grownBy_putObj' wr B (.stringIter s (k + 1))
      have hc2 := cell_grown hg2 HC.out (by simp; omega)
      have hJ2 := HJ.out _ _ _ _ HJ0.out hg2 (fun r e => by cases e; exact ⟨Nat.le_refl _, _, HI.out, rfl⟩)
      have HSZ := Lib.hid (show B ≤ (putObj wr B (.stringIter s (k + 1))).heap.size from Nat.le_trans HZ.out hg2.size)
      go_wp2_with fail
      clear hnx
      generalize putObj wr B (.stringIter s (k + 1)) = w2 at hit2 hc2 hJ2 HSZ ⊢
      clear hg2
      have HI2 := Lib.hid hit2
      have HC2 := Lib.hid hc2
      have HJ2 := Lib.hid hJ2
      clear hit2 hJ2 HI HC HJ0 HZ
      generalize hrt : rotF s k = t at *
      have hrt' : s.extract k s.size ++ s.extract 0 k = t := hrt
      have hts : t.size = s.size := by rw [← hrt]; exact rot_size s hk
      have htw : isW t = true := by rw [← hrt]; exact rot_W HW.out hk
      have HT := Lib.hid htw
      have HRT := Lib.hid hrt
      clear hrt htw
      have hsk : ¬ ((k : Int) < 0) := by omega
      have hsz : (9223372036854775807 < s.size) = False := by simp; omega
      refine start_ (n := 8) (S := fun w' => w'.cell? ⟨Bn, 0, none⟩ = some (.string s) ∧ True) (ds := []) #[false, false, false, false, false, false, false, false] (by kernel_rfl) rfl rfl ⟨hc2, trivial⟩ (fun hHeld => ?_)
      refine take_ (i := 0) (N := (some 16)) (v := ?_) (a' := ?_) #[true, false, false, false, false, false, false, false] rfl rfl (by kernel_rfl) (fun _ _ _ h => h) (Or.inl ⟨by rfl, ?_⟩) hHeld ?_ ?_
      rotate_left
      · rintro w' ⟨s0, s1⟩; go_simp; first | done | with_reducible rfl
      rotate_left
      · simp only [Act.put, List.setIfInBounds_toArray, List.set_cons_zero, List.set_cons_succ, i64_w, i32_w]; rfl
      refine pure_ (i := 1) (N := (some 17)) (v := ?_) (a' := ?_) #[true, true, false, false, false, false, false, false] rfl rfl (by kernel_rfl) (fun _ _ _ h => h) (Or.inl ⟨by rfl, ?_⟩) ?_ ?_
      rotate_left
      · intro w'; go_simp; first | done | with_reducible rfl
      rotate_left
      · simp only [Act.put, List.setIfInBounds_toArray, List.set_cons_zero, List.set_cons_succ, i64_w, i32_w]; rfl
      refine pure_ (i := 2) (N := (some 18)) (v := ?_) (a' := ?_) #[true, true, true, false, false, false, false, false] rfl rfl (by kernel_rfl) (fun _ _ _ h => h) (Or.inl ⟨by rfl, ?_⟩) ?_ ?_
      rotate_left
      · intro w'; go_simp; first | done | with_reducible rfl
      rotate_left
      · simp only [Act.put, List.setIfInBounds_toArray, List.set_cons_zero, List.set_cons_succ, i64_w, i32_w]; rfl
      refine take_ (i := 3) (N := (some 19)) (v := ?_) (a' := ?_) #[true, true, true, true, false, false, false, false] rfl rfl (by kernel_rfl) (fun _ _ _ h => h) (Or.inl ⟨by rfl, ?_⟩) hHeld ?_ ?_
      rotate_left
      · rintro w' ⟨s0, s1⟩; go_simp; first | done | with_reducible rfl
      rotate_left
      · simp only [Act.put, List.setIfInBounds_toArray, List.set_cons_zero, List.set_cons_succ, i64_w, i32_w]; rfl
      refine pure_ (i := 4) (N := (some 20)) (v := ?_) (a' := ?_) #[true, true, true, true, true, false, false, false] rfl rfl (by kernel_rfl) (fun _ _ _ h => h) (Or.inl ⟨by rfl, ?_⟩) ?_ ?_
      rotate_left
      · intro w'; go_simp; first | done | with_reducible rfl
      rotate_left
      · simp only [Act.put, List.setIfInBounds_toArray, List.set_cons_zero, List.set_cons_succ, i64_w, i32_w]; rfl
      refine pure_ (i := 5) (N := (some 21)) (v := ?_) (a' := ?_) #[true, true, true, true, true, true, false, false] rfl rfl (by kernel_rfl) (fun _ _ _ h => h) (Or.inl ⟨by rfl, ?_⟩) ?_ ?_
      rotate_left
      · intro w'; go_simp; first | done | with_reducible rfl
      rotate_left
      · simp only [Act.put, List.setIfInBounds_toArray, List.set_cons_zero, List.set_cons_succ, i64_w, i32_w]; rfl
      refine pure_ (i := 6) (N := (some 22)) (v := ?_) (a' := ?_) #[true, true, true, true, true, true, true, false] rfl rfl (by kernel_rfl) (fun _ _ _ h => h) (Or.inl ⟨by rfl, ?_⟩) ?_ ?_
      rotate_left
      · intro w'; go_simp; first | done | with_reducible rfl
      rotate_left
      · simp only [Act.put, List.setIfInBounds_toArray, List.set_cons_zero, List.set_cons_succ, i64_w, i32_w]; rfl
      refine pure_ (i := 7) (N := (some 5)) (v := ?_) (a' := ?_) #[true, true, true, true, true, true, true, true] rfl rfl (by kernel_rfl) (fun _ _ _ h => h) (Or.inl ⟨by rfl, ?_⟩) ?_ ?_
      rotate_left
      · intro w'; go_simp; first | done | with_reducible rfl
      rotate_left
      · simp only [Act.put, List.setIfInBounds_toArray, List.set_cons_zero, List.set_cons_succ, i64_w, i32_w]; rfl
      refine done_ (by kernel_rfl) ?_
      clear hHeld hrt' hsk hc2 hsz
      have HTS := Lib.hid hts
      have HJ2 := Lib.hid (HJ.out _ _ _ _ HJ2.out (grown_of_below (Below.refl w2.heap.size w2).drew) (fun r e => by cases e))
      go_wp2_with fail
      go_loopw [6] (fun v wr => ∃ a : Nat, 1 ≤ a ∧ (a ≤ h ∨ a = 1) ∧ v = .int .i64 a ∧ Hid (wr.heap[B]? = some (.stringIter s (k + 1))) ∧ Hid (wr.cell? ⟨Bn, 0, none⟩ = some (.string s)) ∧ Hid (J (fK s k ++ fA s k (a - 1)) wr) ∧ Hid (B ≤ wr.heap.size)) (fun v _ => h + 1 - (intOf v).toNat)
      case atStart => exact ⟨1, by omega, by omega, rfl, HI2, HC2, by rw [show (1 - 1 : Nat) = 0 by rfl, fA, List.append_nil]; exact HJ2, HSZ⟩
      case round =>
        clear HI2 HC2 HJ2 HSZ
        obtain ⟨a, ha1, ha2, rfl, HI2, HC2, HJ2, HSZ⟩ := hrel
        by_cases hah : a < h
        · go_wp2_with fail
          go_loopw [7] (fun v wr => ∃ b : Nat, 1 ≤ b ∧ b ≤ h - a + 1 ∧ v = .int .i64 b ∧ Hid (wr.heap[B]? = some (.stringIter s (k + 1))) ∧ Hid (wr.cell? ⟨Bn, 0, none⟩ = some (.string s)) ∧ Hid (J (fK s k ++ fA s k (a - 1) ++ fB s k a (b - 1)) wr) ∧ Hid (B ≤ wr.heap.size)) (fun v _ => h + 1 - (intOf v).toNat)
          case atStart => exact ⟨1, by omega, by omega, rfl, HI2, HC2, by rw [show (1 - 1 : Nat) = 0 by rfl, fB, List.append_nil]; exact HJ2, HSZ⟩
          case round =>
            clear HI2 HC2 HJ2 HSZ
            obtain ⟨b, hb1, hb2, rfl, HI2, HC2, HJ2, HSZ⟩ := hrel
            have hab : wrap64 ((a : Int) + (b : Int)) = ((a + b : Nat) : Int) := by unfold wrap64; omega
            have hac : a ≤ a + b := by omega
            have HQ := Lib.hid (And.intro hb1 hb2)
            generalize hcc : a + b = c at hab hac
            have HCC := Lib.hid hcc
            have has : a ≤ s.size := Nat.le_trans (Nat.le_of_lt hah) hhs
            clear hcc hb1 hb2
            by_cases hbh : c ≤ h
            · have hcs : c ≤ s.size := Nat.le_trans hbh hhs
              go_wp2_with fail
              generalize hX : backF (t.extract 0 a) = X
              generalize hY : backF (t.extract a c) = Y
              generalize hZ : backF (t.extract c h) = Z
              have hXs : X.size ≤ 24 := by rw [← hX, back_size, ByteArray.size_extract]; omega
              have hYs : Y.size ≤ 24 := by rw [← hY, back_size, ByteArray.size_extract]; omega
              have hZs : Z.size ≤ 24 := by rw [← hZ, back_size, ByteArray.size_extract]; omega
              have hz1 : (9223372036854775807 < X.size + Y.size) = False := by simp; omega
              have hz2 : (9223372036854775807 < X.size + Y.size + Z.size) = False := by simp; omega
              have HX := Lib.hid hX
              have HYY := Lib.hid hY
              have HZZ := Lib.hid hZ
              clear hX hY hZ hXs hYs hZs
              have hts := HTS.out
              have hfc : wrap64 (wrap64 ((h : Int) - a) - b) = ((h - a - b : Nat) : Int) := by have := HQ.out; have := HCC.out; unfold wrap64; omega
              refine istart_ (n := 38) n #[false, false, false, false, false, false, false, false, false, false, false, false, false, false, false, false, false, false, false, false, false, false, false, false, false, false, false, false, false, false, false, false, false, false, false, false, false, false] (by kernel_rfl) rfl rfl ?_
              refine ipure_ (i := 0) (N := (some 35)) (v := ?_) (a' := ?_) #[true, false, false, false, false, false, false, false, false, false, false, false, false, false, false, false, false, false, false, false, false, false, false, false, false, false, false, false, false, false, false, false, false, false, false, false, false, false] rfl rfl (by kernel_rfl) (fun _ _ _ h => h) ⟨Or.inl ⟨by rfl, ?_⟩, fun _ => rfl⟩ ?_ ?_
              rotate_left
              · intro w'; go_simp; first | done | with_reducible rfl
              rotate_left
              · simp only [Act.put, List.setIfInBounds_toArray, List.set_cons_zero, List.set_cons_succ, i64_w, i32_w]; rfl
              refine ipure_ (i := 1) (N := (some 36)) (v := ?_) (a' := ?_) #[true, true, false, false, false, false, false, false, false, false, false, false, false, false, false, false, false, false, false, false, false, false, false, false, false, false, false, false, false, false, false, false, false, false, false, false, false, false] rfl rfl (by kernel_rfl) (fun _ _ _ h => h) ⟨Or.inl ⟨by rfl, ?_⟩, fun _ => rfl⟩ ?_ ?_
              rotate_left
              · intro w'; go_simp; first | done | with_reducible rfl
              rotate_left
              · simp only [Act.put, List.setIfInBounds_toArray, List.set_cons_zero, List.set_cons_succ, i64_w, i32_w]; rfl
              refine ipure_ (i := 2) (N := (some 37)) (v := ?_) (a' := ?_) #[true, true, true, false, false, false, false, false, false, false, false, false, false, false, false, false, false, false, false, false, false, false, false, false, false, false, false, false, false, false, false, false, false, false, false, false, false, false] rfl rfl (by kernel_rfl) (fun _ _ _ h => h) ⟨Or.inl ⟨by rfl, ?_⟩, fun _ => rfl⟩ ?_ ?_
              rotate_left
              · intro w'; go_simp; first | done | with_reducible rfl
              rotate_left
              · simp only [Act.put, List.setIfInBounds_toArray, List.set_cons_zero, List.set_cons_succ, i64_w, i32_w]; rfl
              refine ipure_ (i := 3) (N := (some 38)) (v := ?_) (a' := ?_) #[true, true, true, true, false, false, false, false, false, false, false, false, false, false, false, false, false, false, false, false, false, false, false, false, false, false, false, false, false, false, false, false, false, false, false, false, false, false] rfl rfl (by kernel_rfl) (fun _ _ _ h => h) ⟨Or.inl ⟨by rfl, ?_⟩, fun _ => rfl⟩ ?_ ?_
              rotate_left
              · intro w'; go_simp; first | done | with_reducible rfl
              rotate_left
              · simp only [Act.put, List.setIfInBounds_toArray, List.set_cons_zero, List.set_cons_succ, i64_w, i32_w]; rfl
              refine ipure_ (i := 4) (N := (some 39)) (v := ?_) (a' := ?_) #[true, true, true, true, true, false, false, false, false, false, false, false, false, false, false, false, false, false, false, false, false, false, false, false, false, false, false, false, false, false, false, false, false, false, false, false, false, false] rfl rfl (by kernel_rfl) (fun _ _ _ h => h) ⟨Or.inl ⟨by rfl, ?_⟩, fun _ => rfl⟩ ?_ ?_
              rotate_left
              · intro w'; go_simp; first | done | with_reducible rfl
              rotate_left
              · simp only [Act.put, List.setIfInBounds_toArray, List.set_cons_zero, List.set_cons_succ, i64_w, i32_w]; rfl
              refine ipure_ (i := 5) (N := (some 40)) (v := ?_) (a' := ?_) #[true, true, true, true, true, true, false, false, false, false, false, false, false, false, false, false, false, false, false, false, false, false, false, false, false, false, false, false, false, false, false, false, false, false, false, false, false, false] rfl rfl (by kernel_rfl) (fun _ _ _ h => h) ⟨Or.inl ⟨by rfl, ?_⟩, fun _ => rfl⟩ ?_ ?_
              rotate_left
              · intro w'; go_simp; first | done | with_reducible rfl
              rotate_left
              · simp only [Act.put, List.setIfInBounds_toArray, List.set_cons_zero, List.set_cons_succ, i64_w, i32_w]; rfl
              refine ipure_ (i := 7) (N := (some 42)) (v := ?_) (a' := ?_) #[true, true, true, true, true, true, false, true, false, false, false, false, false, false, false, false, false, false, false, false, false, false, false, false, false, false, false, false, false, false, false, false, false, false, false, false, false, false] rfl rfl (by kernel_rfl) (fun _ _ _ h => h) ⟨Or.inl ⟨by rfl, ?_⟩, fun _ => rfl⟩ ?_ ?_
              rotate_left
              · intro w'; go_simp; first | done | with_reducible rfl
              rotate_left
              · simp only [Act.put, List.setIfInBounds_toArray, List.set_cons_zero, List.set_cons_succ, i64_w, i32_w]; rfl
              refine ipure_ (i := 8) (N := (some 43)) (v := ?_) (a' := ?_) #[true, true, true, true, true, true, false, true, true, false, false, false, false, false, false, false, false, false, false, false, false, false, false, false, false, false, false, false, false, false, false, false, false, false, false, false, false, false] rfl rfl (by kernel_rfl) (fun _ _ _ h => h) ⟨Or.inl ⟨by rfl, ?_⟩, fun _ => rfl⟩ ?_ ?_
              rotate_left
              · intro w'; go_simp; first | done | with_reducible rfl
              rotate_left
              · simp only [Act.put, List.setIfInBounds_toArray, List.set_cons_zero, List.set_cons_succ, i64_w, i32_w]; rfl
              refine ipure_ (i := 9) (N := (some 44)) (v := ?_) (a' := ?_) #[true, true, true, true, true, true, false, true, true, true, false, false, false, false, false, false, false, false, false, false, false, false, false, false, false, false, false, false, false, false, false, false, false, false, false, false, false, false] rfl rfl (by kernel_rfl) (fun _ _ _ h => h) ⟨Or.inl ⟨by rfl, ?_⟩, fun _ => rfl⟩ ?_ ?_
              rotate_left
              · intro w'; go_simp; first | done | with_reducible rfl
              rotate_left
              · simp only [Act.put, List.setIfInBounds_toArray, List.set_cons_zero, List.set_cons_succ, i64_w, i32_w]; rfl
              refine ipure_ (i := 10) (N := (some 45)) (v := ?_) (a' := ?_) #[true, true, true, true, true, true, false, true, true, true, true, false, false, false, false, false, false, false, false, false, false, false, false, false, false, false, false, false, false, false, false, false, false, false, false, false, false, false] rfl rfl (by kernel_rfl) (fun _ _ _ h => h) ⟨Or.inl ⟨by rfl, ?_⟩, fun _ => rfl⟩ ?_ ?_
              rotate_left
              · intro w'; go_simp; first | done | with_reducible rfl
              rotate_left
              · simp only [Act.put, List.setIfInBounds_toArray, List.set_cons_zero, List.set_cons_succ, i64_w, i32_w]; rfl
              refine ipure_ (i := 11) (N := (some 46)) (v := ?_) (a' := ?_) #[true, true, true, true, true, true, false, true, true, true, true, true, false, false, false, false, false, false, false, false, false, false, false, false, false, false, false, false, false, false, false, false, false, false, false, false, false, false] rfl rfl (by kernel_rfl) (fun _ _ _ h => h) ⟨Or.inl ⟨by rfl, ?_⟩, fun _ => rfl⟩ ?_ ?_
              rotate_left
              · intro w'; go_simp; first | done | with_reducible rfl
              rotate_left
              · simp only [Act.put, List.setIfInBounds_toArray, List.set_cons_zero, List.set_cons_succ, i64_w, i32_w]; rfl
              refine ipure_ (i := 12) (N := (some 47)) (v := ?_) (a' := ?_) #[true, true, true, true, true, true, false, true, true, true, true, true, true, false, false, false, false, false, false, false, false, false, false, false, false, false, false, false, false, false, false, false, false, false, false, false, false, false] rfl rfl (by kernel_rfl) (fun _ _ _ h => h) ⟨Or.inl ⟨by rfl, ?_⟩, fun _ => rfl⟩ ?_ ?_
              rotate_left
              · intro w'; go_simp; first | done | with_reducible rfl
              rotate_left
              · simp only [Act.put, List.setIfInBounds_toArray, List.set_cons_zero, List.set_cons_succ, i64_w, i32_w]; rfl
              refine ipure_ (i := 15) (N := (some 50)) (v := ?_) (a' := ?_) #[true, true, true, true, true, true, false, true, true, true, true, true, true, false, false, true, false, false, false, false, false, false, false, false, false, false, false, false, false, false, false, false, false, false, false, false, false, false] rfl rfl (by kernel_rfl) (fun _ _ _ h => h) ⟨Or.inl ⟨by rfl, ?_⟩, fun _ => rfl⟩ ?_ ?_
              rotate_left
              · intro w'; go_simp; first | done | with_reducible rfl
              rotate_left
              · simp only [Act.put, List.setIfInBounds_toArray, List.set_cons_zero, List.set_cons_succ, i64_w, i32_w]; rfl
              refine ipure_ (i := 16) (N := (some 51)) (v := ?_) (a' := ?_) #[true, true, true, true, true, true, false, true, true, true, true, true, true, false, false, true, true, false, false, false, false, false, false, false, false, false, false, false, false, false, false, false, false, false, false, false, false, false] rfl rfl (by kernel_rfl) (fun _ _ _ h => h) ⟨Or.inl ⟨by rfl, ?_⟩, fun _ => rfl⟩ ?_ ?_
              rotate_left
              · intro w'; go_simp; first | done | with_reducible rfl
              rotate_left
              · simp only [Act.put, List.setIfInBounds_toArray, List.set_cons_zero, List.set_cons_succ, i64_w, i32_w]; rfl
              refine ipure_ (i := 17) (N := (some 52)) (v := ?_) (a' := ?_) #[true, true, true, true, true, true, false, true, true, true, true, true, true, false, false, true, true, true, false, false, false, false, false, false, false, false, false, false, false, false, false, false, false, false, false, false, false, false] rfl rfl (by kernel_rfl) (fun _ _ _ h => h) ⟨Or.inl ⟨by rfl, ?_⟩, fun _ => rfl⟩ ?_ ?_
              rotate_left
              · intro w'; go_simp; first | done | with_reducible rfl
              rotate_left
              · simp only [Act.put, List.setIfInBounds_toArray, List.set_cons_zero, List.set_cons_succ, i64_w, i32_w]; rfl
              refine ipure_ (i := 18) (N := (some 53)) (v := ?_) (a' := ?_) #[true, true, true, true, true, true, false, true, true, true, true, true, true, false, false, true, true, true, true, false, false, false, false, false, false, false, false, false, false, false, false, false, false, false, false, false, false, false] rfl rfl (by kernel_rfl) (fun _ _ _ h => h) ⟨Or.inl ⟨by rfl, ?_⟩, fun _ => rfl⟩ ?_ ?_
              rotate_left
              · intro w'; go_simp; first | done | with_reducible rfl
              rotate_left
              · simp only [Act.put, List.setIfInBounds_toArray, List.set_cons_zero, List.set_cons_succ, i64_w, i32_w]; rfl
              refine ipure_ (i := 19) (N := (some 54)) (v := ?_) (a' := ?_) #[true, true, true, true, true, true, false, true, true, true, true, true, true, false, false, true, true, true, true, true, false, false, false, false, false, false, false, false, false, false, false, false, false, false, false, false, false, false] rfl rfl (by kernel_rfl) (fun _ _ _ h => h) ⟨Or.inl ⟨by rfl, ?_⟩, fun _ => rfl⟩ ?_ ?_
              rotate_left
              · intro w'; go_simp; first | done | with_reducible rfl
              rotate_left
              · simp only [Act.put, List.setIfInBounds_toArray, List.set_cons_zero, List.set_cons_succ, i64_w, i32_w]; rfl
              refine ipure_ (i := 20) (N := (some 55)) (v := ?_) (a' := ?_) #[true, true, true, true, true, true, false, true, true, true, true, true, true, false, false, true, true, true, true, true, true, false, false, false, false, false, false, false, false, false, false, false, false, false, false, false, false, false] rfl rfl (by kernel_rfl) (fun _ _ _ h => h) ⟨Or.inl ⟨by rfl, ?_⟩, fun _ => rfl⟩ ?_ ?_
              rotate_left
              · intro w'; go_simp; first | done | with_reducible rfl
              rotate_left
              · simp only [Act.put, List.setIfInBounds_toArray, List.set_cons_zero, List.set_cons_succ, i64_w, i32_w]; rfl
              refine ilast_ (i := 6) (N := (some 41)) #[true, true, true, true, true, true, true, true, true, true, true, true, true, false, false, true, true, true, true, true, true, false, false, false, false, false, false, false, false, false, false, false, false, false, false, false, false, false] rfl rfl (by kernel_rfl) (fun K hK => ?_)
              refine igoes_ Tryd.func53 (by kernel_rfl) rfl #[.string (t.extract 0 a)] (by rfl) rfl rfl (by (try simp only [List.map_toArray, List.map_cons, List.map_nil]); first | done | rfl) ?_
              refine (back_W' (cut_W HT.out 0 a (by omega)) _).mono ?_
              rintro e w3 ⟨rfl, hb3⟩
              refine ⟨_, rfl, ?_⟩
              rw [HX.out]
              refine hK.out _ _ ?_
              clear hK K
              refine inorm_ (a' := ?_) ?_ ?_
              rotate_left
              · show Act.put _ (some 41) _ = _; simp only [Act.put, List.setIfInBounds_toArray, List.set_cons_zero, List.set_cons_succ, i64_w, i32_w]; rfl
              refine ilast_ (i := 13) (N := (some 48)) #[true, true, true, true, true, true, true, true, true, true, true, true, true, true, false, true, true, true, true, true, true, false, false, false, false, false, false, false, false, false, false, false, false, false, false, false, false, false] rfl rfl (by kernel_rfl) (fun K hK => ?_)
              refine igoes_ Tryd.func53 (by kernel_rfl) rfl #[.string (t.extract a c)] (by rfl) rfl rfl (by (try simp only [List.map_toArray, List.map_cons, List.map_nil]); first | done | rfl) ?_
              refine (back_W' (cut_W HT.out a c (by rw [hts]; exact hcs)) _).mono ?_
              rintro e w4 ⟨rfl, hb4⟩
              refine ⟨_, rfl, ?_⟩
              rw [HYY.out]
              refine hK.out _ _ ?_
              clear hK K
              refine inorm_ (a' := ?_) ?_ ?_
              rotate_left
              · show Act.put _ (some 48) _ = _; simp only [Act.put, List.setIfInBounds_toArray, List.set_cons_zero, List.set_cons_succ, i64_w, i32_w]; rfl
              refine ipure_ (i := 14) (N := (some 49)) (v := ?_) (a' := ?_) #[true, true, true, true, true, true, true, true, true, true, true, true, true, true, true, true, true, true, true, true, true, false, false, false, false, false, false, false, false, false, false, false, false, false, false, false, false, false] rfl rfl (by kernel_rfl) (fun _ _ _ h => h) ⟨Or.inl ⟨by rfl, ?_⟩, fun _ => rfl⟩ ?_ ?_
              rotate_left
              · intro w'; go_simp; first | done | with_reducible rfl
              rotate_left
              · simp only [Act.put, List.setIfInBounds_toArray, List.set_cons_zero, List.set_cons_succ, i64_w, i32_w]; rfl
              refine ilast_ (i := 21) (N := (some 56)) #[true, true, true, true, true, true, true, true, true, true, true, true, true, true, true, true, true, true, true, true, true, true, false, false, false, false, false, false, false, false, false, false, false, false, false, false, false, false] rfl rfl (by kernel_rfl) (fun K hK => ?_)
              refine igoes_ Tryd.func53 (by kernel_rfl) rfl #[.string (t.extract c h)] (by rfl) rfl rfl (by (try simp only [List.map_toArray, List.map_cons, List.map_nil]); first | done | rfl) ?_
              refine (back_W' (cut_W HT.out c h (by rw [hts]; exact hhs)) _).mono ?_
              rintro e w5 ⟨rfl, hb5⟩
              refine ⟨_, rfl, ?_⟩
              rw [HZZ.out]
              refine hK.out _ _ ?_
              clear hK K
              refine inorm_ (a' := ?_) ?_ ?_
              rotate_left
              · show Act.put _ (some 56) _ = _; simp only [Act.put, List.setIfInBounds_toArray, List.set_cons_zero, List.set_cons_succ, i64_w, i32_w]; rfl
              refine ipure_ (i := 22) (N := (some 57)) (v := ?_) (a' := ?_) #[true, true, true, true, true, true, true, true, true, true, true, true, true, true, true, true, true, true, true, true, true, true, true, false, false, false, false, false, false, false, false, false, false, false, false, false, false, false] rfl rfl (by kernel_rfl) (fun _ _ _ h => h) ⟨Or.inl ⟨by rfl, ?_⟩, fun _ => rfl⟩ ?_ ?_
              rotate_left
              · intro w'; go_simp; first | done | with_reducible rfl
              rotate_left
              · simp only [Act.put, List.setIfInBounds_toArray, List.set_cons_zero, List.set_cons_succ, i64_w, i32_w]; rfl
              have hbt : Below wr.heap.size wr w5 := (Below.refl wr.heap.size wr).drew.trans (hb3.trans ((hb4.mono hb3.size).trans (hb5.mono (Nat.le_trans hb3.size hb4.size))))
              have hBl : B < wr.heap.size := (Array.getElem?_eq_some_iff.1 HI2.out).1
              have HI5 := Lib.hid ((hbt.block B hBl).trans HI2.out)
              have HC5 := Lib.hid ((hbt.cell (p := ⟨Bn, 0, none⟩) (World.block_lt_of_cell? _ _ HC2.out)).trans HC2.out)
              have HJ5 := Lib.hid (HJ.out _ _ _ none HJ2.out (grown_of_below hbt) (fun r e => by cases e))
              have HZ5 := Lib.hid (Nat.le_trans HSZ.out hbt.size)
              have hfT : decide (t.extract h s.size = X ++ Y ++ Z) = fT t h a b := by
                unfold fT
                rw [HCC.out, HX.out, HYY.out, HZZ.out, hts]
              clear hbt hb3 hb4 hb5 hBl HI2 HC2 HJ2 HSZ
              have hwb := wrap_succ (a := b) (by have := HQ.out; omega)
              cases hf : fT t h a b with
              | true =>
                rw [hf] at hfT
                have hfL := beq_lists hfT
                have HFT := Lib.hid hf
                refine ipure_ (i := 23) (N := (some 58)) (v := (.bool true)) (a' := ?_) #[true, true, true, true, true, true, true, true, true, true, true, true, true, true, true, true, true, true, true, true, true, true, true, true, false, false, false, false, false, false, false, false, false, false, false, false, false, false] rfl rfl (by kernel_rfl) (fun _ _ _ h => h) ⟨Or.inl ⟨by rfl, ?_⟩, fun _ => rfl⟩ ?_ ?_
                · intro w'; go_simp; first | done | with_reducible rfl
                rotate_left
                · simp only [Act.put, List.setIfInBounds_toArray, List.set_cons_zero, List.set_cons_succ, i64_w, i32_w]; rfl
                refine ipure_ (i := 24) (N := (some 59)) (v := ?_) (a' := ?_) #[true, true, true, true, true, true, true, true, true, true, true, true, true, true, true, true, true, true, true, true, true, true, true, true, true, false, false, false, false, false, false, false, false, false, false, false, false, false] rfl rfl (by kernel_rfl) (fun _ _ _ h => h) ⟨Or.inl ⟨by rfl, ?_⟩, fun _ => rfl⟩ ?_ ?_
                rotate_left
                · intro w'; go_simp; first | done | with_reducible rfl
                rotate_left
                · simp only [Act.put, List.setIfInBounds_toArray, List.set_cons_zero, List.set_cons_succ, i64_w, i32_w]; rfl
                refine ipure_ (i := 25) (N := (some 60)) (v := ?_) (a' := ?_) #[true, true, true, true, true, true, true, true, true, true, true, true, true, true, true, true, true, true, true, true, true, true, true, true, true, true, false, false, false, false, false, false, false, false, false, false, false, false] rfl rfl (by kernel_rfl) (fun _ _ _ h => h) ⟨Or.inl ⟨by rfl, ?_⟩, fun _ => rfl⟩ ?_ ?_
                rotate_left
                · intro w'; go_simp; first | done | with_reducible rfl
                rotate_left
                · simp only [Act.put, List.setIfInBounds_toArray, List.set_cons_zero, List.set_cons_succ, i64_w, i32_w]; rfl
                refine ipure_ (i := 26) (N := (some 61)) (v := ?_) (a' := ?_) #[true, true, true, true, true, true, true, true, true, true, true, true, true, true, true, true, true, true, true, true, true, true, true, true, true, true, true, false, false, false, false, false, false, false, false, false, false, false] rfl rfl (by kernel_rfl) (fun _ _ _ h => h) ⟨Or.inl ⟨by rfl, ?_⟩, fun _ => rfl⟩ ?_ ?_
                rotate_left
                · intro w'; go_simp; first | done | with_reducible rfl
                rotate_left
                · simp only [Act.put, List.setIfInBounds_toArray, List.set_cons_zero, List.set_cons_succ, i64_w, i32_w]; rfl
                refine ipure_ (i := 27) (N := (some 62)) (v := ?_) (a' := ?_) #[true, true, true, true, true, true, true, true, true, true, true, true, true, true, true, true, true, true, true, true, true, true, true, true, true, true, true, true, false, false, false, false, false, false, false, false, false, false] rfl rfl (by kernel_rfl) (fun _ _ _ h => h) ⟨Or.inl ⟨by rfl, ?_⟩, fun _ => rfl⟩ ?_ ?_
                rotate_left
                · intro w'; go_simp; first | done | with_reducible rfl
                rotate_left
                · simp only [Act.put, List.setIfInBounds_toArray, List.set_cons_zero, List.set_cons_succ, i64_w, i32_w]; rfl
                refine ipure_ (i := 28) (N := (some 63)) (v := ?_) (a' := ?_) #[true, true, true, true, true, true, true, true, true, true, true, true, true, true, true, true, true, true, true, true, true, true, true, true, true, true, true, true, true, false, false, false, false, false, false, false, false, false] rfl rfl (by kernel_rfl) (fun _ _ _ h => h) ⟨Or.inl ⟨by rfl, ?_⟩, fun _ => rfl⟩ ?_ ?_
                rotate_left
                · intro w'; go_simp; first | done | with_reducible rfl
                rotate_left
                · simp only [Act.put, List.setIfInBounds_toArray, List.set_cons_zero, List.set_cons_succ, i64_w, i32_w]; rfl
                refine ipure_ (i := 29) (N := (some 64)) (v := ?_) (a' := ?_) #[true, true, true, true, true, true, true, true, true, true, true, true, true, true, true, true, true, true, true, true, true, true, true, true, true, true, true, true, true, true, false, false, false, false, false, false, false, false] rfl rfl (by kernel_rfl) (fun _ _ _ h => h) ⟨Or.inl ⟨by rfl, ?_⟩, fun _ => rfl⟩ ?_ ?_
                rotate_left
                · intro w'; go_simp; first | done | with_reducible rfl
                rotate_left
                · simp only [Act.put, List.setIfInBounds_toArray, List.set_cons_zero, List.set_cons_succ, i64_w, i32_w]; rfl
                refine ipure_ (i := 30) (N := (some 65)) (v := ?_) (a' := ?_) #[true, true, true, true, true, true, true, true, true, true, true, true, true, true, true, true, true, true, true, true, true, true, true, true, true, true, true, true, true, true, true, false, false, false, false, false, false, false] rfl rfl (by kernel_rfl) (fun _ _ _ h => h) ⟨Or.inl ⟨by rfl, ?_⟩, fun _ => rfl⟩ ?_ ?_
                rotate_left
                · intro w'; go_simp; first | done | with_reducible rfl
                rotate_left
                · simp only [Act.put, List.setIfInBounds_toArray, List.set_cons_zero, List.set_cons_succ, i64_w, i32_w]; rfl
                refine ipure_ (i := 31) (N := (some 66)) (v := ?_) (a' := ?_) #[true, true, true, true, true, true, true, true, true, true, true, true, true, true, true, true, true, true, true, true, true, true, true, true, true, true, true, true, true, true, true, true, false, false, false, false, false, false] rfl rfl (by kernel_rfl) (fun _ _ _ h => h) ⟨Or.inl ⟨by rfl, ?_⟩, fun _ => rfl⟩ ?_ ?_
                rotate_left
                · intro w'; go_simp; first | done | with_reducible rfl
                rotate_left
                · simp only [Act.put, List.setIfInBounds_toArray, List.set_cons_zero, List.set_cons_succ, i64_w, i32_w]; rfl
                refine ipure_ (i := 32) (N := (some 67)) (v := ?_) (a' := ?_) #[true, true, true, true, true, true, true, true, true, true, true, true, true, true, true, true, true, true, true, true, true, true, true, true, true, true, true, true, true, true, true, true, true, false, false, false, false, false] rfl rfl (by kernel_rfl) (fun _ _ _ h => h) ⟨Or.inl ⟨by rfl, ?_⟩, fun _ => rfl⟩ ?_ ?_
                rotate_left
                · intro w'; go_simp; first | done | with_reducible rfl
                rotate_left
                · simp only [Act.put, List.setIfInBounds_toArray, List.set_cons_zero, List.set_cons_succ, i64_w, i32_w]; rfl
                refine ipure_ (i := 33) (N := (some 68)) (v := ?_) (a' := ?_) #[true, true, true, true, true, true, true, true, true, true, true, true, true, true, true, true, true, true, true, true, true, true, true, true, true, true, true, true, true, true, true, true, true, true, false, false, false, false] rfl rfl (by kernel_rfl) (fun _ _ _ h => h) ⟨Or.inl ⟨by rfl, ?_⟩, fun _ => rfl⟩ ?_ ?_
                rotate_left
                · intro w'; go_simp; first | done | with_reducible rfl
                rotate_left
                · simp only [Act.put, List.setIfInBounds_toArray, List.set_cons_zero, List.set_cons_succ, i64_w, i32_w]; rfl
                refine ipure_ (i := 34) (N := (some 69)) (v := ?_) (a' := ?_) #[true, true, true, true, true, true, true, true, true, true, true, true, true, true, true, true, true, true, true, true, true, true, true, true, true, true, true, true, true, true, true, true, true, true, true, false, false, false] rfl rfl (by kernel_rfl) (fun _ _ _ h => h) ⟨Or.inl ⟨by rfl, ?_⟩, fun _ => rfl⟩ ?_ ?_
                rotate_left
                · intro w'; go_simp; first | done | with_reducible rfl
                rotate_left
                · simp only [Act.put, List.setIfInBounds_toArray, List.set_cons_zero, List.set_cons_succ, i64_w, i32_w]; rfl
                refine ilast_ (i := 35) (N := (some 70)) #[true, true, true, true, true, true, true, true, true, true, true, true, true, true, true, true, true, true, true, true, true, true, true, true, true, true, true, true, true, true, true, true, true, true, true, true, false, false] rfl rfl (by kernel_rfl) (fun K hK => ?_)
                refine iround_ (l := l) #[encF (k, a, b, h - a - b)] (by rfl) rfl rfl rfl (by (try simp only [List.map_toArray, List.map_cons, List.map_nil]); first | done | rfl) ?_
                refine (HY.out _ (k, a, b, h - a - b) w5 HJ5.out (yes_len HFT.out HRT.out HH.out ha1 HQ.out.1 HCC.out hbh hah hlt)).mono ?_
                rintro e W6 (⟨rfl, hJ6, hK6⟩ | ⟨rfl, hJx6⟩)
                · refine ⟨_, rfl, ?_⟩
                  have HI6 := Lib.hid (hK6.2.same B _ HI5.out rfl)
                  have HC6 := Lib.hid (hK6.1 HC5.out)
                  have HJ6 := Lib.hid hJ6
                  have HZ6 := Lib.hid (Nat.le_trans HZ5.out hK6.2.size)
                  clear hJ6 hK6
                  refine hK.out _ _ ?_
                  clear hK K
                  refine inorm_ (a' := ?_) ?_ ?_
                  rotate_left
                  · show Act.put _ (some 70) _ = _; simp only [Act.put, List.setIfInBounds_toArray, List.set_cons_zero, List.set_cons_succ, i64_w, i32_w]; rfl
                  refine ipure_ (i := 36) (N := (some 71)) (v := ?_) (a' := ?_) #[true, true, true, true, true, true, true, true, true, true, true, true, true, true, true, true, true, true, true, true, true, true, true, true, true, true, true, true, true, true, true, true, true, true, true, true, true, false] rfl rfl (by kernel_rfl) (fun _ _ _ h => h) ⟨Or.inl ⟨by rfl, ?_⟩, fun _ => rfl⟩ ?_ ?_
                  rotate_left
                  · intro w'; go_simp; first | done | with_reducible rfl
                  rotate_left
                  · simp only [Act.put, List.setIfInBounds_toArray, List.set_cons_zero, List.set_cons_succ, i64_w, i32_w]; rfl
                  refine ipure_ (i := 37) (N := (some 72)) (v := ?_) (a' := ?_) #[true, true, true, true, true, true, true, true, true, true, true, true, true, true, true, true, true, true, true, true, true, true, true, true, true, true, true, true, true, true, true, true, true, true, true, true, true, true] rfl rfl (by kernel_rfl) (fun _ _ _ h => h) ⟨Or.inl ⟨by rfl, ?_⟩, fun _ => rfl⟩ ?_ ?_
                  rotate_left
                  · intro w'; go_simp; first | done | with_reducible rfl
                  rotate_left
                  · simp only [Act.put, List.setIfInBounds_toArray, List.set_cons_zero, List.set_cons_succ, i64_w, i32_w]; rfl
                  refine idone_ (by kernel_rfl) ?_
                  go_wp2_with fail
                  rw [hwb]
                  refine ⟨⟨b + 1, by omega, by have := HQ.out; have := HCC.out; omega, rfl, HI6, HC6, ?_, HZ6⟩, by simp [intOf]; have := HQ.out; have := HCC.out; omega⟩
                  rw [← yes_step HFT.out HRT.out HH.out HQ.out.1]
                  exact HJ6
                · refine ⟨_, rfl, ?_⟩
                  have HJ6 := Lib.hid hJx6
                  clear hJx6
                  refine hK.out _ _ ?_
                  clear hK K
                  refine inorm_ (a' := ?_) ?_ ?_
                  rotate_left
                  · show Act.put _ (some 70) _ = _; simp only [Act.put, List.setIfInBounds_toArray, List.set_cons_zero, List.set_cons_succ, i64_w, i32_w]; rfl
                  refine ipure_ (i := 36) (N := (some 71)) (v := ?_) (a' := ?_) #[true, true, true, true, true, true, true, true, true, true, true, true, true, true, true, true, true, true, true, true, true, true, true, true, true, true, true, true, true, true, true, true, true, true, true, true, true, false] rfl rfl (by kernel_rfl) (fun _ _ _ h => h) ⟨Or.inl ⟨by rfl, ?_⟩, fun _ => rfl⟩ ?_ ?_
                  rotate_left
                  · intro w'; go_simp; first | done | with_reducible rfl
                  rotate_left
                  · simp only [Act.put, List.setIfInBounds_toArray, List.set_cons_zero, List.set_cons_succ, i64_w, i32_w]; rfl
                  refine ipure_ (i := 37) (N := (some 72)) (v := ?_) (a' := ?_) #[true, true, true, true, true, true, true, true, true, true, true, true, true, true, true, true, true, true, true, true, true, true, true, true, true, true, true, true, true, true, true, true, true, true, true, true, true, true] rfl rfl (by kernel_rfl) (fun _ _ _ h => h) ⟨Or.inl ⟨by rfl, ?_⟩, fun _ => rfl⟩ ?_ ?_
                  rotate_left
                  · intro w'; go_simp; first | done | with_reducible rfl
                  rotate_left
                  · simp only [Act.put, List.setIfInBounds_toArray, List.set_cons_zero, List.set_cons_succ, i64_w, i32_w]; rfl
                  refine idone_ (by kernel_rfl) ?_
                  go_wp2_with fail
                  refine bodyPost_ret (results_none rfl _ _ _) rfl ?_
                  exact ⟨⟨_, rfl⟩, .inr ⟨_, yes_pre HFT.out HRT.out HH.out ha1 HQ.out.1 HCC.out hbh hah hlt, HJ6.out⟩⟩
              | false =>
                rw [hf] at hfT
                have hfL := beq_lists hfT
                have HFT := Lib.hid hf
                refine ipure_ (i := 23) (N := (some 58)) (v := (.bool false)) (a' := ?_) #[true, true, true, true, true, true, true, true, true, true, true, true, true, true, true, true, true, true, true, true, true, true, true, true, false, false, false, false, false, false, false, false, false, false, false, false, false, false] rfl rfl (by kernel_rfl) (fun _ _ _ h => h) ⟨Or.inl ⟨by rfl, ?_⟩, fun _ => rfl⟩ ?_ ?_
                · intro w'; go_simp; first | done | with_reducible rfl
                rotate_left
                · simp only [Act.put, List.setIfInBounds_toArray, List.set_cons_zero, List.set_cons_succ, i64_w, i32_w]; rfl
                refine ipure_ (i := 24) (N := (some 59)) (v := ?_) (a' := ?_) #[true, true, true, true, true, true, true, true, true, true, true, true, true, true, true, true, true, true, true, true, true, true, true, true, true, false, false, false, false, false, false, false, false, false, false, false, false, false] rfl rfl (by kernel_rfl) (fun _ _ _ h => h) ⟨Or.inl ⟨by rfl, ?_⟩, fun _ => rfl⟩ ?_ ?_
                rotate_left
                · intro w'; go_simp; first | done | with_reducible rfl
                rotate_left
                · simp only [Act.put, List.setIfInBounds_toArray, List.set_cons_zero, List.set_cons_succ, i64_w, i32_w]; rfl
                refine ipure_ (i := 25) (N := (some 60)) (v := undef) (a' := ?_) #[true, true, true, true, true, true, true, true, true, true, true, true, true, true, true, true, true, true, true, true, true, true, true, true, true, true, false, false, false, false, false, false, false, false, false, false, false, false] rfl rfl (by kernel_rfl) (fun _ _ _ h => h) ⟨Or.inr ⟨by rfl, rfl⟩, fun _ => rfl⟩ ?_ ?_
                rotate_left
                · simp only [Act.put, List.setIfInBounds_toArray, List.set_cons_zero, List.set_cons_succ, i64_w, i32_w]; rfl
                refine ipure_ (i := 26) (N := (some 61)) (v := undef) (a' := ?_) #[true, true, true, true, true, true, true, true, true, true, true, true, true, true, true, true, true, true, true, true, true, true, true, true, true, true, true, false, false, false, false, false, false, false, false, false, false, false] rfl rfl (by kernel_rfl) (fun _ _ _ h => h) ⟨Or.inr ⟨by rfl, rfl⟩, fun _ => rfl⟩ ?_ ?_
                rotate_left
                · simp only [Act.put, List.setIfInBounds_toArray, List.set_cons_zero, List.set_cons_succ, i64_w, i32_w]; rfl
                refine ipure_ (i := 27) (N := (some 62)) (v := undef) (a' := ?_) #[true, true, true, true, true, true, true, true, true, true, true, true, true, true, true, true, true, true, true, true, true, true, true, true, true, true, true, true, false, false, false, false, false, false, false, false, false, false] rfl rfl (by kernel_rfl) (fun _ _ _ h => h) ⟨Or.inr ⟨by rfl, rfl⟩, fun _ => rfl⟩ ?_ ?_
                rotate_left
                · simp only [Act.put, List.setIfInBounds_toArray, List.set_cons_zero, List.set_cons_succ, i64_w, i32_w]; rfl
                refine ipure_ (i := 28) (N := (some 63)) (v := undef) (a' := ?_) #[true, true, true, true, true, true, true, true, true, true, true, true, true, true, true, true, true, true, true, true, true, true, true, true, true, true, true, true, true, false, false, false, false, false, false, false, false, false] rfl rfl (by kernel_rfl) (fun _ _ _ h => h) ⟨Or.inr ⟨by rfl, rfl⟩, fun _ => rfl⟩ ?_ ?_
                rotate_left
                · simp only [Act.put, List.setIfInBounds_toArray, List.set_cons_zero, List.set_cons_succ, i64_w, i32_w]; rfl
                refine ipure_ (i := 29) (N := (some 64)) (v := undef) (a' := ?_) #[true, true, true, true, true, true, true, true, true, true, true, true, true, true, true, true, true, true, true, true, true, true, true, true, true, true, true, true, true, true, false, false, false, false, false, false, false, false] rfl rfl (by kernel_rfl) (fun _ _ _ h => h) ⟨Or.inr ⟨by rfl, rfl⟩, fun _ => rfl⟩ ?_ ?_
                rotate_left
                · simp only [Act.put, List.setIfInBounds_toArray, List.set_cons_zero, List.set_cons_succ, i64_w, i32_w]; rfl
                refine ipure_ (i := 30) (N := (some 65)) (v := undef) (a' := ?_) #[true, true, true, true, true, true, true, true, true, true, true, true, true, true, true, true, true, true, true, true, true, true, true, true, true, true, true, true, true, true, true, false, false, false, false, false, false, false] rfl rfl (by kernel_rfl) (fun _ _ _ h => h) ⟨Or.inr ⟨by rfl, rfl⟩, fun _ => rfl⟩ ?_ ?_
                rotate_left
                · simp only [Act.put, List.setIfInBounds_toArray, List.set_cons_zero, List.set_cons_succ, i64_w, i32_w]; rfl
                refine ipure_ (i := 31) (N := (some 66)) (v := undef) (a' := ?_) #[true, true, true, true, true, true, true, true, true, true, true, true, true, true, true, true, true, true, true, true, true, true, true, true, true, true, true, true, true, true, true, true, false, false, false, false, false, false] rfl rfl (by kernel_rfl) (fun _ _ _ h => h) ⟨Or.inr ⟨by rfl, rfl⟩, fun _ => rfl⟩ ?_ ?_
                rotate_left
                · simp only [Act.put, List.setIfInBounds_toArray, List.set_cons_zero, List.set_cons_succ, i64_w, i32_w]; rfl
                refine ipure_ (i := 32) (N := (some 67)) (v := undef) (a' := ?_) #[true, true, true, true, true, true, true, true, true, true, true, true, true, true, true, true, true, true, true, true, true, true, true, true, true, true, true, true, true, true, true, true, true, false, false, false, false, false] rfl rfl (by kernel_rfl) (fun _ _ _ h => h) ⟨Or.inr ⟨by rfl, rfl⟩, fun _ => rfl⟩ ?_ ?_
                rotate_left
                · simp only [Act.put, List.setIfInBounds_toArray, List.set_cons_zero, List.set_cons_succ, i64_w, i32_w]; rfl
                refine ipure_ (i := 33) (N := (some 68)) (v := undef) (a' := ?_) #[true, true, true, true, true, true, true, true, true, true, true, true, true, true, true, true, true, true, true, true, true, true, true, true, true, true, true, true, true, true, true, true, true, true, false, false, false, false] rfl rfl (by kernel_rfl) (fun _ _ _ h => h) ⟨Or.inr ⟨by rfl, rfl⟩, fun _ => rfl⟩ ?_ ?_
                rotate_left
                · simp only [Act.put, List.setIfInBounds_toArray, List.set_cons_zero, List.set_cons_succ, i64_w, i32_w]; rfl
                refine ipure_ (i := 34) (N := (some 69)) (v := undef) (a' := ?_) #[true, true, true, true, true, true, true, true, true, true, true, true, true, true, true, true, true, true, true, true, true, true, true, true, true, true, true, true, true, true, true, true, true, true, true, false, false, false] rfl rfl (by kernel_rfl) (fun _ _ _ h => h) ⟨Or.inr ⟨by rfl, rfl⟩, fun _ => rfl⟩ ?_ ?_
                rotate_left
                · simp only [Act.put, List.setIfInBounds_toArray, List.set_cons_zero, List.set_cons_succ, i64_w, i32_w]; rfl
                refine ipure_ (i := 35) (N := (some 70)) (v := undef) (a' := ?_) #[true, true, true, true, true, true, true, true, true, true, true, true, true, true, true, true, true, true, true, true, true, true, true, true, true, true, true, true, true, true, true, true, true, true, true, true, false, false] rfl rfl (by kernel_rfl) (fun _ _ _ h => h) ⟨Or.inr ⟨by rfl, rfl⟩, fun _ => rfl⟩ ?_ ?_
                rotate_left
                · simp only [Act.put, List.setIfInBounds_toArray, List.set_cons_zero, List.set_cons_succ, i64_w, i32_w]; rfl
                refine ipure_ (i := 36) (N := (some 71)) (v := undef) (a' := ?_) #[true, true, true, true, true, true, true, true, true, true, true, true, true, true, true, true, true, true, true, true, true, true, true, true, true, true, true, true, true, true, true, true, true, true, true, true, true, false] rfl rfl (by kernel_rfl) (fun _ _ _ h => h) ⟨Or.inr ⟨by rfl, rfl⟩, fun _ => rfl⟩ ?_ ?_
                rotate_left
                · simp only [Act.put, List.setIfInBounds_toArray, List.set_cons_zero, List.set_cons_succ, i64_w, i32_w]; rfl
                refine ipure_ (i := 37) (N := (some 72)) (v := ?_) (a' := ?_) #[true, true, true, true, true, true, true, true, true, true, true, true, true, true, true, true, true, true, true, true, true, true, true, true, true, true, true, true, true, true, true, true, true, true, true, true, true, true] rfl rfl (by kernel_rfl) (fun _ _ _ h => h) ⟨Or.inl ⟨by rfl, ?_⟩, fun _ => rfl⟩ ?_ ?_
                rotate_left
                · intro w'; go_simp; first | done | with_reducible rfl
                rotate_left
                · simp only [Act.put, List.setIfInBounds_toArray, List.set_cons_zero, List.set_cons_succ, i64_w, i32_w]; rfl
                refine idone_ (by kernel_rfl) ?_
                go_wp2_with fail
                rw [hwb]
                refine ⟨⟨b + 1, by omega, by have := HQ.out; have := HCC.out; omega, rfl, HI5, HC5, ?_, HZ5⟩, by simp [intOf]; have := HQ.out; have := HCC.out; omega⟩
                rw [← no_step HFT.out HRT.out HH.out HQ.out.1]
                exact HJ5
            · skip
              go_wp2_with fail
              refine ⟨⟨a + 1, Nat.le_add_left _ _, .inl hah, by go_num, HI2, HC2, ?_, HSZ⟩, by simp [intOf]; omega⟩
              rw [← row_step HH.out ha1 HQ.out.1 HQ.out.2 HCC.out hbh hah]
              exact HJ2
        · go_wp2_with fail
          refine ⟨⟨k + 1, by omega, HI2, HC2, ?_, HSZ⟩, ?_⟩
          · rw [fK, HH.out, show h - 1 = a - 1 by omega]
            exact HJ2
          · show (match _ with | some (Obj.stringIter _ p) => s.size - p | _ => 0) < (match _ with | some (Obj.stringIter _ p) => s.size - p | _ => 0)
            rw [HI2.out, HI0.out]
            show s.size - (k + 1) < s.size - k
            omega
    · obtain rfl : k = s.size := by omega
      have hnx := fun ty => run_next_over (P := Tryd.prog) HI.out hlt ty
      go_wp2
      go_end0
      exact ⟨⟨_, rfl⟩, .inl ⟨_, rfl, HJ0.out⟩⟩
end Go.Proofs.YtpfenoioeajkmaaDoor.X
end

section
set_option linter.unusedVariables false
set_option linter.unusedSimpArgs false
namespace Go.Proofs.YtpfenoioeajkmaaDoor.X
open Go.RowKit Go.Proofs.YtpfenoioeajkmaaDoorW.PrintWords Go.Proofs.YtpfenoioeajkmaaDoorW.PrintLast Go.Proofs.YtpfenoioeajkmaaDoorW.PrintMore Go.Proofs.YtpfenoioeajkmaaDoor.L
theorem calls_marks {P : Program} {f : FuncId} {fn : Func} {c : Code} {args : Array Value} {w : World} {R : Ending → World → Prop} (n : Nat) (hf : P.funcs[f]? = some fn) (hb : fn.body = some c)
    (h : c.wp P (bodyPostM Fence.wide n P fn R) { tmps := args ++ Array.replicate (fn.ntmps - args.size) undef, defers := [] } w) : Calls P f args w R :=
  (callsIn_wide (n := n)).1 (callsIn_of_wp_marks hf hb trivial ((wpIn_wide (n := n)).2 h))
attribute [local go_sem] Oper.semAt_some
theorem cell_new_l (W : World) (v : Value) (t : TypeId) : (W.alloc (.cells #[v] t)).cell? ⟨W.heap.size, 0, none⟩ = some v ∧ (W.alloc (.cells #[v] t)).frozen? ⟨W.heap.size, 0, none⟩ = false := ⟨by simp, by simp⟩
theorem cell_alloc_l {W : World} {a : Addr} {v : Value} (o : Obj) (h : W.cell? a = some v) : (W.alloc o).cell? a = some v := cell_kept h (World.grownBy_alloc W o none) (fun r e => by cases e)
theorem frozen_alloc_l {W : World} {a : Addr} {v : Value} (o : Obj) (h : W.cell? a = some v) (hf : W.frozen? a = false) : (W.alloc o).frozen? a = false := (frozen_kept h (World.grownBy_alloc W o none) (fun r e => by cases e)).trans hf
theorem fB_len (s : ByteArray) (k a : Nat) : ∀ m, (fB s k a m).length ≤ m
  | 0 => by simp [fB]
  | m + 1 => by
    have := fB_len s k a m
    rw [fB, List.length_append]
    split <;> simp <;> omega
theorem fA_len (s : ByteArray) (k : Nat) : ∀ m, (fA s k m).length ≤ m * (s.size / 2)
  | 0 => by simp [fA]
  | m + 1 => by
    have := fA_len s k m
    have h2 := fB_len s k (m + 1) (s.size / 2 - (m + 1))
    rw [fA, List.length_append, Nat.succ_mul]
    omega
theorem fK_len (s : ByteArray) : ∀ k, (fK s k).length ≤ k * ((s.size / 2 - 1) * (s.size / 2))
  | 0 => by simp [fK]
  | k + 1 => by
    have := fK_len s k
    have h2 := fA_len s k (s.size / 2 - 1)
    rw [fK, List.length_append, Nat.succ_mul]
    omega
theorem facs_len {s : ByteArray} (h : s.size ≤ 24) : (facs s).length ≤ 24 * (12 * 12) :=
  Nat.le_trans (fK_len s s.size) (Nat.mul_le_mul h (Nat.mul_le_mul (by omega) (by omega)))
theorem kpF_t {Bn : Nat} {s : ByteArray} {A B C : World} (h : KpF Bn s A B) (k : KpF Bn s B C) : KpF Bn s A C := ⟨fun q => k.1 (h.1 q), h.2.trans k.2⟩
theorem kpF_b {Bn : Nat} {s : ByteArray} {w : World} (W : World) (l : Nat) (o o' : Obj) (hl : w.heap.size ≤ l) (h : W.heap[l]? = some o) (hc : o.isCells = false) (hw : o.isWalk = false) : KpF Bn s W (W.putObj l o') :=
  ⟨fun q => cell_kept q (Go.grownBy_putObj' W l o') (fun r e => by cases e; exact ⟨_, h, hc⟩), walksK_b (w := w) W l o o' hl h hc hw⟩
theorem facs_stops (n Bn : Nat) (s : ByteArray) (hw : isW s = true) (w : World) (hc : w.cell? ⟨Bn, 0, none⟩ = some (.string s)) :
    SeqStopsK Fence.wide n Tryd.prog 77 #[.pointer (some ⟨Bn, 0, none⟩)] (fun x => #[encF x]) (KpF Bn s) (fun xs => xs = facs s) (fun pre => pre <+: facs s) (facs s).length w :=
  fun l J Jx W hW hJ hJx hY h0 => callsIn_wide.2 (factors1_in n l Bn s hw J Jx W hJ hY ((hW.cell (p := ⟨Bn, 0, none⟩) (World.block_lt_of_cell? _ _ hc)).trans hc) h0)
set_option maxHeartbeats 2000000 in
set_option maxRecDepth 100000 in
theorem factors_calls (s : ByteArray) (w : World) : Calls Tryd.prog 58 #[.string s] w fun e w' => e = .returned (.func (.func 77) #[] #[.pointer (some ⟨w.heap.size, 0, none⟩)]) ∧ w' = w.alloc (.cells #[.string s] 9) := by
  go_enter Tryd.func58, Tryd.ntmps58
  go_wp2
  go_ret
  exact ⟨rfl, rfl⟩
theorem Is_any {s : ByteArray} (hs : s.size ≤ 1000) (w : World) : Calls Tryd.prog 49 #[.string s] w fun e w' => e = .returned (.bool (isO s)) ∧ Below w.heap.size w w' := moulds_Is.calls s _ w (Is_f hs)
set_option maxHeartbeats 4000000 in
set_option maxRecDepth 100000 in
theorem Factors_yes (s : ByteArray) (h : isO s = true) (w : World) :
    Calls Tryd.prog 33 #[.string s] w fun e w' => e = .returned (.tuple #[.int .i64 (facs s).length, .int .i64 0]) ∧ Below w.heap.size w w' := by
  have hw := isO_W h
  have hs24 := isW_le hw
  have HO := Lib.hid (fun w => Is_any (s := s) (by omega) w)
  have HH := Lib.hid h
  have HWD := Lib.hid hw
  clear h hw
  refine calls_marks 3 Tryd.func33 rfl ?_
  simp only [Tryd.ntmps33, List.size_toArray, List.length_cons, List.length_nil, Nat.reduceAdd, Nat.reduceSub, Array.replicate_succ, Array.replicate_zero, List.push_toArray, List.append_toArray, List.nil_append, List.cons_append]
  go_wp2_with fail
  refine (HO.out _).mono ?_
  rintro e w1 ⟨rfl, hb1⟩
  rw [HH.out]
  have HB := Lib.hid hb1
  clear hb1
  go_wp2_with fail
  refine (factors_calls s _).mono ?_
  rintro e w2 ⟨rfl, rfl⟩
  go_wp2_with fail
  have c0 := cell_new_l w1 (.int .i64 0) 3
  have c1 := cell_new_l (w1.alloc (.cells #[.int .i64 0] 3)) (.string s) 9
  have c2 := cell_alloc_l (.cells #[.string s] 9) c0.1
  have c3 := frozen_alloc_l (.cells #[.string s] 9) c0.1 c0.2
  rw [World.size_alloc] at c1
  have hb3 : Below w1.heap.size w1 ((w1.alloc (.cells #[.int .i64 0] 3)).alloc (.cells #[.string s] 9)) := ((Below.refl _ w1).alloc (Nat.le_refl _) _).alloc (by simp) _
  have hsz : ((w1.alloc (.cells #[.int .i64 0] 3)).alloc (.cells #[.string s] 9)).heap.size = w1.heap.size + 2 := by simp
  generalize (w1.alloc (.cells #[.int .i64 0] 3)).alloc (.cells #[.string s] 9) = w3 at c1 c2 c3 hb3 hsz ⊢
  refine (wpIn_wide (n := 3)).1 ?_
  refine wpIn_rangeFunc_ownF rfl (by omega) (gf := 77) (lb := #[.pointer (some ⟨w1.heap.size + 1, 0, none⟩)]) rfl trivial (enters_of Tryd.func77 (by kernel_rfl) rfl)
    (facs_stops 2 (w1.heap.size + 1) s HWD.out w3 c1.1) kpF_t kpF_b (Below.refl _ _) (fun _ => rfl)
    (fun pre W => (W.cell? ⟨w1.heap.size, 0, none⟩ = some (.int .i64 pre.length) ∧ W.frozen? ⟨w1.heap.size, 0, none⟩ = false) ∧ Below w1.heap.size w1 W)
    (fun _ _ _ => False)
    (OwnFrom.and (Own.from (fun s A B row hs hg hr => ⟨cell_kept hs.1 hg hr, (frozen_kept hs.1 hg hr).trans hs.2⟩) _) (ownFrom_below (Nat.le_refl _) (by omega)))
    (fun _ _ _ _ _ hs _ _ => hs)
    ⟨⟨c2, c3⟩, hb3⟩
    (fun x => { tmps := #[Value.string s, undef, Value.int IntKind.i64 0, Value.int IntKind.i64 0, Value.pointer (some { block := w1.heap.size, off := 0 }), Value.string s, Value.bool true, Value.bool false, Value.string s, Value.func (Fn.func 77) #[] #[Value.pointer (some { block := w1.heap.size + 1, off := 0 })], encF x, undef, undef, undef], defers := [] }) ?assign ?body ?done ?stop
  case assign =>
    intro l x W K hK
    gi_wp2
    simpa using hK
  case body =>
    rintro l pre x W ⟨⟨hc, hf⟩, hB⟩ hlen
    have hfl := facs_len hs24
    have hwl : wrap64 ((pre.length : Int) + 1) = ((pre.length + 1 : Nat) : Int) := by unfold wrap64; omega
    gi_wp2
    refine ⟨KeepsOthers.setCell _ _ _, ⟨fun q => (World.cell?_setCell_other W _ _ _ (by simp)).trans q, KeepsWalks.setCell _ _ _⟩, ⟨?_, by rw [World.frozen?_setCell]; exact hf⟩, hB.setCell (p := ⟨w1.heap.size, 0, none⟩) (Nat.le_refl _) _⟩
    rw [List.length_append, List.length_singleton]
    exact World.cell?_setCell_same' _ _ _ (by rw [hc]; rfl)
  case done =>
    rintro D ys W hD rfl ⟨⟨hc, hf⟩, hB⟩ hK
    go_wp2
    refine ⟨by simp, .inl ⟨_, _, rfl, run_takeDeferred hK, ?_⟩⟩
    refine ⟨_, results_tmp2 rfl _ _ _, rfl, HB.out.trans ((hB.trans ?_).mono HB.out.size)⟩
    exact belowK_b (w := w3) (by omega) W D _ _ hD hK rfl rfl
  case stop =>
    rintro D c pre W hD _ h _
    exact h.elim
end Go.Proofs.YtpfenoioeajkmaaDoor.X
end

section
set_option linter.unusedVariables false
set_option linter.unusedSimpArgs false
namespace Go.Proofs.YtpfenoioeajkmaaDoor.X
open Go.RowKit Go.Proofs.YtpfenoioeajkmaaDoorW.PrintWords Go.Proofs.YtpfenoioeajkmaaDoorW.PrintLast Go.Proofs.YtpfenoioeajkmaaDoorW.PrintMore Go.Proofs.YtpfenoioeajkmaaDoor.L
attribute [local go_sem] Oper.semAt_some
def four (x : Fct) : Obj := .cells #[.int .i64 x.1, .int .i64 x.2.1, .int .i64 x.2.2.1, .int .i64 x.2.2.2] 34
set_option maxHeartbeats 4000000 in
set_option maxRecDepth 100000 in
theorem Factors_no (s : ByteArray) (hs : s.size ≤ 1000) (h : isO s = false) (w : World) :
    Calls Tryd.prog 33 #[.string s] w fun e w' => e = .returned (.tuple #[.int .i64 0, .int .i64 2]) ∧ Below w.heap.size w w' := by
  have HO := Lib.hid (fun w => Is_any (s := s) hs w)
  have HH := Lib.hid h
  clear h
  go_enter Tryd.func33, Tryd.ntmps33
  go_wp2_with fail
  refine (HO.out _).mono ?_
  rintro e w1 ⟨rfl, hb1⟩
  rw [HH.out]
  go_wp2
  go_ret2
  exact ⟨rfl, hb1⟩
end Go.Proofs.YtpfenoioeajkmaaDoor.X
end

section
set_option linter.unusedVariables false
set_option linter.unusedSimpArgs false
namespace Go.Proofs.YtpfenoioeajkmaaDoor.X
open Go.RowKit Go.Proofs.YtpfenoioeajkmaaDoorW.PrintWords Go.Proofs.YtpfenoioeajkmaaDoorW.PrintLast Go.Proofs.YtpfenoioeajkmaaDoorW.PrintMore Go.Proofs.YtpfenoioeajkmaaDoor.L
set_option maxHeartbeats 2000000 in
set_option maxRecDepth 100000 in
theorem Tile_of (s : ByteArray) (n c : Int) (b : Bool) (hb : decide (0 < n) = b) (hF : ∀ w, Calls Tryd.prog 33 #[.string s] w fun e w' => e = .returned (.tuple #[.int .i64 n, .int .i64 c]) ∧ Below w.heap.size w w') (w : World) :
    Calls Tryd.prog 30 #[.string s] w fun e w' => e = .returned (.tuple #[.bool b, .int .i64 c]) ∧ Below w.heap.size w w' := by
  have HF := Lib.hid hF
  clear hF
  go_enter Tryd.func30, Tryd.ntmps30
  go_wp2_with fail
  refine (HF.out _).mono ?_
  rintro e w1 ⟨rfl, hb1⟩
  have H1 := Lib.hid ((Below.refl w.heap.size w).trans (hb1.mono (Below.refl w.heap.size w).size))
  clear hb1
  go_wp2
  go_ret2
  exact ⟨rfl, H1.out⟩
theorem Tile_yes (s : ByteArray) (h : isO s = true) (w : World) : Calls Tryd.prog 30 #[.string s] w fun e w' => e = .returned (.tuple #[.bool (decide (0 < ((facs s).length : Int))), .int .i64 0]) ∧ Below w.heap.size w w' :=
  Tile_of s _ 0 _ rfl (Factors_yes s h) w
theorem Tile_no (s : ByteArray) (hs : s.size ≤ 1000) (h : isO s = false) (w : World) : Calls Tryd.prog 30 #[.string s] w fun e w' => e = .returned (.tuple #[.bool false, .int .i64 2]) ∧ Below w.heap.size w w' :=
  Tile_of s 0 2 false rfl (Factors_no s hs h) w
theorem ris_calls (s : ByteArray) (hs : s.size ≤ 140737488351232) (w : World) : Calls Tryd.prog 24 #[.string s] w fun e w' => e = .returned (.bool (isO s)) ∧ Below w.heap.size w w' := ref_Is.calls s _ w (RIs_f hs)
theorem mem_fB {s : ByteArray} {k a : Nat} {x : Fct} : ∀ {m}, x ∈ fB s k a m → ∃ b, 1 ≤ b ∧ b ≤ m ∧ fT (rotF s k) (s.size / 2) a b = true ∧ x = (k, a, b, s.size / 2 - a - b)
  | 0, h => by cases h
  | m + 1, h => by
    rw [fB, List.mem_append] at h
    rcases h with h | h
    · obtain ⟨b, h1, h2, h3⟩ := mem_fB h
      exact ⟨b, h1, by omega, h3⟩
    · by_cases e : fT (rotF s k) (s.size / 2) a (m + 1) = true
      · rw [if_pos e, List.mem_singleton] at h
        exact ⟨m + 1, by omega, Nat.le_refl _, e, h⟩
      · rw [if_neg e] at h
        cases h
theorem mem_fA {s : ByteArray} {k : Nat} {x : Fct} : ∀ {m}, x ∈ fA s k m → ∃ a b, 1 ≤ a ∧ a ≤ m ∧ 1 ≤ b ∧ b ≤ s.size / 2 - a ∧ fT (rotF s k) (s.size / 2) a b = true ∧ x = (k, a, b, s.size / 2 - a - b)
  | 0, h => by cases h
  | m + 1, h => by
    rw [fA, List.mem_append] at h
    rcases h with h | h
    · obtain ⟨a, b, h1, h2, h3⟩ := mem_fA h
      exact ⟨a, b, h1, by omega, h3⟩
    · obtain ⟨b, h1, h2, h3⟩ := mem_fB h
      exact ⟨m + 1, b, by omega, Nat.le_refl _, h1, h2, h3⟩
theorem mem_fK {s : ByteArray} {x : Fct} : ∀ {m}, x ∈ fK s m → ∃ k a b, k < m ∧ 1 ≤ a ∧ a ≤ s.size / 2 - 1 ∧ 1 ≤ b ∧ b ≤ s.size / 2 - a ∧ fT (rotF s k) (s.size / 2) a b = true ∧ x = (k, a, b, s.size / 2 - a - b)
  | 0, h => by cases h
  | m + 1, h => by
    rw [fK, List.mem_append] at h
    rcases h with h | h
    · obtain ⟨k, a, b, h1, h2⟩ := mem_fK h
      exact ⟨k, a, b, by omega, h2⟩
    · obtain ⟨a, b, h1, h2, h3⟩ := mem_fA h
      exact ⟨m, a, b, by omega, h1, h2, h3⟩
theorem mem_facs {s : ByteArray} {x : Fct} (h : x ∈ facs s) : ∃ k a b, k < s.size ∧ 1 ≤ a ∧ a ≤ s.size / 2 - 1 ∧ 1 ≤ b ∧ b ≤ s.size / 2 - a ∧ fT (rotF s k) (s.size / 2) a b = true ∧ x = (k, a, b, s.size / 2 - a - b) := mem_fK h
end Go.Proofs.YtpfenoioeajkmaaDoor.X
end

section
set_option linter.unusedVariables false
set_option linter.unusedSimpArgs false
namespace Go.Proofs.YtpfenoioeajkmaaDoor.X
open Go.RowKit Go.Proofs.YtpfenoioeajkmaaDoorW.PrintWords Go.Proofs.YtpfenoioeajkmaaDoorW.PrintLast Go.Proofs.YtpfenoioeajkmaaDoorW.PrintMore Go.Proofs.YtpfenoioeajkmaaDoor.L
theorem own_growS {B : Nat} {u w w1 : World} {e sz n : Nat} {v : Value} {xs : List Value} (hb : Below B u w) (hs : w.ownsRow u.heap.size e sz v n xs) (hg : w.grownBy w1 v.ownBlock) (hB : B = u.heap.size := by rfl) : Below B u w1 := by
  subst hB
  refine hb.grown hg hb.size fun k hk => ?_
  obtain ⟨_, ⟨h, _⟩ | ⟨g, cap, cur, h, h2, _⟩⟩ := hs
  · rw [h] at hk
    simp [Value.ownBlock] at hk
  · rw [h] at hk
    simp [Value.ownBlock] at hk
    omega
end Go.Proofs.YtpfenoioeajkmaaDoor.X
end

section
set_option linter.unusedVariables false
set_option linter.unusedSimpArgs false
namespace Go.Proofs.YtpfenoioeajkmaaDoor.X
open Go.RowKit Go.Proofs.YtpfenoioeajkmaaDoorW.PrintWords Go.Proofs.YtpfenoioeajkmaaDoorW.PrintLast Go.Proofs.YtpfenoioeajkmaaDoorW.PrintMore Go.Proofs.YtpfenoioeajkmaaDoor.L
structure Kept (B : Nat) (o : Obj) (w : World) : Prop where
  h : w.heap[B]? = some o
theorem Kept.lt {B : Nat} {o : Obj} {w : World} (h : Kept B o w) : B < w.heap.size := (Array.getElem?_eq_some_iff.1 h.h).1
theorem Kept.later {B : Nat} {o : Obj} {w w' : World} (h : Kept B o w) (hb : Below w.heap.size w w') : Kept B o w' := ⟨(hb.block B h.lt).trans h.h⟩
theorem isO_4 {s : ByteArray} (h : isO s = true) : 4 ≤ s.size := by
  unfold isO at h
  simp only [Bool.and_eq_true, decide_eq_true_eq] at h
  omega
end Go.Proofs.YtpfenoioeajkmaaDoor.X
end

section
set_option linter.unusedVariables false
set_option linter.unusedSimpArgs false
namespace Go.Proofs.YtpfenoioeajkmaaDoor.X
open Go.RowKit Go.Proofs.YtpfenoioeajkmaaDoorW.PrintWords Go.Proofs.YtpfenoioeajkmaaDoorW.PrintLast Go.Proofs.YtpfenoioeajkmaaDoorW.PrintMore
structure Pts (w : World) (b off n : Nat) (x y : Nat → Int) : Prop where
  c0 : ∀ i : Nat, i < n → w.cell? ⟨b, off + i * 2, none⟩ = some (.int .i64 (x i))
  c1 : ∀ i : Nat, i < n → w.cell? ⟨b, off + i * 2 + 1, none⟩ = some (.int .i64 (y i))
theorem Pts.later {w w' : World} {b off n : Nat} {x y : Nat → Int} (h : Pts w b off n x y) (hb : Below w.heap.size w w') : Pts w' b off n x y :=
  ⟨fun i hi => (hb.cell (p := ⟨b, off + i * 2, none⟩) (World.block_lt_of_cell? w _ (h.c0 i hi))).trans (h.c0 i hi), fun i hi => (hb.cell (p := ⟨b, off + i * 2 + 1, none⟩) (World.block_lt_of_cell? w _ (h.c1 i hi))).trans (h.c1 i hi)⟩
def flat (x y : Nat → Int) : Nat → List Value
  | 0 => []
  | k + 1 => flat x y k ++ [.int .i64 (x k), .int .i64 (y k)]
theorem flat_length (x y : Nat → Int) : ∀ k, (flat x y k).length = k * 2
  | 0 => rfl
  | k + 1 => by rw [flat, List.length_append, flat_length x y k]; simp; omega
theorem flat_get (x y : Nat → Int) : ∀ k i, i < k → (flat x y k)[i * 2]? = some (.int .i64 (x i)) ∧ (flat x y k)[i * 2 + 1]? = some (.int .i64 (y i))
  | 0, i, h => by omega
  | k + 1, i, h => by
    have hl := flat_length x y k
    rw [flat]
    by_cases e : i = k
    · subst e
      rw [List.getElem?_append_right (by omega), List.getElem?_append_right (by omega), hl]
      simp
    · rw [List.getElem?_append_left (by omega), List.getElem?_append_left (by omega)]
      exact flat_get x y k i (by omega)
theorem own_pts {w : World} {base e n : Nat} {v : Value} {x y : Nat → Int} (h : w.ownsRow base e 2 v n (flat x y n)) :
    (v = .slice none 0 0 ∧ n = 0) ∨ ∃ g cap, v = .slice (some ⟨g, 0, none⟩) n cap ∧ base ≤ g ∧ g < w.heap.size ∧ n ≤ cap ∧ Pts w g 0 n x y := by
  obtain ⟨_, h | ⟨g, cap, cur, rfl, hg, hb, hn, _, hs, ht⟩⟩ := h
  · exact .inl h
  · refine .inr ⟨g, cap, rfl, hg, (Array.getElem?_eq_some_iff.1 hb).1, hn, ?_⟩
    have key : ∀ j u, (flat x y n)[j]? = some u → j < n * 2 → w.cell? ⟨g, 0 + j, none⟩ = some u := fun j u hu hj => by
      rw [← ht, List.getElem?_take, if_pos hj] at hu
      have hu' : cur[j]? = some u := by simpa using hu
      rw [Nat.zero_add]
      unfold World.cell?
      simp only [hb]
      simpa using hu'
    exact ⟨fun i hi => key _ _ (flat_get x y n i hi).1 (by omega), fun i hi => by rw [Nat.add_assoc]; exact key _ _ (flat_get x y n i hi).2 (by omega)⟩
theorem two_new (w : World) (t : TypeId) (u v : Value) : ∀ (j : Nat) z, ([u, v] : List Value)[j]? = some z → (w.alloc (.cells #[u, v] t)).cell? ((⟨w.heap.size, 0, none⟩ : Addr).add j) = some z := fun j z hz => by
  have hj : j = 0 ∨ j = 1 := by
    have := (List.getElem?_eq_some_iff.1 hz).1
    simp at this
    omega
  rcases hj with rfl | rfl
  · simp at hz
    simp [Addr.add, hz]
  · simp at hz
    simp [Addr.add, hz]
end Go.Proofs.YtpfenoioeajkmaaDoor.X
end

section
set_option linter.unusedVariables false
set_option linter.unusedSimpArgs false
namespace Go.Proofs.YtpfenoioeajkmaaDoor.X
open Go.RowKit Go.Proofs.YtpfenoioeajkmaaDoorW.PrintWords Go.Proofs.YtpfenoioeajkmaaDoorW.PrintLast Go.Proofs.YtpfenoioeajkmaaDoorW.PrintMore
def Sl (w : World) (A : Option Addr) (n c : Nat) (x y : Nat → Int) : Prop := (A = none ∧ n = 0 ∧ c = 0) ∨ (∃ b off, A = some ⟨b, off, none⟩ ∧ n ≤ c ∧ Pts w b off n x y) ∨ ∃ ad, A = some ad ∧ n = 0
theorem Sl.later {w w' : World} {A : Option Addr} {n c : Nat} {x y : Nat → Int} (h : Sl w A n c x y) (hb : Below w.heap.size w w') : Sl w' A n c x y := by
  rcases h with h | ⟨b, off, h1, h2, h3⟩ | h
  · exact .inl h
  · exact .inr (.inl ⟨b, off, h1, h2, h3.later hb⟩)
  · exact .inr (.inr h)
theorem Sl.of_own {w : World} {base e n : Nat} {v : Value} {x y : Nat → Int} (h : w.ownsRow base e 2 v n (flat x y n)) : ∃ A c, v = .slice A n c ∧ Sl w A n c x y := by
  rcases own_pts h with ⟨rfl, rfl⟩ | ⟨g, cap, rfl, _, _, hn, hp⟩
  · exact ⟨none, 0, rfl, .inl ⟨rfl, rfl, rfl⟩⟩
  · exact ⟨_, cap, rfl, .inr (.inl ⟨g, 0, rfl, hn, hp⟩)⟩
theorem info29 : (Tryd.prog.info? 29).map (fun i => (i.zero, i.size, i.bytes)) = some (some (.agg #[.int .i64 0, .int .i64 0]), 2, 16) := by kernel_rfl
end Go.Proofs.YtpfenoioeajkmaaDoor.X
end

section
set_option linter.unusedVariables false
set_option linter.unusedSimpArgs false
namespace Go.Proofs.YtpfenoioeajkmaaDoor.X
open Go.RowKit Go.Proofs.YtpfenoioeajkmaaDoorW.PrintWords Go.Proofs.YtpfenoioeajkmaaDoorW.PrintLast Go.Proofs.YtpfenoioeajkmaaDoorW.PrintMore
theorem mul_100 {a b : Int} (ha : -100 ≤ a ∧ a ≤ 100) (hb : -100 ≤ b ∧ b ≤ 100) : -10000 ≤ a * b ∧ a * b ≤ 10000 := by
  have h3 : (a * b).natAbs ≤ 100 * 100 := by rw [Int.natAbs_mul]; exact Nat.mul_le_mul (by omega) (by omega)
  omega
theorem mul_200 {a b : Int} (ha : -200 ≤ a ∧ a ≤ 200) (hb : -100 ≤ b ∧ b ≤ 100) : -20000 ≤ a * b ∧ a * b ≤ 20000 := by
  have h3 : (a * b).natAbs ≤ 200 * 100 := by rw [Int.natAbs_mul]; exact Nat.mul_le_mul (by omega) (by omega)
  omega
def hits (x y : Nat → Int) (v0 v1 u0 u1 D : Int) (i j : Nat) : Bool := Int.tmod ((x i - x j) * u1 - (y i - y j) * u0) D == 0 && Int.tmod (v0 * (y i - y j) - v1 * (x i - x j)) D == 0
def clear' (x y : Nat → Int) (v0 v1 u0 u1 D : Int) (k : Nat) : Prop := ∀ i j, i < k → j < i → hits x y v0 v1 u0 u1 D i j = false
theorem q_small {a b c d : Int} (ha : -200 ≤ a ∧ a ≤ 200) (hb : -100 ≤ b ∧ b ≤ 100) (hc : -200 ≤ c ∧ c ≤ 200) (hd : -100 ≤ d ∧ d ≤ 100) : wrap64 (wrap64 (a * b) - wrap64 (c * d)) = a * b - c * d := by
  have p1 := mul_200 ha hb
  have p2 := mul_200 hc hd
  generalize a * b = e at *
  generalize c * d = f at *
  unfold wrap64
  omega
theorem two_cells (w : World) (t : TypeId) (u v : Value) : (w.alloc (.cells #[u, v] t)).cell? ⟨w.heap.size, 0, none⟩ = some u ∧ (w.alloc (.cells #[u, v] t)).cell? ⟨w.heap.size, 1, none⟩ = some v := by constructor <;> simp
end Go.Proofs.YtpfenoioeajkmaaDoor.X
end

section
set_option linter.unusedVariables false
set_option linter.unusedSimpArgs false
namespace Go.Proofs.YtpfenoioeajkmaaDoor.X
open Go.RowKit Go.Proofs.YtpfenoioeajkmaaDoorW.PrintWords Go.Proofs.YtpfenoioeajkmaaDoorW.PrintLast Go.Proofs.YtpfenoioeajkmaaDoorW.PrintMore Go.Proofs.YtpfenoioeajkmaaDoor.L
def rcb (X Y x y c : Int) : Int := if x < X ∧ c = 117 ∧ Y = y then 1 else if x < X ∧ c = 100 ∧ Y = y + 1 then -1 else 0
def cntTo (s : ByteArray) (x y : Int) : Nat → Int
  | 0 => 0
  | k + 1 => cntTo s x y k + rcb (sumx s k) (rsumy s k) x y (bt s k)
theorem cntTo_le (s : ByteArray) (x y : Int) : ∀ k : Nat, -(k : Int) ≤ cntTo s x y k ∧ cntTo s x y k ≤ k
  | 0 => by simp [cntTo]
  | k + 1 => by
    have := cntTo_le s x y k
    rw [cntTo]
    unfold rcb
    (repeat' split) <;> omega
def flatP : List (Int × Int) → List Value
  | [] => []
  | p :: l => [.int .i64 p.1, .int .i64 p.2] ++ flatP l
theorem flatP_app : ∀ (l m : List (Int × Int)), flatP (l ++ m) = flatP l ++ flatP m
  | [], m => rfl
  | p :: l, m => by rw [List.cons_append, flatP, flatP, flatP_app l m, List.append_assoc]
theorem flatP_one (x y : Int) : flatP [(x, y)] = [.int .i64 x, .int .i64 y] := List.append_nil _
def colTo (s : ByteArray) (x : Int) : Nat → List (Int × Int)
  | 0 => []
  | m + 1 => colTo s x m ++ if cntTo s x ((m : Int) - 24) s.size = 1 then [(x, (m : Int) - 24)] else []
def cellsTo (s : ByteArray) : Nat → List (Int × Int)
  | 0 => []
  | m + 1 => cellsTo s m ++ colTo s ((m : Int) - 24) 49
def OwnP (B : Nat) (e : TypeId) (w : World) (v : Value) (l : List (Int × Int)) : Prop := w.ownsRow B e 2 v l.length (flatP l)
theorem colTo_len (s : ByteArray) (x : Int) : ∀ m, (colTo s x m).length ≤ m
  | 0 => by simp [colTo]
  | m + 1 => by
    have := colTo_len s x m
    rw [colTo, List.length_append]
    split <;> simp <;> omega
theorem cellsTo_len (s : ByteArray) : ∀ m, (cellsTo s m).length ≤ m * 49
  | 0 => by simp [cellsTo]
  | m + 1 => by
    have := cellsTo_len s m
    have := colTo_len s ((m : Int) - 24) 49
    rw [cellsTo, List.length_append]
    omega
set_option maxHeartbeats 16000000 in
set_option maxRecDepth 100000 in
theorem rCells_calls (s : ByteArray) (hs24 : s.size ≤ 24) (w : World) :
    Calls Tryd.prog 50 #[.string s] w fun e w' => (∃ v, e = .returned v ∧ OwnP w.heap.size 29 w' v (cellsTo s 49)) ∧ Below w.heap.size w w' := by
  go_enter Tryd.func50, Tryd.ntmps50
  go_wp2_with fail
  have HB := Lib.hid (Below.refl w.heap.size w)
  have HO : Hid (OwnP w.heap.size 29 w (.slice none 0 0) (cellsTo s 0)) := Lib.hid (World.ownsRow_nil w w.heap.size 29 2)
  go_loopw [4, 3] (fun i v wr => ∃ p : Nat, p ≤ 49 ∧ i = .int .i64 ((p : Int) - 24) ∧ Hid (OwnP w.heap.size 29 wr v (cellsTo s p)) ∧ Hid (Below w.heap.size w wr)) (fun i _ _ => 25 - (intOf i) |>.toNat)
  case atStart => exact ⟨0, by omega, rfl, HO, HB⟩
  case round =>
    clear HO HB
    obtain ⟨p, hp, rfl, HO, HB⟩ := hrel
    obtain ⟨x, hx⟩ : ∃ x : Int, (p : Int) - 24 = x := ⟨_, rfl⟩
    have hx1 : -24 ≤ x ∧ x ≤ 25 := by omega
    rw [hx]
    have HX := Lib.hid hx
    clear hx
    by_cases hlt : x ≤ 24
    · obtain ⟨wo, rfl⟩ : ∃ wo : World, wo = wr := ⟨_, rfl⟩
      go_wp2_with fail
      go_loopw [5, 3] (fun i v wr => ∃ q : Nat, q ≤ 49 ∧ i = .int .i64 ((q : Int) - 24) ∧ Hid (OwnP w.heap.size 29 wr v (cellsTo s p ++ colTo s x q)) ∧ Hid (Below w.heap.size w wr)) (fun i _ _ => 25 - (intOf i) |>.toNat)
      case atStart => exact ⟨0, by omega, rfl, by rw [colTo, List.append_nil]; exact HO, HB⟩
      case round =>
        clear HO HB
        obtain ⟨q, hq, rfl, HO, HB⟩ := hrel
        obtain ⟨y, hy⟩ : ∃ y : Int, (q : Int) - 24 = y := ⟨_, rfl⟩
        have hy1 : -24 ≤ y ∧ y ≤ 25 := by omega
        rw [hy]
        have HY := Lib.hid hy
        clear hy
        by_cases hlty : y ≤ 24
        · obtain ⟨wp, rfl⟩ : ∃ wp : World, wp = wr := ⟨_, rfl⟩
          go_wp2_with fail
          have HB2 := Lib.hid (Below.refl wp.heap.size wp)
          go_loopw [19, 6] (fun i v wr => ∃ k : Nat, k ≤ s.size ∧ i = .int .i64 k ∧ v = .int .i64 (cntTo s x y k) ∧ Hid (Below wp.heap.size wp wr)) (fun i _ _ => s.size - (intOf i).toNat)
          case atStart => exact ⟨0, by omega, rfl, rfl, HB2⟩
          case round =>
            clear HB2
            obtain ⟨k, hk, rfl, rfl, HB2⟩ := hrel
            by_cases hks : k < s.size
            · have hbt : (((s[k]'hks).toNat : Nat) : Int) = bt s (k : Int) := bt_at s (k : Int) hks
              go_wp2_with fail
              have hek : (s.extract 0 k).size = k := by rw [ByteArray.size_extract]; omega
              refine (Sum_calls (s.extract 0 k) _ (by omega)).mono ?_
              rintro e w3 ⟨rfl, hb3⟩
              have HB3 := Lib.hid (HB2.out.trans (hb3.mono HB2.out.size))
              rw [hek, sumx_cut s 0 k (by omega) k (by omega), rsumy_cut s 0 k (by omega) k (by omega), Nat.zero_add, show sumx s 0 = 0 from rfl, show rsumy s 0 = 0 from rfl, Int.sub_zero, Int.sub_zero]
              unfold ptV
              clear hb3 hek
              have hcl := cntTo_le s x y k
              obtain ⟨X, hXX⟩ : ∃ X, sumx s k = X := ⟨_, rfl⟩
              obtain ⟨Y, hYY⟩ : ∃ Y, rsumy s k = Y := ⟨_, rfl⟩
              obtain ⟨c, hc⟩ : ∃ c, bt s (k : Int) = c := ⟨_, rfl⟩
              rw [hXX, hYY]
              rw [hc] at hbt
              have HXX := Lib.hid hXX
              have HYY := Lib.hid hYY
              have HC := Lib.hid hc
              clear hXX hYY hc
              have HB4 : Hid (Below wp.heap.size wp (w3.alloc (.cells #[.int .i64 X, .int .i64 Y] 29))) := Lib.hid (HB3.out.trans ((below_one _).mono HB3.out.size))
              have hy2 : wrap64 (y + 1) = y + 1 := by unfold wrap64; omega
              obtain ⟨N, hN⟩ : ∃ N, cntTo s x y k = N := ⟨_, rfl⟩
              rw [hN] at hcl ⊢
              have HN := Lib.hid hN
              clear hN
              by_cases hxX : x < X
              · have hx' : decide (x < X) = true := decide_eq_true hxX
                by_cases h1 : c = 117
                · have b1 : (c == 117) = true := by simp [h1]
                  have b2 : (c == 100) = false := by simp [h1]
                  have hc' := Lib.hid h1
                  clear h1
                  by_cases h3 : Y = y
                  · have b3 : (Y == y) = true := by simp [h3]
                    have hv : rcb X Y x y c = 1 := by unfold rcb; rw [if_pos ⟨hxX, hc'.out, h3⟩]
                    clear h3
                    go_wp2_with fail
                    refine ⟨⟨k + 1, by omega, by go_num, ?_, HB4⟩, by simp [intOf]; omega⟩
                    rw [cntTo, HC.out, HXX.out, HYY.out, hv, HN.out]
                    try (congr 1; unfold wrap64; omega)
                  · have b3 : (Y == y) = false := by simp [h3]
                    have hv : rcb X Y x y c = 0 := by unfold rcb; rw [if_neg (fun q => h3 q.2.2), if_neg (fun q => by have := hc'.out; omega)]
                    clear h3
                    go_wp2_with fail
                    refine ⟨⟨k + 1, by omega, by go_num, ?_, HB4⟩, by simp [intOf]; omega⟩
                    rw [cntTo, HC.out, HXX.out, HYY.out, hv, HN.out, Int.add_zero]
                · have b1 : (c == 117) = false := by simp [h1]
                  by_cases h2 : c = 100
                  · have b2 : (c == 100) = true := by simp [h2]
                    have hc' := Lib.hid h2
                    clear h1 h2
                    by_cases h3 : Y = y + 1
                    · have b3 : (Y == y + 1) = true := by simp [h3]
                      have hv : rcb X Y x y c = -1 := by unfold rcb; rw [if_neg (fun q => by have := hc'.out; omega), if_pos ⟨hxX, hc'.out, h3⟩]
                      clear h3
                      go_wp2_with fail
                      refine ⟨⟨k + 1, by omega, by go_num, ?_, HB4⟩, by simp [intOf]; omega⟩
                      rw [cntTo, HC.out, HXX.out, HYY.out, hv, HN.out]
                      exact congrArg (Value.int .i64) (by omega)
                    · have b3 : (Y == y + 1) = false := by simp [h3]
                      have hv : rcb X Y x y c = 0 := by unfold rcb; rw [if_neg (fun q => by have := hc'.out; omega), if_neg (fun q => h3 q.2.2)]
                      clear h3
                      go_wp2_with fail
                      refine ⟨⟨k + 1, by omega, by go_num, ?_, HB4⟩, by simp [intOf]; omega⟩
                      rw [cntTo, HC.out, HXX.out, HYY.out, hv, HN.out, Int.add_zero]
                  · have b2 : (c == 100) = false := by simp [h2]
                    have hv : rcb X Y x y c = 0 := by unfold rcb; rw [if_neg (fun q => h1 q.2.1), if_neg (fun q => h2 q.2.1)]
                    clear h1 h2
                    go_wp2_with fail
                    refine ⟨⟨k + 1, by omega, by go_num, ?_, HB4⟩, by simp [intOf]; omega⟩
                    rw [cntTo, HC.out, HXX.out, HYY.out, hv, HN.out, Int.add_zero]
              · have hx' : decide (x < X) = false := decide_eq_false hxX
                have hv : rcb X Y x y c = 0 := by unfold rcb; rw [if_neg (fun q => hxX q.1), if_neg (fun q => hxX q.1)]
                clear hxX
                go_wp2_with fail
                refine ⟨⟨k + 1, by omega, by go_num, ?_, HB4⟩, by simp [intOf]; omega⟩
                rw [cntTo, HC.out, HXX.out, HYY.out, hv, HN.out, Int.add_zero]
            · obtain rfl : k = s.size := by omega
              have HB5 := Lib.hid (HB.out.trans (HB2.out.mono HB.out.size))
              have HO5 : Hid (OwnP w.heap.size 29 wr u3 _) := Lib.hid (pw_own_below HO.out HB2.out)
              clear HB HO HB2
              by_cases h1 : cntTo s x y s.size = 1
              · have b1 : (cntTo s x y s.size == 1) = true := by simp [h1]
                have H1 := Lib.hid h1
                clear h1
                obtain ⟨i0, hi0, hz0, hz1, hz2⟩ := info_parts info29
                have HI := Lib.hid hi0
                have HZ := Lib.hid (And.intro hz0 (And.intro hz1 hz2))
                clear hi0 hz0 hz1 hz2
                have hb7 := below_one (w := wr) (.cells #[.int .i64 x, .int .i64 y] 29)
                have HO7 : Hid (wr.alloc (.cells #[.int .i64 x, .int .i64 y] 29) |>.ownsRow w.heap.size 29 2 u3 _ _) := Lib.hid (pw_own_below HO5.out hb7)
                have HB7 := Lib.hid (HB5.out.trans (hb7.mono HB5.out.size))
                have hlen : (cellsTo s p ++ colTo s x q).length ≤ 49 * 49 + 49 := by
                  have a1 := cellsTo_len s p
                  have a2 := colTo_len s x q
                  rw [List.length_append]
                  have := Nat.mul_le_mul_right 49 hp
                  omega
                have HL := Lib.hid hlen
                clear hb7 hlen
                go_wp2_with (first | (at_builtin; go_loud (refine wpList_append_own_at _ rfl (.tmp 66) (.tmp 70) 45 rfl w.heap.size 29 i0 _ 2 16 Tryd.underlying45 HI.out HZ.out.1 HZ.out.2.1 HZ.out.2.2 rfl (by decide) u3 _ _ rfl HO7.out ⟨wr.heap.size, 0, none⟩ 1 1 [.int .i64 x, .int .i64 y] rfl rfl (two_new _ _ _ _) (by simp [Value.oneCell']) (by have := HL.out; unfold maxLen; omega) (by have := HL.out; omega) HB7.out.size ?_); intro v1 w8 hown1 hgrow1 _ _; have HO8 := Lib.hid hown1; have HB8 := Lib.hid (own_growS HB7.out HO7.out hgrow1); clear hown1 hgrow1) | go_in)
                refine ⟨⟨q + 1, by have := HY.out; omega, by rw [← HY.out]; congr 1; first | omega | (unfold wrap64; omega), ?_, HB8⟩, by have := HY.out; simp [intOf]; omega⟩
                refine Lib.hid ?_
                rw [colTo, HY.out, if_pos H1.out, ← List.append_assoc]
                unfold OwnP
                rw [List.length_append, flatP_app, flatP_one]
                exact HO8.out
              · have b1 : (cntTo s x y s.size == 1) = false := by simp [h1]
                have H1 := Lib.hid h1
                clear h1
                go_wp2_with fail
                refine ⟨⟨q + 1, by have := HY.out; omega, by rw [← HY.out]; congr 1; first | omega | (unfold wrap64; omega), ?_, HB5⟩, by have := HY.out; simp [intOf]; omega⟩
                rw [colTo, HY.out, if_neg H1.out, List.append_nil]
                exact HO5
        · obtain rfl : q = 49 := by have := HY.out; omega
          go_wp2_with fail
          refine ⟨⟨p + 1, by have := HX.out; omega, by rw [← HX.out]; congr 1; first | omega | (unfold wrap64; omega), ?_, HB⟩, by have := HX.out; simp [intOf]; omega⟩
          rw [cellsTo, HX.out]
          exact HO
    · obtain rfl : p = 49 := by have := HX.out; omega
      go_wp2
      go_ret
      exact ⟨⟨_, rfl, HO.out⟩, HB.out⟩
end Go.Proofs.YtpfenoioeajkmaaDoor.X
end

section
set_option linter.unusedVariables false
set_option linter.unusedSimpArgs false
namespace Go.Proofs.YtpfenoioeajkmaaDoor.X
open Go.RowKit Go.Proofs.YtpfenoioeajkmaaDoorW.PrintWords Go.Proofs.YtpfenoioeajkmaaDoorW.PrintLast Go.Proofs.YtpfenoioeajkmaaDoorW.PrintMore Go.Proofs.YtpfenoioeajkmaaDoor.L
set_option maxHeartbeats 8000000 in
set_option maxRecDepth 100000 in
theorem RFills_any (A : Option Addr) (n c : Nat) (x y : Nat → Int) (v0 v1 u0 u1 : Int) (w : World) (hA : Sl w A n c x y) (hn : n ≤ 9223372036854775807) (hn1 : 1 ≤ n) (hn30 : n ≤ 100) (hxy : ∀ i, i < n → -100 ≤ x i ∧ x i ≤ 100 ∧ -100 ≤ y i ∧ y i ≤ 100)
    (hv : (-100 ≤ v0 ∧ v0 ≤ 100) ∧ (-100 ≤ v1 ∧ v1 ≤ 100) ∧ (-100 ≤ u0 ∧ u0 ≤ 100) ∧ (-100 ≤ u1 ∧ u1 ≤ 100)) (D : Int) (hD : v0 * u1 - v1 * u0 = D) (hr : max D (-D) = n) (r : Bool) (hres : r = true ↔ clear' x y v0 v1 u0 u1 D n) :
    Calls Tryd.prog 44 #[.slice A n c, ptV v0 v1, ptV u0 u1] w fun e w' => e = .returned (.bool r) ∧ Below w.heap.size w w' := by
  have HA := Lib.hid hA
  have HR := Lib.hid hres
  have HX := Lib.hid hxy
  have HV := Lib.hid hv
  obtain ⟨k1, k2, k3, k4⟩ := hv
  have p1 := mul_100 k1 k4
  have p2 := mul_100 k2 k3
  have hdet : wrap64 (wrap64 (v0 * u1) - wrap64 (v1 * u0)) = D := by
    rw [← hD]
    generalize v0 * u1 = a at *
    generalize v1 * u0 = b at *
    unfold wrap64
    omega
  have hDb : -20000 ≤ D ∧ D ≤ 20000 := by
    rw [← hD]
    generalize v0 * u1 = a at *
    generalize v1 * u0 = b at *
    omega
  have hneg : wrap64 (-D) = -D := by unfold wrap64; omega
  have hD0 : D ≠ 0 := by omega
  have hb2 : -100 ≤ min (min (min v0 v1) u0) u1 := by omega
  have hb3 : max (max (max v0 v1) u0) u1 ≤ 100 := by omega
  clear hA p1 p2 hD k1 k2 k3 k4 hres hxy
  unfold ptV
  go_enter Tryd.func44, Tryd.ntmps44
  have hb1 := (below_one (w := w) (.cells #[.int .i64 v0, .int .i64 v1] 29)).alloc (by simp) (.cells #[.int .i64 u0, .int .i64 u1] 29)
  have a0 : ((w.alloc (.cells #[.int .i64 v0, .int .i64 v1] 29)).alloc (.cells #[.int .i64 u0, .int .i64 u1] 29)).cell? ⟨w.heap.size, 0, none⟩ = some (.int .i64 v0) := by simp
  have a1 : ((w.alloc (.cells #[.int .i64 v0, .int .i64 v1] 29)).alloc (.cells #[.int .i64 u0, .int .i64 u1] 29)).cell? ⟨w.heap.size, 1, none⟩ = some (.int .i64 v1) := by simp
  have a2 : ((w.alloc (.cells #[.int .i64 v0, .int .i64 v1] 29)).alloc (.cells #[.int .i64 u0, .int .i64 u1] 29)).cell? ⟨w.heap.size + 1, 0, none⟩ = some (.int .i64 u0) := by simp
  have a3 : ((w.alloc (.cells #[.int .i64 v0, .int .i64 v1] 29)).alloc (.cells #[.int .i64 u0, .int .i64 u1] 29)).cell? ⟨w.heap.size + 1, 1, none⟩ = some (.int .i64 u1) := by simp
  have HB := Lib.hid hb1
  have HA1 := Lib.hid (HA.out.later hb1)
  have HC := Lib.hid (And.intro a0 (And.intro a1 (And.intro a2 a3)))
  clear a0 a1 a2 a3 hb1 hb2 hb3
  have hne : (max D (-D) == (n : Int)) = true := by simp [hr]
  clear hDb
  go_wp2_with fail
  rw [hdet]
  generalize (w.alloc (.cells #[.int .i64 v0, .int .i64 v1] 29)).alloc (.cells #[.int .i64 u0, .int .i64 u1] 29) = w1 at HB HA1 HC ⊢
  have g1 : w.heap.size + 1 < w1.heap.size := World.block_lt_of_cell? _ _ HC.out.2.2.1
  obtain ⟨b, off, rfl, hnc, hP⟩ : ∃ b off, A = some ⟨b, off, none⟩ ∧ n ≤ c ∧ Pts w1 b off n x y := by
    rcases HA1.out with ⟨_, h2, _⟩ | h | ⟨_, _, h2⟩
    · omega
    · exact h
    · omega
  have HP := Lib.hid hP
  clear hP HA HA1 hdet hneg hne hr
  have HB1 := Lib.hid (Below.refl w1.heap.size w1)
  go_loopw [34] (fun i wr => ∃ k : Nat, k ≤ n ∧ i = .int .i64 k ∧ Hid (clear' x y v0 v1 u0 u1 D k) ∧ Hid (Below w1.heap.size w1 wr)) (fun i _ => n - (intOf i).toNat)
  case atStart => exact ⟨0, by omega, rfl, Lib.hid (fun i j h => by omega), HB1⟩
  case round =>
    clear HB1
    obtain ⟨k, hk, rfl, HK, HB1⟩ := hrel
    by_cases hlt : k < n
    · have hp := HP.out.later HB1.out
      have q0 := hp.c0 k hlt
      have q1 := hp.c1 k hlt
      have hkc : k ≤ c := by omega
      clear hp
      go_wp2_with fail
      obtain ⟨c0, c1⟩ := two_cells wr 29 (.int .i64 (x k)) (.int .i64 (y k))
      have hbo : Below w1.heap.size w1 (wr.alloc (.cells #[.int .i64 (x k), .int .i64 (y k)] 29)) := HB1.out.trans ((below_one _).mono HB1.out.size)
      generalize wr.heap.size = G at c0 c1 ⊢
      generalize wr.alloc (.cells #[.int .i64 (x k), .int .i64 (y k)] 29) = wo at c0 c1 hbo ⊢
      have HO := Lib.hid hbo
      have HC0 := Lib.hid (And.intro c0 c1)
      have HB2 := Lib.hid (Below.refl wo.heap.size wo)
      clear hbo c0 c1 q0 q1
      clear HB1
      clear wr
      go_loopw [43] (fun j wr => ∃ m : Nat, m ≤ k ∧ j = .int .i64 m ∧ Hid (∀ j, j < m → hits x y v0 v1 u0 u1 D k j = false) ∧ Hid (Below wo.heap.size wo wr)) (fun j _ => k - (intOf j).toNat)
      case atStart => exact ⟨0, by omega, rfl, Lib.hid (fun j h => by omega), HB2⟩
      case round =>
        clear HB2
        obtain ⟨m, hm, rfl, HM, HB2⟩ := hrel
        by_cases hmt : m < k
        · have hw1 := HO.out.trans (HB2.out.mono HO.out.size)
          have hp := HP.out.later hw1
          have q0 := hp.c0 m (by omega)
          have q1 := hp.c1 m (by omega)
          have c0 := (HB2.out.cell (p := ⟨G, 0, none⟩) (World.block_lt_of_cell? _ _ HC0.out.1)).trans HC0.out.1
          have c1 := (HB2.out.cell (p := ⟨G, 1, none⟩) (World.block_lt_of_cell? _ _ HC0.out.2)).trans HC0.out.2
          have hGl : G < wr.heap.size := World.block_lt_of_cell? _ _ c0
          have hbi := below_one (w := wr) (.cells #[.int .i64 (x m), .int .i64 (y m)] 29)
          have c0' := (hbi.cell (p := ⟨G, 0, none⟩) hGl).trans c0
          have c1' := (hbi.cell (p := ⟨G, 1, none⟩) hGl).trans c1
          obtain ⟨c2', c3'⟩ := two_cells wr 29 (.int .i64 (x m)) (.int .i64 (y m))
          have HW1 := Lib.hid (hw1.trans (hbi.mono hw1.size))
          have HB3 := Lib.hid (HB2.out.trans (hbi.mono HB2.out.size))
          clear hp c0 c1 hw1 hbi
          go_wp2_with fail
          clear q0 q1 hGl
          generalize wr.heap.size = H' at c2' c3' ⊢
          generalize wr.alloc (.cells #[.int .i64 (x m), .int .i64 (y m)] 29) = w4 at c0' c1' c2' c3' HW1 HB3 ⊢
          have hxk := HX.out k hlt
          have hxm := HX.out m (by omega)
          have hdx : wrap64 (x k - x m) = x k - x m := by unfold wrap64; omega
          have hdy : wrap64 (y k - y m) = y k - y m := by unfold wrap64; omega
          refine start_ (n := 12) (S := fun w' => w'.cell? ⟨G, 0, none⟩ = some (.int .i64 (x k)) ∧ w'.cell? ⟨G, 1, none⟩ = some (.int .i64 (y k)) ∧ w'.cell? ⟨H', 0, none⟩ = some (.int .i64 (x m)) ∧ w'.cell? ⟨H', 1, none⟩ = some (.int .i64 (y m))) (ds := []) #[false, false, false, false, false, false, false, false, false, false, false, false] (by kernel_rfl) rfl rfl ⟨by simpa using c0', by simpa using c1', by simpa using c2', by simpa using c3'⟩ (fun hHeld => ?_)
          refine pure_ (i := 0) (N := (some 47)) (v := ?_) (a' := ?_) #[true, false, false, false, false, false, false, false, false, false, false, false] rfl rfl (by kernel_rfl) (fun _ _ _ h => h) (Or.inl ⟨by rfl, ?_⟩) ?_ ?_
          rotate_left
          · intro w'; go_simp; first | done | with_reducible rfl
          rotate_left
          · simp only [Act.put, List.setIfInBounds_toArray, List.set_cons_zero, List.set_cons_succ, i64_w, i32_w]; rfl
          refine take_ (i := 1) (N := (some 48)) (v := ?_) (a' := ?_) #[true, true, false, false, false, false, false, false, false, false, false, false] rfl rfl (by kernel_rfl) (fun _ _ _ h => h) (Or.inl ⟨by rfl, ?_⟩) hHeld ?_ ?_
          rotate_left
          · rintro w' ⟨s0, s1, s2, s3⟩; go_simp; first | done | with_reducible rfl
          rotate_left
          · simp only [Act.put, List.setIfInBounds_toArray, List.set_cons_zero, List.set_cons_succ, i64_w, i32_w]; rfl
          refine pure_ (i := 2) (N := (some 49)) (v := ?_) (a' := ?_) #[true, true, true, false, false, false, false, false, false, false, false, false] rfl rfl (by kernel_rfl) (fun _ _ _ h => h) (Or.inl ⟨by rfl, ?_⟩) ?_ ?_
          rotate_left
          · intro w'; go_simp; first | done | with_reducible rfl
          rotate_left
          · simp only [Act.put, List.setIfInBounds_toArray, List.set_cons_zero, List.set_cons_succ, i64_w, i32_w]; rfl
          refine take_ (i := 3) (N := (some 50)) (v := ?_) (a' := ?_) #[true, true, true, true, false, false, false, false, false, false, false, false] rfl rfl (by kernel_rfl) (fun _ _ _ h => h) (Or.inl ⟨by rfl, ?_⟩) hHeld ?_ ?_
          rotate_left
          · rintro w' ⟨s0, s1, s2, s3⟩; go_simp; first | done | with_reducible rfl
          rotate_left
          · simp only [Act.put, List.setIfInBounds_toArray, List.set_cons_zero, List.set_cons_succ, i64_w, i32_w]; rfl
          refine pure_ (i := 4) (N := (some 51)) (v := ?_) (a' := ?_) #[true, true, true, true, true, false, false, false, false, false, false, false] rfl rfl (by kernel_rfl) (fun _ _ _ h => h) (Or.inl ⟨by rfl, ?_⟩) ?_ ?_
          rotate_left
          · intro w'; go_simp; first | done | with_reducible rfl
          rotate_left
          · simp only [Act.put, List.setIfInBounds_toArray, List.set_cons_zero, List.set_cons_succ, i64_w, i32_w]; rfl
          refine pure_ (i := 5) (N := (some 52)) (v := ?_) (a' := ?_) #[true, true, true, true, true, true, false, false, false, false, false, false] rfl rfl (by kernel_rfl) (fun _ _ _ h => h) (Or.inl ⟨by rfl, ?_⟩) ?_ ?_
          rotate_left
          · intro w'; go_simp; first | done | with_reducible rfl
          rotate_left
          · simp only [Act.put, List.setIfInBounds_toArray, List.set_cons_zero, List.set_cons_succ, i64_w, i32_w]; rfl
          refine take_ (i := 6) (N := (some 53)) (v := ?_) (a' := ?_) #[true, true, true, true, true, true, true, false, false, false, false, false] rfl rfl (by kernel_rfl) (fun _ _ _ h => h) (Or.inl ⟨by rfl, ?_⟩) hHeld ?_ ?_
          rotate_left
          · rintro w' ⟨s0, s1, s2, s3⟩; go_simp; first | done | with_reducible rfl
          rotate_left
          · simp only [Act.put, List.setIfInBounds_toArray, List.set_cons_zero, List.set_cons_succ, i64_w, i32_w]; rfl
          refine pure_ (i := 7) (N := (some 54)) (v := ?_) (a' := ?_) #[true, true, true, true, true, true, true, true, false, false, false, false] rfl rfl (by kernel_rfl) (fun _ _ _ h => h) (Or.inl ⟨by rfl, ?_⟩) ?_ ?_
          rotate_left
          · intro w'; go_simp; first | done | with_reducible rfl
          rotate_left
          · simp only [Act.put, List.setIfInBounds_toArray, List.set_cons_zero, List.set_cons_succ, i64_w, i32_w]; rfl
          refine take_ (i := 8) (N := (some 55)) (v := ?_) (a' := ?_) #[true, true, true, true, true, true, true, true, true, false, false, false] rfl rfl (by kernel_rfl) (fun _ _ _ h => h) (Or.inl ⟨by rfl, ?_⟩) hHeld ?_ ?_
          rotate_left
          · rintro w' ⟨s0, s1, s2, s3⟩; go_simp; first | done | with_reducible rfl
          rotate_left
          · simp only [Act.put, List.setIfInBounds_toArray, List.set_cons_zero, List.set_cons_succ, i64_w, i32_w]; rfl
          refine pure_ (i := 9) (N := (some 56)) (v := ?_) (a' := ?_) #[true, true, true, true, true, true, true, true, true, true, false, false] rfl rfl (by kernel_rfl) (fun _ _ _ h => h) (Or.inl ⟨by rfl, ?_⟩) ?_ ?_
          rotate_left
          · intro w'; go_simp; first | done | with_reducible rfl
          rotate_left
          · simp only [Act.put, List.setIfInBounds_toArray, List.set_cons_zero, List.set_cons_succ, i64_w, i32_w]; rfl
          refine pure_ (i := 10) (N := (some 12)) (v := ?_) (a' := ?_) #[true, true, true, true, true, true, true, true, true, true, true, false] rfl rfl (by kernel_rfl) (fun _ _ _ h => h) (Or.inl ⟨by rfl, ?_⟩) ?_ ?_
          rotate_left
          · intro w'; go_simp; first | done | with_reducible rfl
          rotate_left
          · simp only [Act.put, List.setIfInBounds_toArray, List.set_cons_zero, List.set_cons_succ, i64_w, i32_w]; rfl
          refine pure_ (i := 11) (N := (some 13)) (v := ?_) (a' := ?_) #[true, true, true, true, true, true, true, true, true, true, true, true] rfl rfl (by kernel_rfl) (fun _ _ _ h => h) (Or.inl ⟨by rfl, ?_⟩) ?_ ?_
          rotate_left
          · intro w'; go_simp; first | done | with_reducible rfl
          rotate_left
          · simp only [Act.put, List.setIfInBounds_toArray, List.set_cons_zero, List.set_cons_succ, i64_w, i32_w]; rfl
          refine done_ (by kernel_rfl) ?_
          rw [hdx, hdy]
          have hq1 := q_small (a := x k - x m) (b := u1) (c := y k - y m) (d := u0) (by omega) HV.out.2.2.2 (by omega) HV.out.2.2.1
          have hq2 : wrap64 (wrap64 (v0 * (y k - y m)) - wrap64 (v1 * (x k - x m))) = v0 * (y k - y m) - v1 * (x k - x m) := by
            have := q_small (a := y k - y m) (b := v0) (c := x k - x m) (d := v1) (by omega) HV.out.1 (by omega) HV.out.2.1
            rw [Int.mul_comm v0, Int.mul_comm v1]
            exact this
          have hh : hits x y v0 v1 u0 u1 D k m = (Int.tmod ((x k - x m) * u1 - (y k - y m) * u0) D == 0 && Int.tmod (v0 * (y k - y m) - v1 * (x k - x m)) D == 0) := rfl
          generalize (x k - x m) * u1 - (y k - y m) * u0 = Q1 at hq1 hh
          generalize v0 * (y k - y m) - v1 * (x k - x m) = Q2 at hq2 hh
          generalize x k - x m = dx at hq1 hq2 ⊢
          generalize y k - y m = dy at hq1 hq2 ⊢
          have HB6 := Lib.hid HW1.out.drew
          have HB7 := Lib.hid HB3.out.drew
          generalize w4.drew = w5 at HB6 HB7 ⊢
          have r0 := (HB6.out.cell (p := ⟨w.heap.size, 0, none⟩) (by simp; omega)).trans HC.out.1
          have r1 := (HB6.out.cell (p := ⟨w.heap.size, 1, none⟩) (by simp; omega)).trans HC.out.2.1
          have r2 := (HB6.out.cell (p := ⟨w.heap.size + 1, 0, none⟩) (by simp; omega)).trans HC.out.2.2.1
          have r3 := (HB6.out.cell (p := ⟨w.heap.size + 1, 1, none⟩) (by simp; omega)).trans HC.out.2.2.2
          have HH := Lib.hid hh
          clear hxk hxm hdx hdy c0' c1' c2' c3' hh hHeld
          cases t1 : (Int.tmod Q1 D == 0) with
          | false =>
            go_wp2_with fail
            refine ⟨⟨m + 1, by omega, by go_num, Lib.hid (fun j h1 => ?_), HB7⟩, by simp [intOf]; omega⟩
            by_cases e : j = m
            · subst e
              rw [HH.out, t1]
              rfl
            · exact HM.out j (by omega)
          | true =>
            cases t2 : (Int.tmod Q2 D == 0) with
            | false =>
              go_wp2_with fail
              refine ⟨⟨m + 1, by omega, by go_num, Lib.hid (fun j h1 => ?_), HB7⟩, by simp [intOf]; omega⟩
              by_cases e : j = m
              · subst e
                rw [HH.out, t1, t2]
                rfl
              · exact HM.out j (by omega)
            | true =>
              have hrf : r = false := by
                rw [Bool.eq_false_iff]
                intro q
                have := HR.out.1 q k m hlt hmt
                rw [HH.out, t1, t2] at this
                cases this
              clear HR
              subst hrf
              go_wp2
              go_ret
              exact ⟨rfl, HB.out.trans (HB6.out.mono HB.out.size)⟩
        · obtain rfl : m = k := by omega
          go_wp2_with fail
          refine ⟨⟨m + 1, by omega, by go_num, Lib.hid (fun i j h1 h2 => ?_), Lib.hid (HO.out.trans (HB2.out.mono HO.out.size))⟩, by simp [intOf]; omega⟩
          by_cases e : i = m
          · subst e
            exact HM.out j h2
          · exact HK.out i j (by omega) h2
    · obtain rfl : k = n := by omega
      have hrt : r = true := HR.out.2 HK.out
      clear HR
      subst hrt
      go_wp2
      go_ret
      exact ⟨rfl, HB.out.trans (HB1.out.mono HB.out.size)⟩
def pX (l : List (Int × Int)) (i : Nat) : Int := (l.getD i (0, 0)).1
def pY (l : List (Int × Int)) (i : Nat) : Int := (l.getD i (0, 0)).2
theorem flat_take (l : List (Int × Int)) : ∀ k, k ≤ l.length → flat (pX l) (pY l) k = flatP (l.take k)
  | 0, _ => rfl
  | k + 1, h => by
    have hk : k < l.length := by omega
    rw [flat, flat_take l k (by omega), List.take_succ_eq_append_getElem hk, flatP_app]
    congr 1
    show [Value.int .i64 (pX l k), Value.int .i64 (pY l k)] = [.int .i64 l[k].1, .int .i64 l[k].2] ++ []
    unfold pX pY
    rw [List.getD_eq_getElem?_getD, List.getElem?_eq_getElem hk]
    rfl
theorem flat_list (l : List (Int × Int)) : flat (pX l) (pY l) l.length = flatP l := by
  rw [flat_take l _ (Nat.le_refl _), List.take_length]
theorem sl_list {B e : Nat} {w : World} {v : Value} {l : List (Int × Int)} (h : OwnP B e w v l) : ∃ A c, v = .slice A l.length c ∧ Sl w A l.length c (pX l) (pY l) := by
  unfold OwnP at h
  rw [← flat_list] at h
  exact Sl.of_own h
def rowsFill (x y : Nat → Int) (n wd s : Nat) : Prop := 1 ≤ wd ∧ wd ≤ n ∧ s < wd ∧ n % wd = 0 ∧ clear' x y wd 0 s (n / wd : Nat) n n
set_option maxHeartbeats 8000000 in
set_option maxRecDepth 100000 in
theorem rTile_calls (s : ByteArray) (l : List (Int × Int)) (hl : l.length ≤ 100) (hxy : ∀ i, i < l.length → -100 ≤ pX l i ∧ pX l i ≤ 100 ∧ -100 ≤ pY l i ∧ pY l i ≤ 100)
    (hC : ∀ w, Calls Tryd.prog 50 #[.string s] w fun e w' => (∃ v, e = .returned v ∧ OwnP w.heap.size 29 w' v l) ∧ Below w.heap.size w w') (r : Bool) (hr : r = true ↔ ∃ wd s, rowsFill (pX l) (pY l) l.length wd s) (w : World) :
    Calls Tryd.prog 31 #[.string s] w fun e w' => e = .returned (.bool r) ∧ Below w.heap.size w w' := by
  have HC := Lib.hid hC
  have HX := Lib.hid hxy
  have HR := Lib.hid hr
  clear hC hxy hr
  generalize hn : l.length = n at hl
  have HN := Lib.hid hn
  rw [hn] at HX HR
  clear hn
  go_enter Tryd.func31, Tryd.ntmps31
  go_wp2_with fail
  refine (HC.out _).mono ?_
  rintro e w1 ⟨⟨v, rfl, ho⟩, hb1⟩
  obtain ⟨A, c, rfl, hs⟩ := sl_list ho
  rw [HN.out] at hs ⊢
  have HB := Lib.hid hb1
  have HS := Lib.hid hs
  clear hb1 hs ho
  go_wp2_with fail
  have HB1 := Lib.hid (Below.refl w1.heap.size w1)
  go_loopw [5] (fun i wr => ∃ a : Nat, 1 ≤ a ∧ a ≤ n + 1 ∧ i = .int .i64 a ∧ Hid (∀ wd s, wd < a → ¬ rowsFill (pX l) (pY l) n wd s) ∧ Hid (Below w1.heap.size w1 wr)) (fun i _ => n + 1 - (intOf i).toNat)
  case atStart => exact ⟨1, by omega, by omega, rfl, Lib.hid (fun wd s h q => by have := q.1; omega), HB1⟩
  case round =>
    clear HB1
    obtain ⟨a, ha1, ha2, rfl, HA, HB1⟩ := hrel
    by_cases hlt : a ≤ n
    · go_wp2_with fail
      obtain ⟨wo, rfl⟩ : ∃ wo : World, wo = wr := ⟨_, rfl⟩
      go_loopw [17] (fun j wr => ∃ b : Nat, b ≤ a ∧ j = .int .i64 b ∧ Hid (∀ s, s < b → ¬ rowsFill (pX l) (pY l) n a s) ∧ Hid (Below w1.heap.size w1 wr)) (fun j _ => a - (intOf j).toNat)
      case atStart => exact ⟨0, by omega, rfl, Lib.hid (fun s h => by omega), HB1⟩
      case round =>
        clear HB1
        obtain ⟨b, hb, rfl, HJ, HB1⟩ := hrel
        by_cases hba : b < a
        · have ha0 : ¬ (a : Int) = 0 := by omega
          obtain ⟨m, hmm⟩ : ∃ m, n / a = m := ⟨_, rfl⟩
          obtain ⟨z, hzz⟩ : ∃ z, n % a = z := ⟨_, rfl⟩
          have hm : ((n : Int).tmod a) = (z : Int) := by rw [← hzz]; exact Int.ofNat_tmod n a
          have hm2 : ((n : Int) % a) = (z : Int) := by rw [← hzz]; rfl
          have hd : ((n : Int).tdiv a) = (m : Int) := by rw [← hmm]; exact Int.ofNat_tdiv n a
          have hd2 : ((n : Int) / a) = (m : Int) := by rw [← hmm]; rfl
          have hmn : m ≤ n := by rw [← hmm]; exact Nat.div_le_self _ _
          have hwm : wrap64 (m : Int) = m := by unfold wrap64; omega
          have hdm : n = a * m + z := by rw [← hmm, ← hzz]; exact (Nat.div_add_mod n a).symm
          have HM := Lib.hid hmm
          have HZ := Lib.hid hzz
          have HDM := Lib.hid hdm
          clear hmm hzz hdm
          by_cases hz : z = 0
          · subst hz
            obtain ⟨r', hr'⟩ : ∃ r' : Bool, r' = true ↔ clear' (pX l) (pY l) a 0 b m n n := by
              by_cases q : clear' (pX l) (pY l) a 0 b m n n
              · exact ⟨true, by simp [q]⟩
              · exact ⟨false, by simp [q]⟩
            have hD : (a : Int) * (m : Int) - 0 * (b : Int) = (n : Int) := by rw [HDM.out]; simp
            have HF := Lib.hid (RFills_any A n c (pX l) (pY l) a 0 b m wr (HS.out.later HB1.out) (by omega) (by omega) hl HX.out (by omega) n hD (by omega) r' hr')
            have HR' := Lib.hid hr'
            unfold ptV at HF
            clear hr' hD
            go_wp2_with fail
            refine HF.out.mono ?_
            rintro e w2 ⟨rfl, hb2⟩
            have HB2 := Lib.hid (HB1.out.trans (hb2.mono HB1.out.size))
            clear hb2 HF HB1
            cases r' with
            | true =>
              have hrr : r = true := HR.out.2 ⟨a, b, ha1, hlt, hba, HZ.out, by rw [HM.out]; exact HR'.out.1 rfl⟩
              clear HR
              subst hrr
              go_wp2
              go_ret
              exact ⟨rfl, HB.out.trans (HB2.out.mono HB.out.size)⟩
            | false =>
              go_wp2_with fail
              refine ⟨⟨b + 1, by omega, by go_num, Lib.hid (fun s h q => ?_), HB2⟩, by simp [intOf]; omega⟩
              by_cases e : s = b
              · subst e
                have := HR'.out.2 (by have := q.2.2.2.2; rwa [HM.out] at this)
                cases this
              · exact HJ.out s (by omega) q
          · have hz2 : ((z : Int) == 0) = false := by simp [hz]
            have HZN := Lib.hid hz
            clear hz
            go_wp2_with fail
            refine ⟨⟨b + 1, by omega, by go_num, Lib.hid (fun s h q => ?_), HB1⟩, by simp [intOf]; omega⟩
            by_cases e : s = b
            · subst e
              exact HZN.out (HZ.out.symm.trans q.2.2.2.1)
            · exact HJ.out s (by omega) q
        · obtain rfl : b = a := by omega
          go_wp2_with fail
          refine ⟨⟨b + 1, by omega, by omega, by go_num, Lib.hid (fun wd s h q => ?_), HB1⟩, by simp [intOf]; omega⟩
          by_cases e : wd = b
          · subst e
            exact HJ.out s q.2.2.1 q
          · exact HA.out wd s (by omega) q
    · obtain rfl : a = n + 1 := by omega
      have hr : r = false := by
        rw [Bool.eq_false_iff]
        intro q
        obtain ⟨wd, s, h⟩ := HR.out.1 q
        exact HA.out wd s (by have := h.2.1; omega) h
      clear HR
      subst hr
      go_wp2
      go_ret
      exact ⟨rfl, HB.out.trans (HB1.out.mono HB.out.size)⟩
end Go.Proofs.YtpfenoioeajkmaaDoor.X
end

section
set_option linter.unusedVariables false
set_option linter.unusedSimpArgs false
namespace Go.Proofs.YtpfenoioeajkmaaDoor.G
def S (n : Nat) (f : Nat → Int) : Int := match n with
  | 0 => 0
  | n + 1 => S n f + f n
theorem S_succ (n : Nat) (f : Nat → Int) : S (n + 1) f = S n f + f n := rfl
theorem S_congr {n : Nat} {f g : Nat → Int} (h : ∀ i, i < n → f i = g i) : S n f = S n g := by
  induction n with
  | zero => rfl
  | succ n ih => rw [S_succ, S_succ, ih fun i hi => h i (by omega), h n (by omega)]
theorem S_add (n : Nat) (f g : Nat → Int) : S n (fun i => f i + g i) = S n f + S n g := by
  induction n with
  | zero => rfl
  | succ n ih => rw [S_succ, S_succ, S_succ, ih]; omega
theorem S_sub (n : Nat) (f g : Nat → Int) : S n (fun i => f i - g i) = S n f - S n g := by
  induction n with
  | zero => rfl
  | succ n ih => rw [S_succ, S_succ, S_succ, ih]; omega
theorem S_neg (n : Nat) (f : Nat → Int) : S n (fun i => -f i) = -S n f := by
  induction n with
  | zero => rfl
  | succ n ih => rw [S_succ, S_succ, ih]; omega
theorem S_mul (n : Nat) (c : Int) (f : Nat → Int) : S n (fun i => c * f i) = c * S n f := by
  induction n with
  | zero => exact (Int.mul_zero c).symm
  | succ n ih => rw [S_succ, S_succ, ih, Int.mul_add]
theorem S_zero {n : Nat} {f : Nat → Int} (h : ∀ i, i < n → f i = 0) : S n f = 0 := by
  induction n with
  | zero => rfl
  | succ n ih => rw [S_succ, ih fun i hi => h i (by omega), h n (by omega)]; rfl
theorem S_const (n : Nat) (c : Int) : S n (fun _ => c) = n * c := by
  induction n with
  | zero => exact (Int.zero_mul c).symm
  | succ n ih => rw [S_succ, ih, Int.natCast_succ, Int.add_mul, Int.one_mul]
theorem S_swap (n m : Nat) (f : Nat → Nat → Int) : S n (fun i => S m (fun j => f i j)) = S m (fun j => S n (fun i => f i j)) := by
  induction n with
  | zero => exact (S_zero fun _ _ => rfl).symm
  | succ n ih => rw [S_succ, ih, ← S_add]; rfl
theorem S_tel (n : Nat) (f : Nat → Int) : S n (fun i => f (i + 1) - f i) = f n - f 0 := by
  induction n with
  | zero => exact (Int.sub_self _).symm
  | succ n ih => rw [S_succ, ih]; omega
theorem S_one {n k : Nat} {f : Nat → Int} (hk : k < n) (h : ∀ i, i < n → i ≠ k → f i = 0) : S n f = f k := by
  induction n with
  | zero => omega
  | succ n ih =>
    rw [S_succ]
    by_cases e : k = n
    · subst e
      rw [S_zero fun i hi => h i (by omega) (by omega)]
      omega
    · rw [ih (by omega) fun i hi hne => h i (by omega) hne, h n (by omega) (by omega)]
      omega
theorem S_nonneg {n : Nat} {f : Nat → Int} (h : ∀ i, i < n → 0 ≤ f i) : 0 ≤ S n f := by
  induction n with
  | zero => exact Int.le_refl _
  | succ n ih => rw [S_succ]; have := ih fun i hi => h i (by omega); have := h n (by omega); omega
theorem S_le {n : Nat} {f g : Nat → Int} (h : ∀ i, i < n → f i ≤ g i) : S n f ≤ S n g := by
  induction n with
  | zero => exact Int.le_refl _
  | succ n ih => rw [S_succ, S_succ]; have := ih fun i hi => h i (by omega); have := h n (by omega); omega
theorem S_head (n : Nat) (f : Nat → Int) : S (n + 1) f = f 0 + S n (fun i => f (i + 1)) := by
  induction n with
  | zero => rw [S_succ]; show 0 + f 0 = f 0 + 0; omega
  | succ n ih => rw [S_succ, ih, S_succ]; omega
theorem S_split (n m : Nat) (f : Nat → Int) : S (n + m) f = S n f + S m (fun i => f (n + i)) := by
  induction m with
  | zero => show S n f = S n f + 0; omega
  | succ m ih => rw [← Nat.add_assoc, S_succ, S_succ, ih]; omega
theorem S_pos {n : Nat} {f : Nat → Int} (h : 0 < S n f) : ∃ i, i < n ∧ 0 < f i := by
  refine Classical.byContradiction fun q => ?_
  have h2 : S n f ≤ S n (fun _ => 0) := S_le fun i hi => by
    have : ¬ 0 < f i := fun p => q ⟨i, hi, p⟩
    omega
  rw [S_zero (f := fun _ => 0) fun _ _ => rfl] at h2
  omega
theorem S_member {n i : Nat} {f : Nat → Int} (h : ∀ i, i < n → 0 ≤ f i) (hi : i < n) : f i ≤ S n f := by
  have h1 : S n (fun k => if k = i then f i else 0) ≤ S n f := S_le fun k hk => by
    have := h k hk
    by_cases e1 : k = i
    · subst e1
      rw [if_pos rfl]; omega
    · rw [if_neg e1]; omega
  rw [S_one (k := i) hi fun k _ hk => if_neg hk, if_pos rfl] at h1
  exact h1
theorem S_pos_of {n i : Nat} {f : Nat → Int} (h : ∀ i, i < n → 0 ≤ f i) (hi : i < n) (hp : 0 < f i) : 0 < S n f := Int.lt_of_lt_of_le hp (S_member h hi)
def Z (K : Nat) (f : Int → Int) : Int := S (2 * K) fun i => f ((i : Int) - K)
theorem Z_congr {K : Nat} {f g : Int → Int} (h : ∀ x, -(K : Int) ≤ x → x < K → f x = g x) : Z K f = Z K g := S_congr fun i hi => h _ (by omega) (by omega)
theorem Z_add (K : Nat) (f g : Int → Int) : Z K (fun x => f x + g x) = Z K f + Z K g := S_add _ _ _
theorem Z_sub (K : Nat) (f g : Int → Int) : Z K (fun x => f x - g x) = Z K f - Z K g := S_sub _ _ _
theorem Z_mul (K : Nat) (c : Int) (f : Int → Int) : Z K (fun x => c * f x) = c * Z K f := S_mul _ _ _
theorem Z_zero {K : Nat} {f : Int → Int} (h : ∀ x, -(K : Int) ≤ x → x < K → f x = 0) : Z K f = 0 := S_zero fun i hi => h _ (by omega) (by omega)
theorem Z_S (K n : Nat) (f : Int → Nat → Int) : Z K (fun x => S n (fun i => f x i)) = S n (fun i => Z K (fun x => f x i)) := S_swap _ _ _
theorem Z_one {K : Nat} {a : Int} {f : Int → Int} (h1 : -(K : Int) ≤ a) (h2 : a < K) (h : ∀ x, x ≠ a → f x = 0) : Z K f = f a := by
  unfold Z
  rw [S_one (k := (a + K).toNat) (by omega) fun i hi hne => h _ (by omega)]
  congr 1
  omega
theorem Z_le {K : Nat} {f g : Int → Int} (h : ∀ x, -(K : Int) ≤ x → x < K → f x ≤ g x) : Z K f ≤ Z K g := S_le fun i hi => h _ (by omega) (by omega)
theorem Z_nonneg {K : Nat} {f : Int → Int} (h : ∀ x, -(K : Int) ≤ x → x < K → 0 ≤ f x) : 0 ≤ Z K f := S_nonneg fun i hi => h _ (by omega) (by omega)
theorem Z_shift {K : Nat} {f : Int → Int} (h1 : f (-(K : Int) - 1) = 0) (h2 : f ((K : Int) - 1) = 0) : Z K (fun x => f (x - 1)) = Z K f := by
  have h := S_tel (2 * K) fun i => f ((i : Int) - K - 1)
  rw [S_sub] at h
  have e1 : S (2 * K) (fun i => f (((i + 1 : Nat) : Int) - K - 1)) = Z K f := S_congr fun i _ => by congr 1; omega
  have e2 : S (2 * K) (fun i => f ((i : Int) - K - 1)) = Z K (fun x => f (x - 1)) := rfl
  rw [e1, e2, show ((2 * K : Nat) : Int) - K - 1 = (K : Int) - 1 by omega, show ((0 : Nat) : Int) - K - 1 = -(K : Int) - 1 by omega, h1, h2] at h
  omega
theorem Z_count {K : Nat} {a : Int} (h1 : -(K : Int) ≤ a) (h2 : a ≤ K) : Z K (fun x => if x < a then 1 else 0) = a + K := by
  unfold Z
  have : ∀ m : Nat, S m (fun i => if (i : Int) - K < a then 1 else 0) = if (m : Int) ≤ a + K then (m : Int) else a + K := by
    intro m
    induction m with
    | zero => rw [if_pos (by omega)]; rfl
    | succ m ih =>
      rw [S_succ, ih]
      by_cases e : (m : Int) - K < a
      · rw [if_pos e, if_pos (by omega), if_pos (by omega)]; omega
      · rw [if_neg e]
        split <;> split <;> omega
  rw [this]
  split <;> omega
end Go.Proofs.YtpfenoioeajkmaaDoor.G
end

section
set_option linter.unusedVariables false
set_option linter.unusedSimpArgs false
namespace Go.Proofs.YtpfenoioeajkmaaDoor.G
def ux (d : Nat) : Int := if d = 0 then 1 else if d = 2 then -1 else 0
def uy (d : Nat) : Int := if d = 1 then 1 else if d = 3 then -1 else 0
structure Loop (n : Nat) (X Y : Nat → Int) (D : Nat → Nat) : Prop where
  n4 : 4 ≤ n
  d4 : ∀ i, D i < 4
  sx : ∀ i, X (i + 1) = X i + ux (D i)
  sy : ∀ i, Y (i + 1) = Y i + uy (D i)
  px : ∀ i, X (i + n) = X i
  py : ∀ i, Y (i + n) = Y i
  pd : ∀ i, D (i + n) = D i
  inj : ∀ i j, X i = X j → Y i = Y j → i % n = j % n
theorem d_cases {d : Nat} (h : d < 4) : d = 0 ∨ d = 1 ∨ d = 2 ∨ d = 3 := by omega
def wi (X Y : Nat → Int) (D : Nat → Nat) (x y : Int) (i : Nat) : Int := if D i = 1 ∧ x < X i ∧ Y i = y then 1 else if D i = 3 ∧ x < X i ∧ Y i = y + 1 then -1 else 0
def W (n : Nat) (X Y : Nat → Int) (D : Nat → Nat) (x y : Int) : Int := S n (wi X Y D x y)
def cx (a : Int) (k : Nat) : Int := if k = 0 then a else if k = 1 then a - 1 else if k = 2 then a - 1 else a
def cy (b : Int) (k : Nat) : Int := if k = 0 then b else if k = 1 then b else if k = 2 then b - 1 else b - 1
def ti (X Y : Nat → Int) (D : Nat → Nat) (a b : Int) (k i : Nat) : Int :=
  (if D i = k ∧ X i = a ∧ Y i = b then 1 else 0) - (if D i = (k + 2) % 4 ∧ X (i + 1) = a ∧ Y (i + 1) = b then 1 else 0)
section
variable {n : Nat} {X Y : Nat → Int} {D : Nat → Nat}
theorem Loop.mod_x (L : Loop n X Y D) (i : Nat) : X (i % n) = X i := by
  have : ∀ q r, X (r + q * n) = X r := fun q r => by
    induction q with
    | zero => rw [Nat.zero_mul, Nat.add_zero]
    | succ q ih => rw [Nat.succ_mul, ← Nat.add_assoc, L.px, ih]
  rw [← this (i / n) (i % n), Nat.mul_comm, Nat.mod_add_div]
theorem Loop.mod_y (L : Loop n X Y D) (i : Nat) : Y (i % n) = Y i := by
  have : ∀ q r, Y (r + q * n) = Y r := fun q r => by
    induction q with
    | zero => rw [Nat.zero_mul, Nat.add_zero]
    | succ q ih => rw [Nat.succ_mul, ← Nat.add_assoc, L.py, ih]
  rw [← this (i / n) (i % n), Nat.mul_comm, Nat.mod_add_div]
theorem Loop.mod_d (L : Loop n X Y D) (i : Nat) : D (i % n) = D i := by
  have : ∀ q r, D (r + q * n) = D r := fun q r => by
    induction q with
    | zero => rw [Nat.zero_mul, Nat.add_zero]
    | succ q ih => rw [Nat.succ_mul, ← Nat.add_assoc, L.pd, ih]
  rw [← this (i / n) (i % n), Nat.mul_comm, Nat.mod_add_div]
theorem mod_add_cancel {n b i j : Nat} (h : (b + i) % n = (b + j) % n) : i % n = j % n := by
  have e : ((i : Int) % n) = ((j : Int) % n) := by
    have h1 : (((b + i : Nat) : Int) % n) = (((b + j : Nat) : Int) % n) := by rw [← Int.natCast_emod, ← Int.natCast_emod, h]
    rw [Int.emod_eq_emod_iff_emod_sub_eq_zero] at h1 ⊢
    rw [← h1]
    congr 1
    omega
  rw [← Int.natCast_emod, ← Int.natCast_emod] at e
  exact Int.ofNat_inj.1 e
theorem Loop.shift (L : Loop n X Y D) (b : Nat) : Loop n (fun i => X (b + i)) (fun i => Y (b + i)) (fun i => D (b + i)) where
  n4 := L.n4
  d4 i := L.d4 _
  sx i := L.sx _
  sy i := L.sy _
  px i := by have := L.px (b + i); rwa [Nat.add_assoc] at this
  py i := by have := L.py (b + i); rwa [Nat.add_assoc] at this
  pd i := by have := L.pd (b + i); rwa [Nat.add_assoc] at this
  inj i j hx hy := mod_add_cancel (L.inj _ _ hx hy)
theorem mod_ne_add {n d i : Nat} (h0 : 0 < d) (h1 : d < n) : (i + d) % n ≠ i % n := by
  intro h
  have : d % n = 0 % n := mod_add_cancel (b := i) (by rw [Nat.add_zero]; exact h)
  rw [Nat.mod_eq_of_lt h1, Nat.zero_mod] at this
  omega
theorem Loop.no_u (L : Loop n X Y D) (i : Nat) : D (i + 1) ≠ (D i + 2) % 4 := by
  intro h
  have h4 := L.n4
  have h1 := L.d4 i
  refine mod_ne_add (n := n) (d := 2) (i := i) (by omega) (by omega) (L.inj _ _ ?_ ?_)
  · rw [L.sx (i + 1), L.sx i, h]
    rcases d_cases h1 with e | e | e | e <;> rw [e] <;> simp [ux] <;> omega
  · rw [L.sy (i + 1), L.sy i, h]
    rcases d_cases h1 with e | e | e | e <;> rw [e] <;> simp [uy] <;> omega
theorem cross_v (L : Loop n X Y D) (x y : Int) : W n X Y D (x - 1) y - W n X Y D x y = S n fun i => (if D i = 1 ∧ X i = x ∧ Y i = y then 1 else 0) - (if D i = 3 ∧ X i = x ∧ Y i = y + 1 then 1 else 0) := by
  unfold W
  rw [← S_sub]
  refine S_congr fun i _ => ?_
  unfold wi
  rcases d_cases (L.d4 i) with e | e | e | e <;> rw [e] <;> simp <;> (try split) <;> (try split) <;> (try split) <;> omega
theorem cross_h (L : Loop n X Y D) (x y : Int) : W n X Y D x y - W n X Y D x (y - 1) = S n fun i => (if D i = 0 ∧ X i = x ∧ Y i = y then 1 else 0) - (if D i = 2 ∧ X i = x + 1 ∧ Y i = y then 1 else 0) := by
  have ht := S_tel n fun i => if x < X i ∧ Y i = y then (1 : Int) else 0
  have hx := L.px 0
  have hy := L.py 0
  rw [Nat.zero_add] at hx hy
  rw [hx, hy, Int.sub_self] at ht
  have : W n X Y D x y - W n X Y D x (y - 1) = W n X Y D x y - W n X Y D x (y - 1) + 0 := by omega
  rw [this, ← ht]
  unfold W
  rw [← S_sub, ← S_add]
  refine S_congr fun i _ => ?_
  unfold wi
  rw [L.sx i, L.sy i]
  rcases d_cases (L.d4 i) with e | e | e | e <;> rw [e] <;> simp [ux, uy] <;> (repeat' split) <;> omega
theorem cross (L : Loop n X Y D) (a b : Int) {k : Nat} (hk : k < 4) : W n X Y D (cx a k) (cy b k) - W n X Y D (cx a ((k + 3) % 4)) (cy b ((k + 3) % 4)) = S n (ti X Y D a b k) := by
  rcases d_cases hk with e | e | e | e <;> subst e
  · show W n X Y D a b - W n X Y D a (b - 1) = _
    rw [cross_h L]
    refine S_congr fun i _ => ?_
    unfold ti
    rw [L.sx i, L.sy i]
    rcases d_cases (L.d4 i) with e | e | e | e <;> rw [e] <;> simp [ux, uy] <;> (repeat' split) <;> omega
  · show W n X Y D (a - 1) b - W n X Y D a b = _
    rw [cross_v L]
    refine S_congr fun i _ => ?_
    unfold ti
    rw [L.sx i, L.sy i]
    rcases d_cases (L.d4 i) with e | e | e | e <;> rw [e] <;> simp [ux, uy] <;> (repeat' split) <;> omega
  · show W n X Y D (a - 1) (b - 1) - W n X Y D (a - 1) b = _
    have h := cross_h L (a - 1) b
    have : W n X Y D (a - 1) (b - 1) - W n X Y D (a - 1) b = -(W n X Y D (a - 1) b - W n X Y D (a - 1) (b - 1)) := by omega
    rw [this, h, ← S_neg]
    refine S_congr fun i _ => ?_
    unfold ti
    rw [L.sx i, L.sy i]
    rcases d_cases (L.d4 i) with e | e | e | e <;> rw [e] <;> simp [ux, uy] <;> (repeat' split) <;> omega
  · show W n X Y D a (b - 1) - W n X Y D (a - 1) (b - 1) = _
    have h := cross_v L a (b - 1)
    have : W n X Y D a (b - 1) - W n X Y D (a - 1) (b - 1) = -(W n X Y D (a - 1) (b - 1) - W n X Y D a (b - 1)) := by omega
    rw [this, h, ← S_neg]
    refine S_congr fun i _ => ?_
    unfold ti
    rw [L.sx i, L.sy i]
    rcases d_cases (L.d4 i) with e | e | e | e <;> rw [e] <;> simp [ux, uy] <;> (repeat' split) <;> omega
theorem Loop.sum_from (L : Loop n X Y D) (m k : Nat) : S n (fun i => if D i = k ∧ X i = X m ∧ Y i = Y m then 1 else 0) = if D m = k then 1 else 0 := by
  have h4 := L.n4
  have hm : m % n < n := Nat.mod_lt _ (by omega)
  rw [S_one (k := m % n) hm, L.mod_d, L.mod_x, L.mod_y]
  · simp
  · intro i hi hne
    rw [if_neg]
    rintro ⟨-, h1, h2⟩
    have := L.inj _ _ h1 h2
    rw [Nat.mod_eq_of_lt hi] at this
    exact hne this
theorem Loop.sum_to (L : Loop n X Y D) (m k : Nat) : S n (fun i => if D i = k ∧ X (i + 1) = X (m + 1) ∧ Y (i + 1) = Y (m + 1) then 1 else 0) = if D m = k then 1 else 0 := by
  have h4 := L.n4
  have hm : m % n < n := Nat.mod_lt _ (by omega)
  have e1 : X (m % n + 1) = X (m + 1) := by rw [L.sx, L.sx, L.mod_x, L.mod_d]
  have e2 : Y (m % n + 1) = Y (m + 1) := by rw [L.sy, L.sy, L.mod_y, L.mod_d]
  rw [S_one (k := m % n) hm, L.mod_d, e1, e2]
  · simp
  · intro i hi hne
    rw [if_neg]
    rintro ⟨-, h1, h2⟩
    have := L.inj _ _ h1 h2
    have := mod_add_cancel (b := 1) (i := i) (j := m) (by rw [Nat.add_comm 1, Nat.add_comm 1]; exact this)
    rw [Nat.mod_eq_of_lt hi] at this
    exact hne this
theorem Loop.at_point (L : Loop n X Y D) (j : Nat) {k : Nat} (hk : k < 4) :
    W n X Y D (cx (X (j + 1)) k) (cy (Y (j + 1)) k) - W n X Y D (cx (X (j + 1)) ((k + 3) % 4)) (cy (Y (j + 1)) ((k + 3) % 4)) = (if D (j + 1) = k then 1 else 0) - (if D j = (k + 2) % 4 then 1 else 0) := by
  rw [cross L _ _ hk]
  unfold ti
  rw [S_sub, L.sum_from, L.sum_to]
def turn (e f : Nat) : Int := if f = e then 0 else if f = (e + 1) % 4 then 1 else -1
def LW (n : Nat) (X Y : Nat → Int) (D : Nat → Nat) (j : Nat) : Int := W n X Y D (cx (X j) (D j)) (cy (Y j) (D j))
theorem around_pure (G : Nat → Int) {e f : Nat} {l : Int} (he : e < 4) (hf : f < 4) (hu : f ≠ (e + 2) % 4) (h : ∀ k, k < 4 → G k - G ((k + 3) % 4) = (if f = k then 1 else 0) - (if e = (k + 2) % 4 then 1 else 0)) (hl : l = G ((e + 1) % 4)) :
    G f = l ∧ (∀ k, k < 4 → G k = l ∨ G k = l - 1) ∧ G 0 + G 1 + G 2 + G 3 = 4 * (l - 1) + (2 - turn e f) ∧ G ((f + 3) % 4) = l - 1 := by
  have h0 := h 0 (by omega)
  have h1 := h 1 (by omega)
  have h2 := h 2 (by omega)
  have h3 := h 3 (by omega)
  have hk : (∀ k, k < 4 → G k = l ∨ G k = l - 1) ↔ (G 0 = l ∨ G 0 = l - 1) ∧ (G 1 = l ∨ G 1 = l - 1) ∧ (G 2 = l ∨ G 2 = l - 1) ∧ (G 3 = l ∨ G 3 = l - 1) :=
    ⟨fun q => ⟨q 0 (by omega), q 1 (by omega), q 2 (by omega), q 3 (by omega)⟩, fun ⟨a, b, c, d⟩ k hk => by rcases d_cases hk with e | e | e | e <;> subst e <;> assumption⟩
  rw [hk]
  clear h hk
  rcases d_cases he with e | e | e | e <;> rcases d_cases hf with g | g | g | g <;> subst e <;> subst g <;> simp [turn] at h0 h1 h2 h3 hl hu ⊢ <;> omega
theorem Loop.around (L : Loop n X Y D) (j : Nat) : LW n X Y D (j + 1) = LW n X Y D j ∧
    (∀ k, k < 4 → W n X Y D (cx (X (j + 1)) k) (cy (Y (j + 1)) k) = LW n X Y D j ∨ W n X Y D (cx (X (j + 1)) k) (cy (Y (j + 1)) k) = LW n X Y D j - 1) ∧
    W n X Y D (cx (X (j + 1)) 0) (cy (Y (j + 1)) 0) + W n X Y D (cx (X (j + 1)) 1) (cy (Y (j + 1)) 1) + W n X Y D (cx (X (j + 1)) 2) (cy (Y (j + 1)) 2) + W n X Y D (cx (X (j + 1)) 3) (cy (Y (j + 1)) 3) = 4 * (LW n X Y D j - 1) + (2 - turn (D j) (D (j + 1))) ∧
    W n X Y D (cx (X (j + 1)) (D (j + 1))) (cy (Y (j + 1)) (D (j + 1))) = LW n X Y D j ∧ W n X Y D (cx (X (j + 1)) ((D (j + 1) + 3) % 4)) (cy (Y (j + 1)) ((D (j + 1) + 3) % 4)) = LW n X Y D j - 1 := by
  have hl : LW n X Y D j = W n X Y D (cx (X (j + 1)) ((D j + 1) % 4)) (cy (Y (j + 1)) ((D j + 1) % 4)) := by
    unfold LW
    rw [L.sx j, L.sy j]
    rcases d_cases (L.d4 j) with e | e | e | e <;> rw [e] <;> simp [cx, cy, ux, uy] <;> (try congr 1) <;> omega
  obtain ⟨q1, q2, q3, q4⟩ := around_pure (fun k => W n X Y D (cx (X (j + 1)) k) (cy (Y (j + 1)) k)) (L.d4 j) (L.d4 (j + 1)) (L.no_u j) (fun k hk => L.at_point j hk) hl
  exact ⟨q1, q2, q3, q1, q4⟩
end
end Go.Proofs.YtpfenoioeajkmaaDoor.G
end

section
set_option linter.unusedVariables false
set_option linter.unusedSimpArgs false
namespace Go.Proofs.YtpfenoioeajkmaaDoor.G
section
variable {n : Nat} {X Y : Nat → Int} {D : Nat → Nat}
theorem W_right {x : Int} (y : Int) (h : ∀ i, X i ≤ x) : W n X Y D x y = 0 := S_zero fun i _ => by
  have := h i
  unfold wi
  rw [if_neg (by omega), if_neg (by omega)]
theorem Loop.W_up (L : Loop n X Y D) (x : Int) {y : Int} (h : ∀ i, Y i ≤ y) : W n X Y D x y = 0 := S_zero fun i _ => by
  have h1 := h i
  have h2 := h (i + 1)
  rw [L.sy] at h2
  unfold wi
  by_cases e : D i = 1
  · rw [e] at h2
    simp [uy] at h2
    rw [if_neg (by omega), if_neg (by omega)]
  · rw [if_neg (by omega), if_neg (by omega)]
theorem Loop.W_down (L : Loop n X Y D) (x : Int) {y : Int} (h : ∀ i, y < Y i) : W n X Y D x y = 0 := S_zero fun i _ => by
  have h1 := h i
  have h2 := h (i + 1)
  rw [L.sy] at h2
  unfold wi
  by_cases e : D i = 3
  · rw [e] at h2
    simp [uy] at h2
    rw [if_neg (by omega), if_neg (by omega)]
  · rw [if_neg (by omega), if_neg (by omega)]
theorem Loop.W_left (L : Loop n X Y D) {x : Int} (y : Int) (h : ∀ i, x < X i) : W n X Y D x y = 0 := by
  have ht := S_tel n fun i => if y < Y i then (1 : Int) else 0
  have hy := L.py 0
  rw [Nat.zero_add] at hy
  rw [hy, Int.sub_self] at ht
  rw [← ht]
  refine S_congr fun i _ => ?_
  have h1 := h i
  unfold wi
  rw [L.sy i]
  rcases d_cases (L.d4 i) with e | e | e | e <;> rw [e] <;> simp [uy, h1] <;> (repeat' split) <;> omega
theorem Loop.LW_eq (L : Loop n X Y D) (j : Nat) : LW n X Y D j = LW n X Y D 0 := by
  induction j with
  | zero => rfl
  | succ j ih => rw [(L.around j).1, ih]
theorem Loop.right (L : Loop n X Y D) (i : Nat) : W n X Y D (cx (X i) ((D i + 3) % 4)) (cy (Y i) ((D i + 3) % 4)) = LW n X Y D 0 - 1 := by
  have h4 := L.n4
  obtain ⟨j, hj⟩ : ∃ j, i + n = j + 1 := ⟨i + n - 1, by omega⟩
  have h := (L.around j).2.2.2.2
  rw [← hj, L.px, L.py, L.pd, L.LW_eq] at h
  exact h
theorem Loop.left (L : Loop n X Y D) (i : Nat) : W n X Y D (cx (X i) (D i)) (cy (Y i) (D i)) = LW n X Y D 0 := L.LW_eq i
theorem max_of (X : Nat → Int) : ∀ n, 0 < n → ∃ i, i < n ∧ ∀ j, j < n → X j ≤ X i
  | 1, _ => ⟨0, by omega, fun j hj => by obtain rfl : j = 0 := by omega
                                         exact Int.le_refl _⟩
  | n + 2, _ => by
    obtain ⟨i, hi, h⟩ := max_of X (n + 1) (by omega)
    by_cases e : X (n + 1) ≤ X i
    · exact ⟨i, by omega, fun j hj => by
        by_cases q : j = n + 1
        · rw [q]; exact e
        · exact h j (by omega)⟩
    · exact ⟨n + 1, by omega, fun j hj => by
        by_cases q : j = n + 1
        · rw [q]; exact Int.le_refl _
        · have := h j (by omega); omega⟩
theorem Loop.maxX (L : Loop n X Y D) : ∃ i, ∀ j, X j ≤ X i := by
  have h4 := L.n4
  obtain ⟨i, hi, h⟩ := max_of X n (by omega)
  exact ⟨i, fun j => by rw [← L.mod_x j]; exact h _ (Nat.mod_lt _ (by omega))⟩
theorem Loop.extreme (L : Loop n X Y D) : ∃ i, (∀ j, X j ≤ X i) ∧ (D i = 1 ∨ D i = 3) := by
  obtain ⟨i0, h⟩ := L.maxX
  have h4 := L.n4
  obtain ⟨j, hj⟩ : ∃ j, i0 + n = j + 1 := ⟨i0 + n - 1, by omega⟩
  have hX : X (j + 1) = X i0 := by rw [← hj, L.px]
  have hu := L.no_u j
  have s1 := L.sx j
  have s2 := L.sx (j + 1)
  have m1 := h j
  have m2 := h (j + 1 + 1)
  rcases d_cases (L.d4 (j + 1)) with e | e | e | e
  · rw [e] at s2
    simp [ux] at s2
    omega
  · exact ⟨j + 1, fun k => by rw [hX]; exact h k, .inl e⟩
  · rcases d_cases (L.d4 j) with f | f | f | f
    · rw [e, f] at hu
      simp at hu
    · rw [f] at s1
      simp [ux] at s1
      exact ⟨j, fun k => by rw [← s1, hX]; exact h k, .inl f⟩
    · rw [f] at s1
      simp [ux] at s1
      omega
    · rw [f] at s1
      simp [ux] at s1
      exact ⟨j, fun k => by rw [← s1, hX]; exact h k, .inr f⟩
  · exact ⟨j + 1, fun k => by rw [hX]; exact h k, .inr e⟩
theorem Loop.left01 (L : Loop n X Y D) : LW n X Y D 0 = 0 ∨ LW n X Y D 0 = 1 := by
  obtain ⟨i, h, e | e⟩ := L.extreme
  · have := L.right i
    rw [e] at this
    rw [show cx (X i) ((1 + 3) % 4) = X i from rfl, W_right _ h] at this
    omega
  · have := L.left i
    rw [e] at this
    rw [show cx (X i) 3 = X i from rfl, W_right _ h] at this
    omega
theorem sum_ne {n : Nat} {f : Nat → Int} (h : S n f ≠ 0) : ∃ i, i < n ∧ f i ≠ 0 := by
  refine Classical.byContradiction fun q => h (S_zero fun i hi => ?_)
  exact Classical.byContradiction fun p => q ⟨i, hi, p⟩
theorem Loop.cases3 (L : Loop n X Y D) (y : Int) {M : Int} (hM : ∀ i, X i ≤ M) : ∀ (m : Nat) (x : Int), M - m ≤ x → W n X Y D x y = 0 ∨ W n X Y D x y = LW n X Y D 0 ∨ W n X Y D x y = LW n X Y D 0 - 1
  | 0, x, hx => .inl (W_right y fun i => by have := hM i; omega)
  | m + 1, x, hx => by
    have ih := L.cases3 y hM m (x + 1) (by omega)
    have hc := cross_v L (x + 1) y
    rw [show x + 1 - 1 = x by omega] at hc
    by_cases h0 : W n X Y D x y - W n X Y D (x + 1) y = 0
    · rw [show W n X Y D x y = W n X Y D (x + 1) y by omega]
      exact ih
    · rw [hc] at h0
      obtain ⟨i, hi, hne⟩ := sum_ne h0
      by_cases e1 : D i = 1 ∧ X i = x + 1 ∧ Y i = y
      · have := L.left i
        rw [e1.1] at this
        rw [show cx (X i) 1 = x by show X i - 1 = x; omega, show cy (Y i) 1 = y from e1.2.2] at this
        exact .inr (.inl this)
      · rw [if_neg e1] at hne
        by_cases e3 : D i = 3 ∧ X i = x + 1 ∧ Y i = y + 1
        · have := L.right i
          rw [e3.1] at this
          rw [show cx (X i) ((3 + 3) % 4) = x by show X i - 1 = x; omega, show cy (Y i) ((3 + 3) % 4) = y by show Y i - 1 = y; omega] at this
          exact .inr (.inr this)
        · rw [if_neg e3] at hne
          exact absurd rfl hne
def Box (K : Nat) (X Y : Nat → Int) : Prop := ∀ i, -(K : Int) < X i ∧ X i < K ∧ -(K : Int) < Y i ∧ Y i < K
theorem Loop.three (L : Loop n X Y D) (x y : Int) : W n X Y D x y = 0 ∨ W n X Y D x y = LW n X Y D 0 ∨ W n X Y D x y = LW n X Y D 0 - 1 := by
  obtain ⟨i, h⟩ := L.maxX
  exact L.cases3 y h (X i - x).toNat x (by omega)
theorem Loop.area (L : Loop n X Y D) {K : Nat} (hB : Box K X Y) : Z K (fun x => Z K fun y => W n X Y D x y) = S n fun i => X i * uy (D i) := by
  unfold W
  have e1 : (fun x => Z K fun y => S n (wi X Y D x y)) = fun x => S n fun i => Z K fun y => wi X Y D x y i := by
    funext x
    exact Z_S K n fun y i => wi X Y D x y i
  rw [e1, Z_S K n fun x i => Z K fun y => wi X Y D x y i]
  have hs : S n (fun i => uy (D i)) = 0 := by
    have ht := S_tel n Y
    have hy := L.py 0
    rw [Nat.zero_add] at hy
    rw [hy, Int.sub_self] at ht
    rw [← ht]
    exact S_congr fun i _ => by rw [L.sy i]; omega
  have h2 : S n (fun i => X i * uy (D i)) = S n (fun i => (X i + K) * uy (D i)) := by
    have : (fun i => (X i + K) * uy (D i)) = fun i => X i * uy (D i) + (K : Int) * uy (D i) := by funext i; rw [Int.add_mul]
    rw [this, S_add, S_mul, hs, Int.mul_zero, Int.add_zero]
  rw [h2]
  refine S_congr fun i _ => ?_
  obtain ⟨b1, b2, b3, b4⟩ := hB i
  have e2 : ∀ x : Int, (Z K fun y => wi X Y D x y i) = uy (D i) * (if x < X i then 1 else 0) := by
    intro x
    rcases d_cases (L.d4 i) with e | e | e | e
    · rw [Z_zero fun y _ _ => by unfold wi; rw [e]; simp, e]; simp [uy]
    · have : ∀ y, wi X Y D x y i = if y = Y i then (if x < X i then 1 else 0) else 0 := by
        intro y
        unfold wi
        rw [e]
        simp
        (repeat' split) <;> omega
      rw [Z_congr fun y _ _ => this y, Z_one (a := Y i) (by omega) (by omega) fun y hy => if_neg hy, if_pos rfl, e]
      simp [uy]
    · rw [Z_zero fun y _ _ => by unfold wi; rw [e]; simp, e]; simp [uy]
    · have hn := hB (i + 1)
      rw [L.sy i, e] at hn
      simp [uy] at hn
      have : ∀ y, wi X Y D x y i = if y = Y i - 1 then (if x < X i then -1 else 0) else 0 := by
        intro y
        unfold wi
        rw [e]
        simp
        (repeat' split) <;> omega
      rw [Z_congr fun y _ _ => this y, Z_one (a := Y i - 1) (by omega) (by omega) fun y hy => if_neg hy, if_pos rfl, e]
      simp [uy]
      split <;> rfl
  rw [Z_congr fun x _ _ => e2 x, Z_mul, Z_count (by omega) (by omega), Int.mul_comm]
theorem Loop.pos (L : Loop n X Y D) {K : Nat} (hB : Box K X Y) (hA : 0 < S n fun i => X i * uy (D i)) : LW n X Y D 0 = 1 := by
  rcases L.left01 with h | h
  · exfalso
    rw [← L.area hB] at hA
    have : (Z K fun x => Z K fun y => W n X Y D x y) ≤ Z K fun x => Z K fun y => 0 := Z_le fun x _ _ => Z_le fun y _ _ => by
      have := L.three x y
      rw [h] at this
      omega
    rw [Z_zero (f := fun x => Z K fun y => 0) fun _ _ _ => Z_zero fun _ _ _ => rfl] at this
    omega
  · exact h
theorem Loop.zo (L : Loop n X Y D) (h1 : LW n X Y D 0 = 1) (x y : Int) : W n X Y D x y = 0 ∨ W n X Y D x y = 1 := by
  have := L.three x y
  rw [h1] at this
  omega
end
end Go.Proofs.YtpfenoioeajkmaaDoor.G
end

section
set_option linter.unusedVariables false
set_option linter.unusedSimpArgs false
namespace Go.Proofs.YtpfenoioeajkmaaDoor.G
theorem S_rot {n : Nat} {f : Nat → Int} (h : ∀ i, f (i + n) = f i) (b : Nat) : S n (fun i => f (b + i)) = S n f := by
  induction b with
  | zero => exact S_congr fun i _ => by rw [Nat.zero_add]
  | succ b ih =>
    have h1 := S_head n fun i => f (b + i)
    have h2 := S_succ n fun i => f (b + i)
    rw [h2, ih] at h1
    have h3 : S n (fun i => f (b + 1 + i)) = S n fun i => f (b + (i + 1)) := S_congr fun i _ => by congr 1; omega
    rw [h3]
    have h4 := h b
    rw [Nat.add_zero] at h1
    omega
def oc (x y : Int) : Int := if y = 0 then (if 0 < x then 0 else 4) else if 0 < y then (if 0 < x then 1 else if x = 0 then 2 else 3) else (if x < 0 then 5 else if x = 0 then 6 else 7)
theorem oc_range (x y : Int) : 0 ≤ oc x y ∧ oc x y < 8 := by
  unfold oc
  (repeat' split) <;> omega
def dl (o p : Int) : Int := if p = o then 0 else if (p - o) % 8 = 1 then 1 else -1
def near8 (o p : Int) : Prop := (p - o) % 8 = 0 ∨ (p - o) % 8 = 1 ∨ (p - o) % 8 = 7
theorem near_unit {x y a b : Int} (h0 : ¬ (x = 0 ∧ y = 0)) (h1 : ¬ (x + a = 0 ∧ y + b = 0)) (hu : (a = 1 ∧ b = 0) ∨ (a = 0 ∧ b = 1) ∨ (a = -1 ∧ b = 0) ∨ (a = 0 ∧ b = -1)) : near8 (oc x y) (oc (x + a) (y + b)) := by
  unfold near8 oc
  rcases hu with ⟨rfl, rfl⟩ | ⟨rfl, rfl⟩ | ⟨rfl, rfl⟩ | ⟨rfl, rfl⟩ <;> (repeat' split) <;> omega
theorem dl_range (o p : Int) : -1 ≤ dl o p ∧ dl o p ≤ 1 := by
  unfold dl
  (repeat' split) <;> omega
theorem dl_mod {o p : Int} (ho : 0 ≤ o ∧ o < 8) (hp : 0 ≤ p ∧ p < 8) (h : near8 o p) : (dl o p - (p - o)) % 8 = 0 := by
  unfold near8 at h
  unfold dl
  (repeat' split) <;> omega
theorem square {o p q r : Int} (ho : 0 ≤ o ∧ o < 8) (hp : 0 ≤ p ∧ p < 8) (hq : 0 ≤ q ∧ q < 8) (hr : 0 ≤ r ∧ r < 8) (h1 : near8 o p) (h2 : near8 p r) (h3 : near8 o q) (h4 : near8 q r) : dl o p + dl p r = dl o q + dl q r := by
  have e1 := dl_mod ho hp h1
  have e2 := dl_mod hp hr h2
  have e3 := dl_mod ho hq h3
  have e4 := dl_mod hq hr h4
  have r1 := dl_range o p
  have r2 := dl_range p r
  have r3 := dl_range o q
  have r4 := dl_range q r
  omega
theorem dl_half {o p c : Int} (ho : c ≤ o ∧ o ≤ c + 3) (hp : c ≤ p ∧ p ≤ c + 3) (h : near8 o p) : dl o p = p - o := by
  unfold near8 at h
  unfold dl
  (repeat' split) <;> omega
section
variable {n : Nat} {X Y : Nat → Int} {D : Nat → Nat}
def O (X Y : Nat → Int) (i j : Nat) : Int := oc (X j - X i) (Y j - Y i)
theorem O_range (i j : Nat) : 0 ≤ O X Y i j ∧ O X Y i j < 8 := oc_range _ _
theorem Loop.ne0 (L : Loop n X Y D) {i j : Nat} (h : i < j) (h2 : j < i + n) : ¬ (X j - X i = 0 ∧ Y j - Y i = 0) := by
  rintro ⟨hx, hy⟩
  have := L.inj j i (by omega) (by omega)
  obtain ⟨d, rfl⟩ : ∃ d, j = i + d := ⟨j - i, by omega⟩
  exact mod_ne_add (by omega) (by omega) this
theorem unit_of (d : Nat) (h : d < 4) : (ux d = 1 ∧ uy d = 0) ∨ (ux d = 0 ∧ uy d = 1) ∨ (ux d = -1 ∧ uy d = 0) ∨ (ux d = 0 ∧ uy d = -1) := by
  rcases d_cases h with e | e | e | e <;> subst e <;> simp [ux, uy]
theorem unit_neg (d : Nat) (h : d < 4) : (-ux d = 1 ∧ -uy d = 0) ∨ (-ux d = 0 ∧ -uy d = 1) ∨ (-ux d = -1 ∧ -uy d = 0) ∨ (-ux d = 0 ∧ -uy d = -1) := by
  rcases d_cases h with e | e | e | e <;> subst e <;> simp [ux, uy]
theorem Loop.near_j (L : Loop n X Y D) {i j : Nat} (h : i < j) (h2 : j + 1 < i + n) : near8 (O X Y i j) (O X Y i (j + 1)) := by
  have := near_unit (a := ux (D j)) (b := uy (D j)) (L.ne0 h (by omega)) (by have := L.ne0 (i := i) (j := j + 1) (by omega) h2; rw [L.sx, L.sy] at this; omega) (unit_of _ (L.d4 j))
  unfold O
  rw [L.sx, L.sy, show X j + ux (D j) - X i = X j - X i + ux (D j) by omega, show Y j + uy (D j) - Y i = Y j - Y i + uy (D j) by omega]
  exact this
theorem Loop.near_i (L : Loop n X Y D) {i j : Nat} (h : i + 1 < j) (h2 : j < i + n) : near8 (O X Y i j) (O X Y (i + 1) j) := by
  have := near_unit (a := -ux (D i)) (b := -uy (D i)) (L.ne0 (i := i) (j := j) (by omega) h2) (by have := L.ne0 (i := i + 1) (j := j) h (by omega); rw [L.sx, L.sy] at this; omega) (unit_neg _ (L.d4 i))
  unfold O
  rw [L.sx, L.sy, show X j - (X i + ux (D i)) = X j - X i + -ux (D i) by omega, show Y j - (Y i + uy (D i)) = Y j - Y i + -uy (D i) by omega]
  exact this
def dg (X Y : Nat → Int) (k : Nat) : Int := dl (O X Y k (k + 1)) (O X Y k (k + 2)) + dl (O X Y k (k + 2)) (O X Y (k + 1) (k + 2))
def An (X Y : Nat → Int) (i m : Nat) : Int := S i (dg X Y) + S m fun t => dl (O X Y i (i + 1 + t)) (O X Y i (i + 2 + t))
theorem An_j (i m : Nat) : An X Y i (m + 1) = An X Y i m + dl (O X Y i (i + 1 + m)) (O X Y i (i + 2 + m)) := by
  unfold An
  rw [S_succ]
  omega
theorem Loop.An_i (L : Loop n X Y D) (i : Nat) : ∀ m, m + 2 < n → An X Y (i + 1) m = An X Y i (m + 1) + dl (O X Y i (i + 2 + m)) (O X Y (i + 1) (i + 2 + m))
  | 0, h => by
    have e : An X Y (i + 1) 0 = S i (dg X Y) + dg X Y i + 0 := rfl
    have e2 : An X Y i (0 + 1) = S i (dg X Y) + (0 + dl (O X Y i (i + 1 + 0)) (O X Y i (i + 2 + 0))) := rfl
    rw [e, e2]
    unfold dg
    simp only [Nat.add_zero]
    omega
  | m + 1, h => by
    have ih := L.An_i i m (by omega)
    rw [An_j (i + 1) m, ih, An_j i (m + 1)]
    have sq := square (O_range (X := X) (Y := Y) i (i + 2 + m)) (O_range (i + 1) (i + 2 + m)) (O_range i (i + 2 + (m + 1))) (O_range (i + 1) (i + 2 + (m + 1)))
      (L.near_i (by omega) (by omega)) (L.near_j (i := i + 1) (j := i + 2 + m) (by omega) (by omega)) (L.near_j (i := i) (j := i + 2 + m) (by omega) (by omega)) (L.near_i (i := i) (j := i + 2 + (m + 1)) (by omega) (by omega))
    rw [show i + 1 + 1 + m = i + 2 + m by omega, show i + 1 + 2 + m = i + 2 + (m + 1) by omega, show i + 1 + (m + 1) = i + 2 + m by omega]
    omega
theorem dg_turn {X Y : Nat → Int} {D : Nat → Nat} (L : Loop n X Y D) (k : Nat) : dg X Y k = 2 * turn (D k) (D (k + 1)) := by
  have hu := L.no_u k
  have h1 := L.d4 k
  have h2 := L.d4 (k + 1)
  unfold dg O
  rw [L.sx (k + 1), L.sy (k + 1), L.sx k, L.sy k]
  generalize X k = a
  generalize Y k = b
  generalize D k = e at *
  generalize D (k + 1) = f at *
  have z : ∀ u v : Int, oc (a + u - a) (b + v - b) = oc u v := fun u v => by congr 1 <;> omega
  have z2 : ∀ u v p q : Int, oc (a + u + p - a) (b + v + q - b) = oc (u + p) (v + q) := fun u v p q => by congr 1 <;> omega
  have z3 : ∀ u v p q : Int, oc (a + u + p - (a + u)) (b + v + q - (b + v)) = oc p q := fun u v p q => by congr 1 <;> omega
  rw [z, z2, z3]
  rcases d_cases h1 with e | e | e | e <;> rcases d_cases h2 with g | g | g | g <;> subst e <;> subst g <;> first | exact absurd rfl hu | decide
theorem Loop.turn4' (L : Loop n X Y D) (h1 : LW n X Y D 0 = 1) (hm : ∀ j, Y 0 < Y j ∨ (Y 0 = Y j ∧ X 0 ≤ X j)) : S n (fun i => turn (D i) (D (i + 1))) = 4 := by
  have h4 := L.n4
  obtain ⟨m, rfl⟩ : ∃ m, n = m + 2 := ⟨n - 2, by omega⟩
  have p0 := hm 1
  rw [show (1 : Nat) = 0 + 1 from rfl, L.sx 0, L.sy 0] at p0
  have pl := hm (m + 1)
  have xl := L.sx (m + 1)
  have yl := L.sy (m + 1)
  have px := L.px 0
  have py := L.py 0
  have pd := L.pd 0
  rw [show m + 1 + 1 = 0 + (m + 2) by omega, px] at xl
  rw [show m + 1 + 1 = 0 + (m + 2) by omega, py] at yl
  have hu := L.no_u (m + 1)
  rw [show m + 1 + 1 = 0 + (m + 2) by omega, pd] at hu
  have hl : D (m + 1) ≠ 2 := by
    intro e
    have := L.left (m + 1)
    rw [e] at this
    rw [L.W_down _ (y := cy (Y (m + 1)) 2) fun i => by
      have := hm i
      rw [e] at yl
      simp [uy] at yl
      show Y (m + 1) - 1 < Y i
      omega] at this
    omega
  have d0 := L.d4 0
  have dm := L.d4 (m + 1)
  have eL : D (m + 1) = 3 := by
    rcases d_cases dm with e | e | e | e
    · rw [e] at xl yl
      simp [ux, uy] at xl yl
      omega
    · rw [e] at xl yl
      simp [ux, uy] at xl yl
      omega
    · exact absurd e hl
    · exact e
  have eF : D 0 = 0 := by
    rcases d_cases d0 with e | e | e | e
    · exact e
    · rw [e, eL] at hu
      exact absurd rfl hu
    · rw [e] at p0
      simp [ux, uy] at p0
      omega
    · rw [e] at p0
      simp [ux, uy] at p0
      omega
  rw [eL] at xl yl
  simp [ux, uy] at xl yl
  have xf := L.sx 0
  have yf := L.sy 0
  rw [eF] at xf yf
  simp [ux, uy] at xf yf
  have up : ∀ j, 0 < j → j < m + 2 → 0 ≤ O X Y 0 j ∧ O X Y 0 j ≤ 0 + 3 := by
    intro j hj hj2
    have hn := L.ne0 (i := 0) (j := j) hj (by omega)
    have := hm j
    unfold O oc
    (repeat' split) <;> omega
  have dn : ∀ j, 0 < j → j < m + 2 → 4 ≤ O X Y j (m + 2) ∧ O X Y j (m + 2) ≤ 4 + 3 := by
    intro j hj hj2
    have hn := L.ne0 (i := j) (j := m + 2) hj2 (by omega)
    rw [show m + 2 = 0 + (m + 2) by omega, px, py] at hn
    have := hm j
    unfold O oc
    rw [show m + 2 = 0 + (m + 2) by omega, px, py]
    (repeat' split) <;> omega
  have row : ∀ t, t ≤ m → An X Y 0 t = O X Y 0 (1 + t) - O X Y 0 1 := by
    intro t
    induction t with
    | zero => intro _; show (0 : Int) + 0 = _; simp
    | succ t ih =>
      intro ht
      rw [An_j, ih (by omega), dl_half (c := 0) (up _ (by omega) (by omega)) (up _ (by omega) (by omega)) (by
        have := L.near_j (i := 0) (j := 0 + 1 + t) (by omega) (by omega)
        rwa [show 0 + 1 + t + 1 = 0 + 2 + t by omega] at this)]
      rw [show 0 + 1 + t = 1 + t by omega, show 0 + 2 + t = 1 + (t + 1) by omega]
      omega
  have col : ∀ i, i ≤ m → An X Y (i + 1) (m - i) = An X Y 1 m + (O X Y (i + 1) (m + 2) - O X Y 1 (m + 2)) := by
    intro i
    induction i with
    | zero => intro _; show An X Y 1 m = _; simp
    | succ i ih =>
      intro hi
      have := L.An_i (i + 1) (m - (i + 1)) (by omega)
      rw [this, show m - (i + 1) + 1 = m - i by omega, ih (by omega), show i + 1 + 2 + (m - (i + 1)) = m + 2 by omega, dl_half (c := 4) (dn _ (by omega) (by omega)) (dn _ (by omega) (by omega)) (L.near_i (i := i + 1) (j := m + 2) (by omega) (by omega))]
      omega
  have c1 := row m (Nat.le_refl _)
  have c2 := L.An_i 0 (m - 1) (by omega)
  have c3 := An_j (X := X) (Y := Y) 1 (m - 1)
  have c4 := col m (Nat.le_refl _)
  have c5 : An X Y (m + 1) 0 = S (m + 1) (dg X Y) := by show S (m + 1) (dg X Y) + 0 = _; omega
  have c6 := S_succ (m + 1) (dg X Y)
  have o1 : O X Y 0 1 = 0 := by
    have e1 := xf
    have e2 := yf
    unfold O oc
    rw [if_pos (by omega), if_pos (by omega)]
  have o2 : O X Y 0 (1 + m) = 2 := by
    unfold O oc
    rw [Nat.add_comm 1 m, if_neg (by omega), if_pos (by omega), if_neg (by omega), if_pos (by omega)]
  have o3 : O X Y 1 (m + 1) = 3 := by
    unfold O oc
    rw [if_neg (by omega), if_pos (by omega), if_neg (by omega), if_neg (by omega)]
  have o4 : O X Y 1 (m + 2) = 4 := by
    unfold O oc
    rw [show m + 2 = 0 + (m + 2) by omega, px, py, if_pos (by omega), if_neg (by omega)]
  have o5 : O X Y (m + 1) (m + 2) = 6 := by
    unfold O oc
    rw [show m + 2 = 0 + (m + 2) by omega, px, py, if_neg (by omega), if_neg (by omega), if_neg (by omega), if_pos (by omega)]
  have o6 : dg X Y (m + 1) = 2 := by
    rw [dg_turn L, eL, show m + 1 + 1 = 0 + (m + 2) by omega, pd, eF]
    decide
  rw [show m - 1 + 1 = m by omega] at c2 c3
  rw [show 0 + 2 + (m - 1) = m + 1 by omega, show (0 : Nat) + 1 = 1 from rfl] at c2
  rw [show 1 + 1 + (m - 1) = m + 1 by omega, show 1 + 2 + (m - 1) = m + 2 by omega, o3, o4] at c3
  rw [Nat.add_comm 1 m] at o2
  rw [Nat.add_comm 1 m, o2, o1] at c1
  rw [o2, o3] at c2
  rw [Nat.sub_self, o5, o4] at c4
  have d1 : dl 2 3 = 1 := by decide
  have d2 : dl 3 4 = 1 := by decide
  rw [d1] at c2
  rw [d2] at c3
  have hs : S (m + 2) (dg X Y) = 2 * S (m + 2) fun i => turn (D i) (D (i + 1)) := by
    rw [← S_mul]
    exact S_congr fun i _ => dg_turn L i
  rw [show m + 2 = m + 1 + 1 from rfl] at hs ⊢
  omega
end
end Go.Proofs.YtpfenoioeajkmaaDoor.G
end

section
set_option linter.unusedVariables false
set_option linter.unusedSimpArgs false
namespace Go.Proofs.YtpfenoioeajkmaaDoor.G
theorem min_lex (X Y : Nat → Int) : ∀ n, 0 < n → ∃ i, i < n ∧ ∀ j, j < n → Y i < Y j ∨ (Y i = Y j ∧ X i ≤ X j)
  | 1, _ => ⟨0, by omega, fun j hj => by obtain rfl : j = 0 := by omega
                                         exact .inr ⟨rfl, Int.le_refl _⟩⟩
  | n + 2, _ => by
    obtain ⟨i, hi, h⟩ := min_lex X Y (n + 1) (by omega)
    by_cases e : Y i < Y (n + 1) ∨ (Y i = Y (n + 1) ∧ X i ≤ X (n + 1))
    · exact ⟨i, by omega, fun j hj => by
        by_cases q : j = n + 1
        · rw [q]; exact e
        · exact h j (by omega)⟩
    · exact ⟨n + 1, by omega, fun j hj => by
        by_cases q : j = n + 1
        · rw [q]; exact .inr ⟨rfl, Int.le_refl _⟩
        · have := h j (by omega); omega⟩
section
variable {n : Nat} {X Y : Nat → Int} {D : Nat → Nat}
theorem Loop.per1 (L : Loop n X Y D) (i : Nat) : X (i + n + 1) = X (i + 1) ∧ Y (i + n + 1) = Y (i + 1) ∧ D (i + n + 1) = D (i + 1) := by
  rw [show i + n + 1 = i + 1 + n by omega, L.px, L.py, L.pd]
  exact ⟨rfl, rfl, rfl⟩
theorem Loop.W_rot (L : Loop n X Y D) (b : Nat) (x y : Int) : W n (fun i => X (b + i)) (fun i => Y (b + i)) (fun i => D (b + i)) x y = W n X Y D x y := by
  unfold W
  exact S_rot (f := wi X Y D x y) (fun i => by unfold wi; rw [L.px, L.py, L.pd]) b
theorem Loop.turn4 (L : Loop n X Y D) (h1 : LW n X Y D 0 = 1) : S n (fun i => turn (D i) (D (i + 1))) = 4 := by
  have h4 := L.n4
  obtain ⟨b, hb, hm⟩ := min_lex X Y n (by omega)
  have hL : LW n (fun i => X (b + i)) (fun i => Y (b + i)) (fun i => D (b + i)) 0 = 1 := by
    show W n (fun i => X (b + i)) (fun i => Y (b + i)) (fun i => D (b + i)) (cx (X b) (D b)) (cy (Y b) (D b)) = 1
    rw [L.W_rot, ← h1, ← L.LW_eq b]
    rfl
  have := (L.shift b).turn4' hL fun j => by
    show Y b < Y (b + j) ∨ (Y b = Y (b + j) ∧ X b ≤ X (b + j))
    rw [← L.mod_x (b + j), ← L.mod_y (b + j)]
    exact hm _ (Nat.mod_lt _ (by omega))
  rw [← this, ← S_rot (f := fun i => turn (D i) (D (i + 1))) (fun i => by rw [L.pd, (L.per1 i).2.2]) b]
  exact S_congr fun i _ => rfl
def inn (n : Nat) (X Y : Nat → Int) (D : Nat → Nat) (a b : Int) : Int := if W n X Y D a b = 1 ∧ W n X Y D (a - 1) b = 1 ∧ W n X Y D (a - 1) (b - 1) = 1 ∧ W n X Y D a (b - 1) = 1 then 1 else 0
def on (X Y : Nat → Int) (D : Nat → Nat) (a b : Int) (i : Nat) : Int := if X (i + 1) = a ∧ Y (i + 1) = b then 2 - turn (D i) (D (i + 1)) else 0
theorem Loop.point (L : Loop n X Y D) (h1 : LW n X Y D 0 = 1) (a b : Int) :
    W n X Y D a b + W n X Y D (a - 1) b + W n X Y D (a - 1) (b - 1) + W n X Y D a (b - 1) = 4 * inn n X Y D a b + S n (on X Y D a b) := by
  have h4 := L.n4
  by_cases hp : ∃ j, j < n ∧ X (j + 1) = a ∧ Y (j + 1) = b
  · obtain ⟨j, hj, rfl, rfl⟩ := hp
    obtain ⟨-, -, h, -, hr⟩ := L.around j
    rw [L.LW_eq, h1] at h hr
    have hs : S n (on X Y D (X (j + 1)) (Y (j + 1))) = 2 - turn (D j) (D (j + 1)) := by
      rw [S_one (k := j) hj]
      · unfold on
        rw [if_pos ⟨rfl, rfl⟩]
      · intro i hi hne
        unfold on
        rw [if_neg]
        rintro ⟨hx, hy⟩
        have := mod_add_cancel (b := 1) (i := i) (j := j) (by rw [Nat.add_comm 1, Nat.add_comm 1]; exact L.inj _ _ hx hy)
        rw [Nat.mod_eq_of_lt hi, Nat.mod_eq_of_lt hj] at this
        exact hne this
    rw [hs]
    have hin : inn n X Y D (X (j + 1)) (Y (j + 1)) = 0 := by
      unfold inn
      rw [if_neg]
      rintro ⟨q0, q1, q2, q3⟩
      have hd := L.d4 (j + 1)
      rcases d_cases hd with e | e | e | e <;> rw [e] at hr <;> simp [cx, cy] at hr <;> omega
    rw [hin]
    simp [cx, cy] at h
    omega
  · have hs : S n (on X Y D a b) = 0 := S_zero fun i hi => by
      unfold on
      rw [if_neg fun q => hp ⟨i, hi, q⟩]
    have ht : ∀ k, S n (ti X Y D a b k) = 0 := fun k => S_zero fun i hi => by
      unfold ti
      rw [if_neg fun q => hp ⟨(i + n - 1) % n, Nat.mod_lt _ (by omega), by
          have e : X ((i + n - 1) % n + 1) = X i := by rw [L.sx, L.mod_x, L.mod_d, ← L.sx, show i + n - 1 + 1 = i + n by omega, L.px]
          have e2 : Y ((i + n - 1) % n + 1) = Y i := by rw [L.sy, L.mod_y, L.mod_d, ← L.sy, show i + n - 1 + 1 = i + n by omega, L.py]
          rw [e, e2]; exact q.2⟩, if_neg fun q => hp ⟨i, hi, q.2⟩]
      rfl
    have c1 := cross L a b (k := 1) (by omega)
    have c2 := cross L a b (k := 2) (by omega)
    have c3 := cross L a b (k := 3) (by omega)
    rw [ht] at c1 c2 c3
    simp [cx, cy] at c1 c2 c3
    rw [hs]
    have := L.zo h1 a b
    unfold inn
    split <;> omega
theorem Loop.even (L : Loop n X Y D) : n % 2 = 0 := by
  have h : ∀ i : Nat, (X i + Y i - X 0 - Y 0 - i) % 2 = 0 := by
    intro i
    induction i with
    | zero => simp; omega
    | succ i ih =>
      rw [L.sx, L.sy]
      rcases unit_of _ (L.d4 i) with ⟨e, f⟩ | ⟨e, f⟩ | ⟨e, f⟩ | ⟨e, f⟩ <;> rw [e, f] <;> omega
  have := h n
  have hx := L.px 0
  have hy := L.py 0
  rw [Nat.zero_add] at hx hy
  rw [hx, hy] at this
  omega
def ab (x : Int) : Int := if 0 ≤ x then x else -x
theorem span (f : Nat → Int) (m : Nat) : f m - f 0 ≤ S m (fun i => ab (f (i + 1) - f i)) ∧ f 0 - f m ≤ S m (fun i => ab (f (i + 1) - f i)) := by
  have h := S_tel m f
  have h1 : S m (fun i => f (i + 1) - f i) ≤ S m (fun i => ab (f (i + 1) - f i)) := S_le fun i _ => by unfold ab; split <;> omega
  have h2 : S m (fun i => -(f (i + 1) - f i)) ≤ S m (fun i => ab (f (i + 1) - f i)) := S_le fun i _ => by unfold ab; split <;> omega
  rw [S_neg] at h2
  omega
theorem span2 (f : Nat → Int) {n : Nat} (hp : ∀ i, f (i + n) = f i) (hn : 0 < n) (i j : Nat) : 2 * (f i - f j) ≤ S n (fun i => ab (f (i + 1) - f i)) := by
  have hmod : ∀ i, f (i % n) = f i := by
    have : ∀ q r, f (r + q * n) = f r := fun q r => by
      induction q with
      | zero => rw [Nat.zero_mul, Nat.add_zero]
      | succ q ih => rw [Nat.succ_mul, ← Nat.add_assoc, hp, ih]
    intro i
    rw [← this (i / n) (i % n), Nat.mul_comm, Nat.mod_add_div]
  have hg : ∃ m, m < n ∧ f (i + m) = f j := by
    refine ⟨(j + n - i % n) % n, Nat.mod_lt _ hn, ?_⟩
    have hi := Nat.mod_lt i hn
    have e : (i + (j + n - i % n) % n) % n = j % n := by
      rw [Nat.add_mod, Nat.mod_mod, ← Nat.add_mod]
      have h3 := Nat.mod_add_div i n
      have : i + (j + n - i % n) = j + n + n * (i / n) := by omega
      rw [this, Nat.add_mul_mod_self_left, Nat.add_mod_right]
    rw [← hmod (i + _), e, hmod]
  obtain ⟨m, hm, e⟩ := hg
  have hr := S_rot (n := n) (f := fun i => ab (f (i + 1) - f i)) (fun k => by rw [hp, show k + n + 1 = k + 1 + n by omega, hp]) i
  rw [← hr]
  have hs := S_split m (n - m) (fun k => ab (f (i + k + 1) - f (i + k)))
  rw [show m + (n - m) = n by omega] at hs
  rw [hs]
  have s1 := (span (fun k => f (i + k)) m).2
  have s2 := (span (fun k => f (i + m + k)) (n - m)).1
  simp only [Nat.add_zero, Nat.add_assoc] at s1 s2 ⊢
  rw [show i + (m + (n - m)) = i + n by omega, hp] at s2
  rw [e] at s1 s2
  omega
theorem Loop.iso (L : Loop n X Y D) {K : Nat} (hB : Box K X Y) (h1 : LW n X Y D 0 = 1) : 16 * (Z K fun x => Z K fun y => W n X Y D x y) ≤ (n : Int) * n := by
  have h4 := L.n4
  obtain ⟨i1, a1⟩ := L.maxX
  obtain ⟨i2, hi2, a2⟩ := max_of (fun i => -X i) n (by omega)
  obtain ⟨i3, hi3, a3⟩ := max_of Y n (by omega)
  obtain ⟨i4, hi4, a4⟩ := max_of (fun i => -Y i) n (by omega)
  have b2 : ∀ j, X i2 ≤ X j := fun j => by have := a2 _ (Nat.mod_lt j (show 0 < n by omega)); rw [L.mod_x] at this; omega
  have b3 : ∀ j, Y j ≤ Y i3 := fun j => by have := a3 _ (Nat.mod_lt j (show 0 < n by omega)); rw [L.mod_y] at this; omega
  have b4 : ∀ j, Y i4 ≤ Y j := fun j => by have := a4 _ (Nat.mod_lt j (show 0 < n by omega)); rw [L.mod_y] at this; omega
  have sx := span2 X L.px (by omega) i1 i2
  have sy := span2 Y L.py (by omega) i3 i4
  have hs : S n (fun i => ab (X (i + 1) - X i)) + S n (fun i => ab (Y (i + 1) - Y i)) = n := by
    rw [← S_add, S_congr (g := fun _ => 1), S_const]
    · omega
    · intro i _
      rw [L.sx, L.sy, show X i + ux (D i) - X i = ux (D i) by omega, show Y i + uy (D i) - Y i = uy (D i) by omega]
      rcases unit_of _ (L.d4 i) with ⟨e, f⟩ | ⟨e, f⟩ | ⟨e, f⟩ | ⟨e, f⟩ <;> rw [e, f] <;> rfl
  have hx := a1 i2
  have hy := b3 i4
  have q1 := hB i1
  have q2 := hB i2
  have q3 := hB i3
  have q4 := hB i4
  have cnt : ∀ {lo hi : Int}, -(K : Int) ≤ lo → lo ≤ hi → hi ≤ K → Z K (fun x => if lo ≤ x ∧ x < hi then 1 else 0) = hi - lo := fun {lo hi} h1 h2 h3 => by
    have : ∀ x, (if lo ≤ x ∧ x < hi then (1 : Int) else 0) = (if x < hi then 1 else 0) - (if x < lo then 1 else 0) := fun x => by (repeat' split) <;> omega
    rw [Z_congr fun x _ _ => this x, Z_sub, Z_count (by omega) h3, Z_count h1 (by omega)]
    omega
  have hle : (Z K fun x => Z K fun y => W n X Y D x y) ≤ Z K fun x => Z K fun y => (if X i2 ≤ x ∧ x < X i1 then 1 else 0) * (if Y i4 ≤ y ∧ y < Y i3 then 1 else 0) := Z_le fun x _ _ => Z_le fun y _ _ => by
    by_cases c1 : X i2 ≤ x ∧ x < X i1
    · by_cases c2 : Y i4 ≤ y ∧ y < Y i3
      · rw [if_pos c1, if_pos c2]
        have := L.zo h1 x y
        omega
      · rw [if_neg c2, Int.mul_zero]
        by_cases c3 : Y i4 ≤ y
        · rw [L.W_up x fun i => by have := b3 i; omega]; exact Int.le_refl _
        · rw [L.W_down x fun i => by have := b4 i; omega]; exact Int.le_refl _
    · rw [if_neg c1, Int.zero_mul]
      by_cases c3 : X i2 ≤ x
      · rw [W_right y fun i => by have := a1 i; omega]; exact Int.le_refl _
      · rw [L.W_left y fun i => by have := b2 i; omega]; exact Int.le_refl _
  have e1 : (Z K fun x => Z K fun y => (if X i2 ≤ x ∧ x < X i1 then (1 : Int) else 0) * (if Y i4 ≤ y ∧ y < Y i3 then 1 else 0)) = (X i1 - X i2) * (Y i3 - Y i4) := by
    have : ∀ x, (Z K fun y => (if X i2 ≤ x ∧ x < X i1 then (1 : Int) else 0) * (if Y i4 ≤ y ∧ y < Y i3 then 1 else 0)) = (Y i3 - Y i4) * (if X i2 ≤ x ∧ x < X i1 then 1 else 0) := fun x => by
      rw [Z_mul, cnt (by omega) (by omega) (by omega), Int.mul_comm]
    rw [Z_congr fun x _ _ => this x, Z_mul, cnt (by omega) (by omega) (by omega), Int.mul_comm]
  rw [e1] at hle
  have hp : 0 ≤ X i1 - X i2 := by omega
  have hq : 0 ≤ Y i3 - Y i4 := by omega
  generalize X i1 - X i2 = p at *
  generalize Y i3 - Y i4 = q at *
  have hpq : 2 * p + 2 * q ≤ n := by omega
  have hmul : (2 * p + 2 * q) * (2 * p + 2 * q) ≤ (n : Int) * n := Int.mul_le_mul hpq hpq (by omega) (by omega)
  have hsq : 0 ≤ (p - q) * (p - q) := by
    rcases Int.le_total 0 (p - q) with h | h
    · exact Int.mul_nonneg h h
    · exact Int.mul_nonneg_of_nonpos_of_nonpos h h
  have e2 : (2 * p + 2 * q) * (2 * p + 2 * q) = 4 * ((p - q) * (p - q)) + 16 * (p * q) := by
    have m1 : 2 * p * (2 * p) = 4 * (p * p) := by rw [Int.mul_assoc, Int.mul_left_comm p 2 p]; omega
    have m2 : 2 * p * (2 * q) = 4 * (p * q) := by rw [Int.mul_assoc, Int.mul_left_comm p 2 q]; omega
    have m3 : 2 * q * (2 * p) = 4 * (p * q) := by rw [Int.mul_assoc, Int.mul_left_comm q 2 p, Int.mul_comm q p]; omega
    have m4 : 2 * q * (2 * q) = 4 * (q * q) := by rw [Int.mul_assoc, Int.mul_left_comm q 2 q]; omega
    have m5 := Int.mul_comm q p
    simp only [Int.sub_mul, Int.mul_sub, Int.add_mul, Int.mul_add, m1, m2, m3, m4]
    omega
  omega
end
end Go.Proofs.YtpfenoioeajkmaaDoor.G
end

section
set_option linter.unusedVariables false
set_option linter.unusedSimpArgs false
namespace Go.Proofs.YtpfenoioeajkmaaDoor.G
def Lat (v0 v1 u0 u1 x y : Int) : Prop := ∃ i j : Int, x = i * v0 + j * u0 ∧ y = i * v1 + j * u1
theorem lat_iff {v0 v1 u0 u1 : Int} (hD : v0 * u1 - v1 * u0 ≠ 0) (x y : Int) : Lat v0 v1 u0 u1 x y ↔ (v0 * u1 - v1 * u0) ∣ (x * u1 - y * u0) ∧ (v0 * u1 - v1 * u0) ∣ (v0 * y - v1 * x) := by
  constructor
  · rintro ⟨i, j, rfl, rfl⟩
    refine ⟨⟨i, ?_⟩, ⟨j, ?_⟩⟩
    · grind
    · grind
  · rintro ⟨⟨i, hi⟩, ⟨j, hj⟩⟩
    refine ⟨i, j, ?_, ?_⟩
    · apply Int.eq_of_mul_eq_mul_left hD
      grind
    · apply Int.eq_of_mul_eq_mul_left hD
      grind
theorem lat_swap {v0 v1 u0 u1 x y : Int} : Lat v0 v1 u0 u1 x y ↔ Lat u0 u1 v0 v1 x y :=
  ⟨fun ⟨i, j, h, k⟩ => ⟨j, i, by omega, by omega⟩, fun ⟨i, j, h, k⟩ => ⟨j, i, by omega, by omega⟩⟩
theorem lat_sub {v0 v1 u0 u1 x y : Int} (q : Int) : Lat v0 v1 u0 u1 x y ↔ Lat (u0 - q * v0) (u1 - q * v1) v0 v1 x y := by
  constructor
  · rintro ⟨i, j, rfl, rfl⟩
    refine ⟨j, i + j * q, ?_, ?_⟩ <;> rw [Int.mul_sub, Int.add_mul, Int.mul_assoc] <;> omega
  · rintro ⟨i, j, rfl, rfl⟩
    refine ⟨j - i * q, i, ?_, ?_⟩ <;> rw [Int.mul_sub, Int.sub_mul, Int.mul_assoc] <;> omega
theorem lat_neg1 {v0 v1 u0 u1 x y : Int} : Lat v0 v1 u0 u1 x y ↔ Lat (-v0) (-v1) u0 u1 x y := by
  constructor
  · rintro ⟨i, j, rfl, rfl⟩
    exact ⟨-i, j, by rw [Int.neg_mul_neg], by rw [Int.neg_mul_neg]⟩
  · rintro ⟨i, j, rfl, rfl⟩
    exact ⟨-i, j, by rw [Int.neg_mul, Int.mul_neg], by rw [Int.neg_mul, Int.mul_neg]⟩
theorem lat_neg2 {v0 v1 u0 u1 x y : Int} : Lat v0 v1 u0 u1 x y ↔ Lat v0 v1 (-u0) (-u1) x y := by
  rw [lat_swap, lat_neg1, lat_swap]
theorem lat_form : ∀ (m : Nat) (v0 v1 u0 u1 : Int), v1.natAbs ≤ m → v0 * u1 - v1 * u0 ≠ 0 →
    ∃ wd h : Nat, ∃ s : Int, ((wd * h : Nat) : Int) = (v0 * u1 - v1 * u0).natAbs ∧ 0 < wd ∧ 0 < h ∧ 0 ≤ s ∧ s < wd ∧ ∀ x y, Lat v0 v1 u0 u1 x y ↔ Lat wd 0 s h x y
  | 0, v0, v1, u0, u1, hm, hD => by
    obtain rfl : v1 = 0 := by omega
    rw [Int.zero_mul, Int.sub_zero] at hD ⊢
    have h0 : v0 ≠ 0 := fun e => hD (by rw [e, Int.zero_mul])
    have h1 : u1 ≠ 0 := fun e => hD (by rw [e, Int.mul_zero])
    have key : ∀ (v0 u0 u1 : Int), 0 < v0 → 0 < u1 → ∃ wd h : Nat, ∃ s : Int, ((wd * h : Nat) : Int) = (v0 * u1).natAbs ∧ 0 < wd ∧ 0 < h ∧ 0 ≤ s ∧ s < wd ∧ ∀ x y, Lat v0 0 u0 u1 x y ↔ Lat wd 0 s h x y := fun v0 u0 u1 h0 h1 => by
      have hv : ((v0.toNat : Nat) : Int) = v0 := Int.toNat_of_nonneg (by omega)
      have hu : ((u1.toNat : Nat) : Int) = u1 := Int.toNat_of_nonneg (by omega)
      refine ⟨v0.toNat, u1.toNat, u0 % v0, ?_, by omega, by omega, Int.emod_nonneg _ (by omega), by rw [hv]; exact Int.emod_lt_of_pos _ h0, fun x y => ?_⟩
      · rw [Int.natCast_mul, hv, hu]
        have := Int.mul_pos h0 h1
        omega
      · rw [hv, hu]
        have hq := Int.emod_add_mul_ediv u0 v0
        constructor
        · rintro ⟨i, j, rfl, rfl⟩
          refine ⟨i + j * (u0 / v0), j, ?_, ?_⟩
          · have : j * u0 = j * (u0 % v0) + j * (u0 / v0) * v0 := by
              rw [Int.mul_assoc, Int.mul_comm (u0 / v0) v0, ← Int.mul_add, hq]
            rw [this, Int.add_mul]
            omega
          · simp
        · rintro ⟨i, j, rfl, rfl⟩
          refine ⟨i - j * (u0 / v0), j, ?_, ?_⟩
          · have : j * u0 = j * (u0 % v0) + j * (u0 / v0) * v0 := by
              rw [Int.mul_assoc, Int.mul_comm (u0 / v0) v0, ← Int.mul_add, hq]
            rw [this, Int.sub_mul]
            omega
          · simp
    by_cases p0 : 0 < v0 <;> by_cases p1 : 0 < u1
    · exact key v0 u0 u1 p0 p1
    · obtain ⟨wd, h, s, e, a, b, c, d, k⟩ := key v0 (-u0) (-u1) p0 (by omega)
      exact ⟨wd, h, s, by rw [e, Int.mul_neg, Int.natAbs_neg], a, b, c, d, fun x y => by rw [lat_neg2]; exact k x y⟩
    · obtain ⟨wd, h, s, e, a, b, c, d, k⟩ := key (-v0) u0 u1 (by omega) p1
      exact ⟨wd, h, s, by rw [e, Int.neg_mul, Int.natAbs_neg], a, b, c, d, fun x y => by rw [lat_neg1, Int.neg_zero]; exact k x y⟩
    · obtain ⟨wd, h, s, e, a, b, c, d, k⟩ := key (-v0) (-u0) (-u1) (by omega) (by omega)
      exact ⟨wd, h, s, by rw [e, Int.neg_mul_neg], a, b, c, d, fun x y => by rw [lat_neg1, lat_neg2, Int.neg_zero]; exact k x y⟩
  | m + 1, v0, v1, u0, u1, hm, hD => by
    by_cases hz : v1 = 0
    · exact lat_form 0 v0 v1 u0 u1 (by omega) hD
    · have e1 : u1 - u1 / v1 * v1 = u1 % v1 := by
        have := Int.emod_add_mul_ediv u1 v1
        rw [Int.mul_comm (u1 / v1)]
        omega
      have b1 := Int.emod_nonneg u1 hz
      have b2 := Int.emod_lt u1 hz
      have eD : (u0 - u1 / v1 * v0) * v1 - (u1 % v1) * v0 = -(v0 * u1 - v1 * u0) := by
        rw [← e1]
        grind
      obtain ⟨wd, h, s, e, a, b, c, d, k⟩ := lat_form m (u0 - u1 / v1 * v0) (u1 % v1) v0 v1 (by omega) (by rw [eD]; omega)
      refine ⟨wd, h, s, by rw [e, eD, Int.natAbs_neg], a, b, c, d, fun x y => ?_⟩
      rw [lat_sub (u1 / v1), e1]
      exact k x y
def latB (wd h s x y : Int) : Bool := decide (y % h = 0 ∧ (x - y / h * s) % wd = 0)
theorem latB_iff {wd h s : Int} (hw : 0 < wd) (hh : 0 < h) (x y : Int) : latB wd h s x y = true ↔ Lat wd 0 s h x y := by
  unfold latB
  rw [decide_eq_true_eq]
  constructor
  · rintro ⟨h1, h2⟩
    refine ⟨(x - y / h * s) / wd, y / h, ?_, ?_⟩
    · have := Int.emod_add_mul_ediv (x - y / h * s) wd
      rw [h2] at this
      rw [Int.mul_comm _ wd]
      omega
    · have := Int.emod_add_mul_ediv y h
      rw [h1] at this
      rw [Int.mul_comm _ h]
      omega
  · rintro ⟨i, j, rfl, rfl⟩
    have e : (i * 0 + j * h) = j * h := by omega
    rw [e, Int.mul_emod_left, Int.mul_ediv_cancel _ (by omega), show i * wd + j * s - j * s = i * wd by omega, Int.mul_emod_left]
    exact ⟨rfl, rfl⟩
structure Grid (l : Int → Int → Bool) : Prop where
  zero : l 0 0 = true
  add : ∀ a b c d, l a b = true → l c d = true → l (a + c) (b + d) = true
  neg : ∀ a b, l a b = true → l (-a) (-b) = true
theorem grid_of {l : Int → Int → Bool} {v0 v1 u0 u1 : Int} (h : ∀ x y, l x y = true ↔ Lat v0 v1 u0 u1 x y) : Grid l where
  zero := (h 0 0).2 ⟨0, 0, by simp, by simp⟩
  add a b c d p q := by
    obtain ⟨i, j, rfl, rfl⟩ := (h _ _).1 p
    obtain ⟨i2, j2, rfl, rfl⟩ := (h _ _).1 q
    exact (h _ _).2 ⟨i + i2, j + j2, by rw [Int.add_mul, Int.add_mul]; omega, by rw [Int.add_mul, Int.add_mul]; omega⟩
  neg a b p := by
    obtain ⟨i, j, rfl, rfl⟩ := (h _ _).1 p
    exact (h _ _).2 ⟨-i, -j, by rw [Int.neg_mul, Int.neg_mul]; omega, by rw [Int.neg_mul, Int.neg_mul]; omega⟩
theorem Grid.move {l : Int → Int → Bool} (g : Grid l) {a b : Int} (h : l a b = true) (x y : Int) : l (x + a) (y + b) = l x y := by
  rw [Bool.eq_iff_iff]
  constructor
  · intro q
    have := g.add _ _ _ _ q (g.neg _ _ h)
    rwa [show x + a + -a = x by omega, show y + b + -b = y by omega] at this
  · intro q
    exact g.add _ _ _ _ q h
def bi (b : Bool) : Int := if b then 1 else 0
theorem bi_range (b : Bool) : 0 ≤ bi b ∧ bi b ≤ 1 := by cases b <;> decide
theorem latB_dom {wd h : Nat} {s : Int} (hw : 0 < wd) (hh : 0 < h) (x y : Int) : S wd (fun p => S h fun q => bi (latB wd h s (x - p) (y - q))) = 1 := by
  have hh' : (0 : Int) < h := by omega
  have hw' : (0 : Int) < wd := by omega
  have y0 := Int.emod_nonneg y (show (h : Int) ≠ 0 by omega)
  have y1 := Int.emod_lt_of_pos y hh'
  have ye := Int.emod_add_mul_ediv y h
  have hr : ∀ p : Nat, S h (fun q => bi (latB wd h s (x - p) (y - q))) = bi (latB wd h s (x - p) (y - (y % h).toNat)) := fun p => by
    refine S_one (k := (y % h).toNat) (by omega) fun q hq hne => ?_
    unfold latB bi
    rw [if_neg]
    simp only [decide_eq_true_eq]
    rintro ⟨a, -⟩
    apply hne
    have : (y - q) % h = 0 := a
    have h2 : y % h = (q : Int) % h := by
      rw [Int.emod_eq_emod_iff_emod_sub_eq_zero]
      exact this
    rw [Int.emod_eq_of_lt (a := (q : Int)) (by omega) (by omega)] at h2
    omega
  rw [S_congr fun p _ => hr p]
  have hy : (y - ((y % h).toNat : Nat)) = y / h * h := by rw [Int.mul_comm]; omega
  rw [S_congr (g := fun p : Nat => bi (decide ((x - y / h * s - p) % wd = 0))) fun p _ => by
    unfold latB
    rw [hy, Int.mul_emod_left, Int.mul_ediv_cancel _ (by omega)]
    congr 2
    rw [show x - (p : Int) - y / h * s = x - y / h * s - p by omega]
    simp]
  generalize x - y / h * s = z
  have z0 := Int.emod_nonneg z (show (wd : Int) ≠ 0 by omega)
  have z1 := Int.emod_lt_of_pos z hw'
  have ze := Int.emod_add_mul_ediv z wd
  rw [S_one (k := (z % wd).toNat) (by omega)]
  · have : (z - ((z % wd).toNat : Nat)) = z / wd * wd := by rw [Int.mul_comm]; omega
    rw [this, Int.mul_emod_left]
    rfl
  · intro p hp hne
    unfold bi
    rw [if_neg]
    simp only [decide_eq_true_eq]
    intro a
    apply hne
    have h2 : z % wd = (p : Int) % wd := by
      rw [Int.emod_eq_emod_iff_emod_sub_eq_zero]
      exact a
    rw [Int.emod_eq_of_lt (a := (p : Int)) (by omega) (by omega)] at h2
    omega
end Go.Proofs.YtpfenoioeajkmaaDoor.G
end

section
set_option linter.unusedVariables false
set_option linter.unusedSimpArgs false
namespace Go.Proofs.YtpfenoioeajkmaaDoor.G
theorem Z2_one {K : Nat} {p q : Int} {F : Int → Int → Int} (h1 : -(K : Int) ≤ p) (h2 : p < K) (h3 : -(K : Int) ≤ q) (h4 : q < K) (h : ∀ x y, ¬ (x = p ∧ y = q) → F x y = 0) : (Z K fun x => Z K fun y => F x y) = F p q := by
  rw [Z_one h1 h2, Z_one h3 h4]
  · exact fun y hy => h _ _ fun e => hy e.2
  · exact fun x hx => Z_zero fun y _ _ => h _ _ fun e => hx e.1
section
variable {n : Nat} {X Y : Nat → Int} {D : Nat → Nat}
def fC (n : Nat) (X Y : Nat → Int) (D : Nat → Nat) (l : Int → Int → Bool) (K : Nat) (a b : Int) : Int := Z K fun x => Z K fun y => bi (l (x - a) (y - b)) * W n X Y D x y
def E (n : Nat) (X Y : Nat → Int) (D : Nat → Nat) (l : Int → Int → Bool) (k : Nat) (a b : Int) : Int := S n fun i => if D i = k then bi (l (X i - a) (Y i - b)) else 0
structure Rim (n : Nat) (X Y : Nat → Int) (D : Nat → Nat) (K : Nat) : Prop where
  l : ∀ x y, x ≤ -(K : Int) → W n X Y D x y = 0
  r : ∀ x y, (K : Int) - 1 ≤ x → W n X Y D x y = 0
  d : ∀ x y, y ≤ -(K : Int) → W n X Y D x y = 0
  u : ∀ x y, (K : Int) - 1 ≤ y → W n X Y D x y = 0
theorem Loop.rim (L : Loop n X Y D) {K : Nat} (hB : Box K X Y) : Rim n X Y D K where
  l x y h := L.W_left y fun i => by have := hB i; omega
  r x y h := W_right y fun i => by have := hB i; omega
  d x y h := L.W_down x fun i => by have := hB i; omega
  u x y h := L.W_up x fun i => by have := hB i; omega
theorem Rim.sum_x {K : Nat} (R : Rim n X Y D K) (c : Int → Int → Int) : (Z K fun x => Z K fun y => c x y * W n X Y D (x - 1) y) = Z K fun x => Z K fun y => c (x + 1) y * W n X Y D x y := by
  rw [← Z_shift (f := fun x => Z K fun y => c (x + 1) y * W n X Y D x y)]
  · exact Z_congr fun x _ _ => by rw [show x - 1 + 1 = x by omega]
  · exact Z_zero fun y _ _ => by rw [R.l _ _ (by omega), Int.mul_zero]
  · exact Z_zero fun y _ _ => by rw [R.r _ _ (by omega), Int.mul_zero]
theorem Rim.sum_y {K : Nat} (R : Rim n X Y D K) (c : Int → Int → Int) (k : Int) : (Z K fun x => Z K fun y => c x y * W n X Y D (x - k) (y - 1)) = Z K fun x => Z K fun y => c x (y + 1) * W n X Y D (x - k) y := by
  refine Z_congr fun x _ _ => ?_
  rw [← Z_shift (f := fun y => c x (y + 1) * W n X Y D (x - k) y)]
  · exact Z_congr fun y _ _ => by rw [show y - 1 + 1 = y by omega]
  · rw [R.d _ _ (by omega), Int.mul_zero]
  · rw [R.u _ _ (by omega), Int.mul_zero]
theorem Loop.f_v (L : Loop n X Y D) {K : Nat} (hB : Box K X Y) (l : Int → Int → Bool) (a b : Int) : fC n X Y D l K (a - 1) b - fC n X Y D l K a b = E n X Y D l 1 a b - E n X Y D l 3 a (b + 1) := by
  have R := L.rim hB
  have e1 : fC n X Y D l K (a - 1) b = Z K fun x => Z K fun y => bi (l (x - a) (y - b)) * W n X Y D (x - 1) y := by
    rw [R.sum_x]
    exact Z_congr fun x _ _ => Z_congr fun y _ _ => by rw [show x - (a - 1) = x + 1 - a by omega]
  rw [e1]
  unfold fC E
  rw [← Z_sub, ← S_sub]
  have e2 : ∀ x, ((Z K fun y => bi (l (x - a) (y - b)) * W n X Y D (x - 1) y) - Z K fun y => bi (l (x - a) (y - b)) * W n X Y D x y) = S n fun i => Z K fun y => bi (l (x - a) (y - b)) * ((if D i = 1 ∧ X i = x ∧ Y i = y then 1 else 0) - (if D i = 3 ∧ X i = x ∧ Y i = y + 1 then 1 else 0)) := fun x => by
    rw [← Z_sub, ← Z_S]
    refine Z_congr fun y _ _ => ?_
    rw [← Int.mul_sub, cross_v L, S_mul]
  rw [Z_congr fun x _ _ => e2 x, Z_S]
  refine S_congr fun i _ => ?_
  obtain ⟨b1, b2, b3, b4⟩ := hB i
  have hn := hB (i + 1)
  rw [L.sy i] at hn
  rcases d_cases (L.d4 i) with e | e | e | e
  · rw [e, Z_zero fun x _ _ => Z_zero fun y _ _ => by simp]; simp
  · rw [e, Z2_one (p := X i) (q := Y i) (by omega) (by omega) (by omega) (by omega)]
    · simp
    · intro x y h
      rw [if_neg (fun q => h ⟨q.2.1.symm, q.2.2.symm⟩)]
      simp
  · rw [e, Z_zero fun x _ _ => Z_zero fun y _ _ => by simp]; simp
  · rw [e] at hn
    simp [uy] at hn
    rw [e, Z2_one (p := X i) (q := Y i - 1) (by omega) (by omega) (by omega) (by omega)]
    · have : Y i = Y i - 1 + 1 := by omega
      simp [← this]
      rw [show Y i - 1 - b = Y i - (b + 1) by omega]
    · intro x y h
      rw [if_neg (fun q => absurd q.1 (by decide)), if_neg (fun q => h ⟨q.2.1.symm, by omega⟩)]
      simp
theorem Loop.f_h (L : Loop n X Y D) {K : Nat} (hB : Box K X Y) (l : Int → Int → Bool) (a b : Int) : fC n X Y D l K a b - fC n X Y D l K a (b - 1) = E n X Y D l 0 a b - E n X Y D l 2 (a + 1) b := by
  have R := L.rim hB
  have e1 : fC n X Y D l K a (b - 1) = Z K fun x => Z K fun y => bi (l (x - a) (y - b)) * W n X Y D x (y - 1) := by
    have := R.sum_y (fun x y => bi (l (x - a) (y - b))) 0
    simp only [Int.sub_zero] at this
    rw [this]
    exact Z_congr fun x _ _ => Z_congr fun y _ _ => by rw [show y - (b - 1) = y + 1 - b by omega]
  rw [e1]
  unfold fC E
  rw [← Z_sub, ← S_sub]
  have e2 : ∀ x, ((Z K fun y => bi (l (x - a) (y - b)) * W n X Y D x y) - Z K fun y => bi (l (x - a) (y - b)) * W n X Y D x (y - 1)) = S n fun i => Z K fun y => bi (l (x - a) (y - b)) * ((if D i = 0 ∧ X i = x ∧ Y i = y then 1 else 0) - (if D i = 2 ∧ X i = x + 1 ∧ Y i = y then 1 else 0)) := fun x => by
    rw [← Z_sub, ← Z_S]
    refine Z_congr fun y _ _ => ?_
    rw [← Int.mul_sub, cross_h L, S_mul]
  rw [Z_congr fun x _ _ => e2 x, Z_S]
  refine S_congr fun i _ => ?_
  obtain ⟨b1, b2, b3, b4⟩ := hB i
  have hn := hB (i + 1)
  rw [L.sx i] at hn
  rcases d_cases (L.d4 i) with e | e | e | e
  · rw [e, Z2_one (p := X i) (q := Y i) (by omega) (by omega) (by omega) (by omega)]
    · simp
    · intro x y h
      rw [if_neg (fun q => h ⟨q.2.1.symm, q.2.2.symm⟩)]
      simp
  · rw [e, Z_zero fun x _ _ => Z_zero fun y _ _ => by simp]; simp
  · rw [e] at hn
    simp [ux] at hn
    rw [e, Z2_one (p := X i - 1) (q := Y i) (by omega) (by omega) (by omega) (by omega)]
    · have : X i = X i - 1 + 1 := by omega
      simp [← this]
      rw [show X i - 1 - a = X i - (a + 1) by omega]
    · intro x y h
      rw [if_neg (fun q => absurd q.1 (by decide)), if_neg (fun q => h ⟨by omega, q.2.2.symm⟩)]
      simp
  · rw [e, Z_zero fun x _ _ => Z_zero fun y _ _ => by simp]; simp
theorem Loop.f_p (L : Loop n X Y D) {K : Nat} (hB : Box K X Y) (h1 : LW n X Y D 0 = 1) (l : Int → Int → Bool) (a b : Int) :
    fC n X Y D l K a b + fC n X Y D l K (a - 1) b + fC n X Y D l K (a - 1) (b - 1) + fC n X Y D l K a (b - 1) =
      4 * (Z K fun x => Z K fun y => bi (l (x - a) (y - b)) * inn n X Y D x y) + S n fun i => bi (l (X (i + 1) - a) (Y (i + 1) - b)) * (2 - turn (D i) (D (i + 1))) := by
  have R := L.rim hB
  have e1 : fC n X Y D l K (a - 1) b = Z K fun x => Z K fun y => bi (l (x - a) (y - b)) * W n X Y D (x - 1) y := by
    rw [R.sum_x]
    exact Z_congr fun x _ _ => Z_congr fun y _ _ => by rw [show x - (a - 1) = x + 1 - a by omega]
  have e2 : fC n X Y D l K a (b - 1) = Z K fun x => Z K fun y => bi (l (x - a) (y - b)) * W n X Y D x (y - 1) := by
    have := R.sum_y (fun x y => bi (l (x - a) (y - b))) 0
    simp only [Int.sub_zero] at this
    rw [this]
    exact Z_congr fun x _ _ => Z_congr fun y _ _ => by rw [show y - (b - 1) = y + 1 - b by omega]
  have e3 : fC n X Y D l K (a - 1) (b - 1) = Z K fun x => Z K fun y => bi (l (x - a) (y - b)) * W n X Y D (x - 1) (y - 1) := by
    rw [R.sum_y (fun x y => bi (l (x - a) (y - b))) 1, R.sum_x]
    exact Z_congr fun x _ _ => Z_congr fun y _ _ => by rw [show y - (b - 1) = y + 1 - b by omega, show x - (a - 1) = x + 1 - a by omega]
  rw [e1, e2, e3]
  have e4 : (S n fun i => bi (l (X (i + 1) - a) (Y (i + 1) - b)) * (2 - turn (D i) (D (i + 1)))) = Z K fun x => Z K fun y => bi (l (x - a) (y - b)) * S n (on X Y D x y) := by
    have q1 : ∀ x, (Z K fun y => bi (l (x - a) (y - b)) * S n (on X Y D x y)) = S n fun i => Z K fun y => bi (l (x - a) (y - b)) * on X Y D x y i := fun x => by
      rw [← Z_S]
      exact Z_congr fun y _ _ => by rw [← S_mul]
    rw [Z_congr fun x _ _ => q1 x, Z_S]
    refine S_congr fun i _ => ?_
    obtain ⟨b1, b2, b3, b4⟩ := hB (i + 1)
    rw [Z2_one (p := X (i + 1)) (q := Y (i + 1)) (by omega) (by omega) (by omega) (by omega)]
    · unfold on
      rw [if_pos ⟨rfl, rfl⟩]
    · intro x y h
      unfold on
      rw [if_neg fun q => h ⟨q.1.symm, q.2.symm⟩, Int.mul_zero]
  rw [e4, ← Z_mul]
  unfold fC
  simp only [← Z_add]
  refine Z_congr fun x _ _ => ?_
  rw [← Z_mul]
  simp only [← Z_add]
  refine Z_congr fun y _ _ => ?_
  have := L.point h1 x y
  simp only [← Int.mul_add]
  rw [this, Int.mul_add, Int.mul_left_comm]
theorem fC_move {l : Int → Int → Bool} (g : Grid l) {K : Nat} {a b a' b' : Int} (h : l (a - a') (b - b') = true) : fC n X Y D l K a b = fC n X Y D l K a' b' := by
  refine Z_congr fun x _ _ => Z_congr fun y _ _ => ?_
  rw [← g.move h (x - a) (y - b), show x - a + (a - a') = x - a' by omega, show y - b + (b - b') = y - b' by omega]
theorem fC_total {wd h K : Nat} {s : Int} (hw : 0 < wd) (hh : 0 < h) : (S wd fun p => S h fun q => fC n X Y D (latB wd h s) K p q) = Z K fun x => Z K fun y => W n X Y D x y := by
  have e1 : ∀ p : Nat, (S h fun q : Nat => fC n X Y D (latB wd h s) K p q) = Z K fun x => Z K fun y => S h fun q => bi (latB wd h s (x - p) (y - q)) * W n X Y D x y := fun p => by
    unfold fC
    rw [← Z_S]
    exact Z_congr fun x _ _ => by rw [← Z_S]
  rw [S_congr fun p _ => e1 p, ← Z_S]
  refine Z_congr fun x _ _ => ?_
  rw [← Z_S]
  refine Z_congr fun y _ _ => ?_
  have hd := latB_dom (s := s) hw hh x y
  have e2 : ∀ p : Nat, (S h fun q => bi (latB wd h s (x - p) (y - q)) * W n X Y D x y) = W n X Y D x y * S h fun q => bi (latB wd h s (x - p) (y - q)) := fun p => by
    rw [← S_mul]
    exact S_congr fun q _ => Int.mul_comm _ _
  rw [S_congr fun p _ => e2 p, S_mul, hd, Int.mul_one]
theorem const2 {g : Int → Int → Int} (h1 : ∀ a b, g (a - 1) b = g a b) (h2 : ∀ a b, g a b = g a (b - 1)) (a b : Int) : g a b = g 0 0 := by
  have x1 : ∀ (m : Nat) a b, g (a - m) b = g a b := fun m => by
    induction m with
    | zero => intro a b; rw [show a - ((0 : Nat) : Int) = a by omega]
    | succ m ih => intro a b; rw [show a - ((m + 1 : Nat) : Int) = a - m - 1 by omega, h1, ih]
  have y1 : ∀ (m : Nat) a b, g a (b - m) = g a b := fun m => by
    induction m with
    | zero => intro a b; rw [show b - ((0 : Nat) : Int) = b by omega]
    | succ m ih => intro a b; rw [show b - ((m + 1 : Nat) : Int) = b - m - 1 by omega, ← h2, ih]
  have xa : g a b = g 0 b := by
    rcases Int.le_total 0 a with h | h
    · have := x1 a.toNat a b
      rw [show a - (a.toNat : Int) = 0 by omega] at this
      exact this.symm
    · have := x1 (-a).toNat 0 b
      rw [show 0 - ((-a).toNat : Int) = a by omega] at this
      exact this
  rw [xa]
  rcases Int.le_total 0 b with h | h
  · have := y1 b.toNat 0 b
    rw [show b - (b.toNat : Int) = 0 by omega] at this
    exact this.symm
  · have := y1 (-b).toNat 0 0
    rw [show 0 - ((-b).toNat : Int) = b by omega] at this
    exact this
theorem fC_two (L : Loop n X Y D) (h1 : LW n X Y D 0 = 1) {l : Int → Int → Bool} (g : Grid l) {K : Nat} (R : Rim n X Y D K) {x y x' y' : Int} (hw : W n X Y D x y = 1) (hw' : W n X Y D x' y' = 1) (hne : ¬ (x = x' ∧ y = y')) (hl : l (x' - x) (y' - y) = true) : 2 ≤ fC n X Y D l K x y := by
  have box : ∀ {x y}, W n X Y D x y = 1 → -(K : Int) ≤ x ∧ x < K ∧ -(K : Int) ≤ y ∧ y < K := fun {x y} h => by
    have a1 := R.l x y
    have a2 := R.r x y
    have a3 := R.d x y
    have a4 := R.u x y
    refine ⟨?_, ?_, ?_, ?_⟩
    · exact Classical.byContradiction fun q => by rw [a1 (by omega)] at h; omega
    · exact Classical.byContradiction fun q => by rw [a2 (by omega)] at h; omega
    · exact Classical.byContradiction fun q => by rw [a3 (by omega)] at h; omega
    · exact Classical.byContradiction fun q => by rw [a4 (by omega)] at h; omega
  obtain ⟨b1, b2, b3, b4⟩ := box hw
  obtain ⟨c1, c2, c3, c4⟩ := box hw'
  have hle : (Z K fun u => Z K fun v => (if u = x ∧ v = y then (1 : Int) else 0) + (if u = x' ∧ v = y' then 1 else 0)) ≤ fC n X Y D l K x y := Z_le fun u _ _ => Z_le fun v _ _ => by
    by_cases e1 : u = x ∧ v = y
    · obtain ⟨rfl, rfl⟩ := e1
      rw [if_pos ⟨rfl, rfl⟩, if_neg hne, hw, Int.sub_self, Int.sub_self, g.zero]
      decide
    · rw [if_neg e1]
      by_cases e2 : u = x' ∧ v = y'
      · obtain ⟨rfl, rfl⟩ := e2
        rw [if_pos ⟨rfl, rfl⟩, hw', hl]
        decide
      · rw [if_neg e2]
        have r := bi_range (l (u - x) (v - y))
        rcases L.zo h1 u v with e | e <;> rw [e] <;> omega
  simp only [Z_add] at hle
  rw [Z2_one (p := x) (q := y) b1 b2 b3 b4 (fun u v h => if_neg h), Z2_one (p := x') (q := y') c1 c2 c3 c4 (fun u v h => if_neg h), if_pos ⟨rfl, rfl⟩, if_pos ⟨rfl, rfl⟩] at hle
  exact hle
theorem fC_le (L : Loop n X Y D) (h1 : LW n X Y D 0 = 1) {l : Int → Int → Bool} (g : Grid l) {K : Nat} (R : Rim n X Y D K)
    (hno : ∀ x y x' y', W n X Y D x y = 1 → W n X Y D x' y' = 1 → l (x' - x) (y' - y) = true → x = x' ∧ y = y') (a b : Int) : fC n X Y D l K a b ≤ 1 := by
  by_cases h : ∃ x y, -(K : Int) ≤ x ∧ x < K ∧ -(K : Int) ≤ y ∧ y < K ∧ W n X Y D x y = 1 ∧ l (x - a) (y - b) = true
  · obtain ⟨x, y, b1, b2, b3, b4, hw, hl⟩ := h
    have : fC n X Y D l K a b = bi (l (x - a) (y - b)) * W n X Y D x y := by
      refine Z2_one (F := fun x y => bi (l (x - a) (y - b)) * W n X Y D x y) b1 b2 b3 b4 fun u v hne => ?_
      rcases L.zo h1 u v with e | e
      · rw [e, Int.mul_zero]
      · cases hc : l (u - a) (v - b) with
        | false => exact Int.zero_mul _
        | true =>
          have h3 := g.add _ _ _ _ hc (g.neg _ _ hl)
          rw [show u - a + -(x - a) = u - x by omega, show v - b + -(y - b) = v - y by omega] at h3
          obtain ⟨e1, e2⟩ := hno x y u v hw e h3
          exact absurd ⟨e1.symm, e2.symm⟩ hne
    rw [this, hw, hl]
    decide
  · have : fC n X Y D l K a b = 0 := Z_zero fun x _ _ => Z_zero fun y _ _ => by
      rcases L.zo h1 x y with e | e
      · rw [e, Int.mul_zero]
      · cases hc : l (x - a) (y - b) with
        | false => exact Int.zero_mul _
        | true => exact absurd ⟨x, y, by assumption, by assumption, by assumption, by assumption, e, hc⟩ h
    omega
theorem S_full {n : Nat} {f : Nat → Int} (h : ∀ i, i < n → f i ≤ 1) (hs : S n f = n) : ∀ i, i < n → f i = 1 := by
  intro i hi
  have h0 : S n (fun i => 1 - f i) = 0 := by rw [S_sub, S_const, hs]; omega
  have := S_member (f := fun i => 1 - f i) (fun i hi => by have := h i hi; omega) hi
  have := h i hi
  omega
theorem fC_one (L : Loop n X Y D) (h1 : LW n X Y D 0 = 1) {wd h K : Nat} {s : Int} (hw : 0 < wd) (hh : 0 < h) (R : Rim n X Y D K)
    (hno : ∀ x y x' y', W n X Y D x y = 1 → W n X Y D x' y' = 1 → latB wd h s (x' - x) (y' - y) = true → x = x' ∧ y = y') (hA : (Z K fun x => Z K fun y => W n X Y D x y) = ((wd * h : Nat) : Int)) (a b : Int) : fC n X Y D (latB wd h s) K a b = 1 := by
  have g : Grid (latB wd h s) := grid_of fun x y => latB_iff (by omega) (by omega) x y
  have hle := fC_le L h1 g R hno
  have ht := fC_total (n := n) (X := X) (Y := Y) (D := D) (K := K) (s := s) hw hh
  rw [hA] at ht
  have hrow : ∀ p, p < wd → (S h fun q => fC n X Y D (latB wd h s) K p q) ≤ h := fun p _ => by
    have := S_le (n := h) (f := fun q => fC n X Y D (latB wd h s) K p q) (g := fun _ => 1) fun q _ => hle _ _
    rw [S_const] at this
    omega
  have hrow2 : ∀ p, p < wd → (S h fun q => fC n X Y D (latB wd h s) K p q) = h := by
    intro p hp
    have h0 : S wd (fun p => (h : Int) - S h fun q => fC n X Y D (latB wd h s) K p q) = 0 := by rw [S_sub, S_const, ht, Int.natCast_mul]; omega
    have := S_member (f := fun p : Nat => (h : Int) - S h fun q : Nat => fC n X Y D (latB wd h s) K p q) (fun i hi => by have := hrow i hi; omega) hp
    have := hrow p hp
    omega
  have hd := latB_dom (s := s) hw hh a b
  obtain ⟨p, hp, hpp⟩ := S_pos (by rw [hd]; decide : (0 : Int) < _)
  obtain ⟨q, hq, hqq⟩ := S_pos hpp
  have hl : latB wd h s (a - p) (b - q) = true := by
    cases hc : latB wd h s (a - p) (b - q) with
    | true => rfl
    | false => rw [hc] at hqq; exact absurd hqq (by decide)
  rw [fC_move g hl]
  exact S_full (fun q _ => hle p q) (hrow2 p hp) q hq
end
end Go.Proofs.YtpfenoioeajkmaaDoor.G
end

section
set_option linter.unusedVariables false
set_option linter.unusedSimpArgs false
namespace Go.Proofs.YtpfenoioeajkmaaDoor.G
theorem S_rev (m : Nat) (f : Nat → Int) : S m f = S m fun t => f (m - 1 - t) := by
  induction m generalizing f with
  | zero => rfl
  | succ m ih =>
    rw [S_succ, S_head, ih]
    have : S m (fun t => f (m - 1 - t)) = S m (fun i => f (m + 1 - 1 - (i + 1))) := S_congr fun t ht => by congr 1; omega
    rw [this, show m + 1 - 1 - 0 = m by omega]
    omega
def Opp (D : Nat → Nat) (i m j : Nat) : Prop := ∀ t, t < m → D (j + t) = (D (i + m - 1 - t) + 2) % 4
theorem Opp.symm {D : Nat → Nat} (h4 : ∀ i, D i < 4) {i m j : Nat} (h : Opp D i m j) : Opp D j m i := fun t ht => by
  have := h (m - 1 - t) (by omega)
  rw [show i + m - 1 - (m - 1 - t) = i + t by omega, show j + (m - 1 - t) = j + m - 1 - t by omega] at this
  rw [this]
  have := h4 (i + t)
  omega
theorem ux_opp {d : Nat} (h : d < 4) : ux ((d + 2) % 4) = -ux d ∧ uy ((d + 2) % 4) = -uy d := by
  rcases d_cases h with e | e | e | e <;> subst e <;> decide
theorem uxy (d : Nat) : ux d * uy d = 0 := by
  unfold ux uy
  (repeat' split) <;> omega
section
variable {n : Nat} {X Y : Nat → Int} {D : Nat → Nat}
theorem Loop.opp_pos (L : Loop n X Y D) {i m j : Nat} (h : Opp D i m j) : ∀ t, t ≤ m → X (j + t) = X (i + m - t) + (X j - X (i + m)) ∧ Y (j + t) = Y (i + m - t) + (Y j - Y (i + m)) := by
  intro t
  induction t with
  | zero => intro _; rw [Nat.add_zero, Nat.sub_zero]; omega
  | succ t ih =>
    intro ht
    obtain ⟨a, b⟩ := ih (by omega)
    have e := h t (by omega)
    have sx := L.sx (j + t)
    have sy := L.sy (j + t)
    have tx := L.sx (i + m - 1 - t)
    have ty := L.sy (i + m - 1 - t)
    rw [e, (ux_opp (L.d4 _)).1] at sx
    rw [e, (ux_opp (L.d4 _)).2] at sy
    rw [show i + m - 1 - t + 1 = i + m - t by omega] at tx ty
    rw [show j + (t + 1) = j + t + 1 by omega, show i + m - (t + 1) = i + m - 1 - t by omega]
    omega
theorem Loop.opp_E (L : Loop n X Y D) {l : Int → Int → Bool} (g : Grid l) {i m j : Nat} (h : Opp D i m j) (hl : l (X j - X (i + m)) (Y j - Y (i + m)) = true) {k : Nat} (hk : k < 4) (a b : Int) :
    S m (fun t => if D (i + t) = k then bi (l (X (i + t) - a) (Y (i + t) - b)) else 0) = S m (fun t => if D (j + t) = (k + 2) % 4 then bi (l (X (j + t) - (a + ux k)) (Y (j + t) - (b + uy k))) else 0) := by
  rw [S_rev]
  refine S_congr fun t ht => ?_
  have e := h t ht
  obtain ⟨p1, p2⟩ := L.opp_pos h t (by omega)
  have sx := L.sx (i + m - 1 - t)
  have sy := L.sy (i + m - 1 - t)
  have d4 := L.d4 (i + m - 1 - t)
  rw [show i + m - 1 - t + 1 = i + m - t by omega] at sx sy
  rw [show i + (m - 1 - t) = i + m - 1 - t by omega]
  by_cases hc : D (i + m - 1 - t) = k
  · rw [if_pos hc, if_pos (by rw [e, hc])]
    rw [hc] at sx sy
    congr 1
    rw [← g.move hl]
    congr 1 <;> omega
  · rw [if_neg hc, if_neg (by rw [e]; omega)]
theorem Loop.opp_E2 (L : Loop n X Y D) {l : Int → Int → Bool} (g : Grid l) {i m j : Nat} (h : Opp D i m j) (hl : l (X j - X (i + m)) (Y j - Y (i + m)) = true) {k : Nat} (hk : k < 4) (a b : Int) :
    S m (fun t => if D (j + t) = k then bi (l (X (j + t) - a) (Y (j + t) - b)) else 0) = S m (fun t => if D (i + t) = (k + 2) % 4 then bi (l (X (i + t) - (a + ux k)) (Y (i + t) - (b + uy k))) else 0) := by
  obtain ⟨p1, p2⟩ := L.opp_pos h m (Nat.le_refl _)
  rw [Nat.add_sub_cancel] at p1 p2
  refine L.opp_E g (h.symm L.d4) ?_ hk a b
  have := g.neg _ _ hl
  rw [show X i - X (j + m) = -(X j - X (i + m)) by omega, show Y i - Y (j + m) = -(Y j - Y (i + m)) by omega]
  exact this
def Q (X Y : Nat → Int) (D : Nat → Nat) (i m : Nat) : Int := S m fun t => X (i + t) * uy (D (i + t)) - Y (i + t) * ux (D (i + t))
theorem Loop.opp_Q (L : Loop n X Y D) {j : Nat} : ∀ (m i : Nat), Opp D i m j → Q X Y D j m + Q X Y D i m = (X (i + m) - X i) * (Y j - Y (i + m)) - (Y (i + m) - Y i) * (X j - X (i + m))
  | 0, i, h => by show (0 : Int) + 0 = _; rw [Nat.add_zero, Int.sub_self, Int.sub_self]; simp
  | m + 1, i, h => by
    have h' : Opp D (i + 1) m j := fun t ht => by
      have := h t (by omega)
      rwa [show i + (m + 1) - 1 - t = i + 1 + m - 1 - t by omega] at this
    have ih := L.opp_Q m (i + 1) h'
    obtain ⟨p1, p2⟩ := L.opp_pos h m (by omega)
    have e := h m (by omega)
    have d4 := L.d4 i
    rw [show i + (m + 1) - 1 - m = i by omega] at e
    rw [show i + (m + 1) - m = i + 1 by omega] at p1 p2
    have q1 : Q X Y D j (m + 1) = Q X Y D j m + (X (j + m) * uy (D (j + m)) - Y (j + m) * ux (D (j + m))) := rfl
    have q2 : Q X Y D i (m + 1) = (X i * uy (D i) - Y i * ux (D i)) + Q X Y D (i + 1) m := by
      unfold Q
      rw [S_head, Nat.add_zero]
      congr 1
      exact S_congr fun t _ => by rw [show i + (t + 1) = i + 1 + t by omega]
    have sx := L.sx i
    have sy := L.sy i
    have hz := uxy (D i)
    rw [q1, q2, e, (ux_opp d4).1, (ux_opp d4).2, p1, p2]
    rw [show i + 1 + m = i + (m + 1) by omega] at ih
    grind
theorem Loop.Q_area (L : Loop n X Y D) : Q X Y D 0 n = 2 * S n fun i => X i * uy (D i) := by
  have ht := S_tel n fun i => X i * Y i
  have hx := L.px 0
  have hy := L.py 0
  rw [Nat.zero_add] at hx hy
  rw [hx, hy, Int.sub_self] at ht
  have e : (S n fun i => X (i + 1) * Y (i + 1) - X i * Y i) = S n fun i => X i * uy (D i) + Y i * ux (D i) := S_congr fun i _ => by
    have := uxy (D i)
    rw [L.sx, L.sy]
    grind
  rw [e, S_add] at ht
  unfold Q
  simp only [Nat.zero_add]
  rw [S_sub]
  omega
structure Fac (n : Nat) (D : Nat → Nat) (a b c : Nat) : Prop where
  n2 : n = a + b + c + a + b + c
  A : Opp D 0 a (a + b + c)
  B : Opp D a b (a + b + c + a)
  C : Opp D (a + b) c (a + b + c + a + b)
theorem S_six (a b c : Nat) (f : Nat → Int) : S (a + b + c + a + b + c) f = S a (fun t => f (0 + t)) + S b (fun t => f (a + t)) + S c (fun t => f (a + b + t)) + S a (fun t => f (a + b + c + t)) + S b (fun t => f (a + b + c + a + t)) + S c (fun t => f (a + b + c + a + b + t)) := by
  rw [S_split (a + b + c + a + b) c, S_split (a + b + c + a) b, S_split (a + b + c) a, S_split (a + b) c, S_split a b]
  congr 5
  exact S_congr fun t _ => by rw [Nat.zero_add]
theorem Loop.fac_area (L : Loop n X Y D) {a b c : Nat} (F : Fac n D a b c) : (X (a + b) - X 0) * (Y (a + b + c) - Y a) - (Y (a + b) - Y 0) * (X (a + b + c) - X a) = S n fun i => X i * uy (D i) := by
  have h := L.Q_area
  have q1 := L.opp_Q _ _ F.A
  have q2 := L.opp_Q _ _ F.B
  have q3 := L.opp_Q _ _ F.C
  obtain ⟨a1, a2⟩ := L.opp_pos F.A a (Nat.le_refl _)
  obtain ⟨b1, b2⟩ := L.opp_pos F.B b (Nat.le_refl _)
  have hs : Q X Y D 0 n = Q X Y D 0 a + Q X Y D a b + Q X Y D (a + b) c + Q X Y D (a + b + c) a + Q X Y D (a + b + c + a) b + Q X Y D (a + b + c + a + b) c := by
    unfold Q
    simp only [Nat.zero_add]
    rw [F.n2, S_six a b c]
    simp only [Nat.zero_add]
  rw [Nat.zero_add] at q1 a1 a2
  rw [Nat.sub_self] at a1 a2
  rw [Nat.add_sub_cancel] at b1 b2
  rw [a1, a2] at q2
  rw [b1, b2, a1, a2] at q3
  generalize S n (fun i => X i * uy (D i)) = A at h ⊢
  have : 2 * ((X (a + b) - X 0) * (Y (a + b + c) - Y a) - (Y (a + b) - Y 0) * (X (a + b + c) - X a)) = 2 * A := by grind
  omega
theorem Loop.fac_E (L : Loop n X Y D) {a b c : Nat} (F : Fac n D a b c) {l : Int → Int → Bool} (g : Grid l)
    (h1 : l (X (a + b) - X 0) (Y (a + b) - Y 0) = true) (h2 : l (X (a + b + c) - X a) (Y (a + b + c) - Y a) = true) {k : Nat} (hk : k < 4) (p q : Int) :
    E n X Y D l k p q = E n X Y D l ((k + 2) % 4) (p + ux k) (q + uy k) := by
  obtain ⟨a1, a2⟩ := L.opp_pos F.A a (Nat.le_refl _)
  obtain ⟨b1, b2⟩ := L.opp_pos F.B b (Nat.le_refl _)
  have t1 : l (X (a + b + c) - X (0 + a)) (Y (a + b + c) - Y (0 + a)) = true := by rw [Nat.zero_add]; exact h2
  have t2 : l (X (a + b + c + a) - X (a + b)) (Y (a + b + c + a) - Y (a + b)) = true := by
    have := g.add _ _ _ _ h2 (g.neg _ _ h1)
    rw [a1, a2, Nat.zero_add, Nat.sub_self]
    rw [show X 0 + (X (a + b + c) - X a) - X (a + b) = X (a + b + c) - X a + -(X (a + b) - X 0) by omega, show Y 0 + (Y (a + b + c) - Y a) - Y (a + b) = Y (a + b + c) - Y a + -(Y (a + b) - Y 0) by omega]
    exact this
  have t3 : l (X (a + b + c + a + b) - X (a + b + c)) (Y (a + b + c + a + b) - Y (a + b + c)) = true := by
    have := g.neg _ _ h1
    rw [b1, b2, a1, a2, Nat.zero_add, Nat.sub_self, Nat.add_sub_cancel]
    rw [show X a + (X 0 + (X (a + b + c) - X a) - X (a + b)) - X (a + b + c) = -(X (a + b) - X 0) by omega, show Y a + (Y 0 + (Y (a + b + c) - Y a) - Y (a + b)) - Y (a + b + c) = -(Y (a + b) - Y 0) by omega]
    exact this
  have e1 := L.opp_E g F.A t1 hk p q
  have e2 := L.opp_E g F.B t2 hk p q
  have e3 := L.opp_E g F.C t3 hk p q
  have e4 := L.opp_E2 g F.A t1 hk p q
  have e5 := L.opp_E2 g F.B t2 hk p q
  have e6 := L.opp_E2 g F.C t3 hk p q
  unfold E
  rw [F.n2, S_six a b c, S_six a b c]
  omega
theorem Loop.easy (L : Loop n X Y D) {K : Nat} (hB : Box K X Y) (hA : 0 < S n fun i => X i * uy (D i)) {a b c : Nat} (F : Fac n D a b c) :
    ∀ x y x' y', W n X Y D x y = 1 → W n X Y D x' y' = 1 → Lat (X (a + b) - X 0) (Y (a + b) - Y 0) (X (a + b + c) - X a) (Y (a + b + c) - Y a) (x' - x) (y' - y) → x = x' ∧ y = y' := by
  have h1 := L.pos hB hA
  have hd := L.fac_area F
  have har := L.area hB
  obtain ⟨wd, h, s, hwh, hw, hh, -, -, hlat⟩ := lat_form _ (X (a + b) - X 0) (Y (a + b) - Y 0) (X (a + b + c) - X a) (Y (a + b + c) - Y a) (Nat.le_refl _) (by rw [hd]; omega)
  rw [hd] at hwh
  have hl : ∀ x y, latB wd h s x y = true ↔ Lat (X (a + b) - X 0) (Y (a + b) - Y 0) (X (a + b + c) - X a) (Y (a + b + c) - Y a) x y := fun x y => by
    rw [hlat]
    exact latB_iff (by omega) (by omega) x y
  have g := grid_of hl
  have p1 : latB wd h s (X (a + b) - X 0) (Y (a + b) - Y 0) = true := (hl _ _).2 ⟨1, 0, by simp, by simp⟩
  have p2 : latB wd h s (X (a + b + c) - X a) (Y (a + b + c) - Y a) = true := (hl _ _).2 ⟨0, 1, by simp, by simp⟩
  have c0 := const2 (g := fC n X Y D (latB wd h s) K) (fun p q => by
      have e := L.f_v hB (latB wd h s) p q
      have := L.fac_E F g p1 p2 (k := 1) (by omega) p q
      rw [show ux 1 = 0 from rfl, show uy 1 = 1 from rfl, Int.add_zero, show (1 + 2) % 4 = 3 from rfl] at this
      omega) (fun p q => by
      have e := L.f_h hB (latB wd h s) p q
      have := L.fac_E F g p1 p2 (k := 0) (by omega) p q
      rw [show ux 0 = 1 from rfl, show uy 0 = 0 from rfl, Int.add_zero, show (0 + 2) % 4 = 2 from rfl] at this
      omega)
  have ht := fC_total (n := n) (X := X) (Y := Y) (D := D) (K := K) (s := s) hw hh
  rw [S_congr (g := fun _ => (h : Int) * fC n X Y D (latB wd h s) K 0 0) fun p _ => by rw [S_congr (g := fun _ => fC n X Y D (latB wd h s) K 0 0) fun q _ => c0 p q, S_const], S_const, har] at ht
  have hone : fC n X Y D (latB wd h s) K 0 0 = 1 := by
    have e : ((wd * h : Nat) : Int) * fC n X Y D (latB wd h s) K 0 0 = ((wd * h : Nat) : Int) * 1 := by
      rw [Int.natCast_mul, Int.mul_assoc, ht, Int.mul_one, ← Int.natCast_mul, hwh]
      omega
    refine Int.eq_of_mul_eq_mul_left ?_ e
    rw [hwh]
    omega
  intro x y x' y' hx hx' hlt
  refine Classical.byContradiction fun hne => ?_
  have := fC_two L h1 g (L.rim hB) hx hx' hne ((hl _ _).2 hlt)
  rw [c0, hone] at this
  omega
end
end Go.Proofs.YtpfenoioeajkmaaDoor.G
end

section
set_option linter.unusedVariables false
set_option linter.unusedSimpArgs false
namespace Go.Proofs.YtpfenoioeajkmaaDoor.G
theorem S_three {n i j k : Nat} {f : Nat → Int} (h : ∀ i, i < n → 0 ≤ f i) (hi : i < n) (hj : j < n) (hk : k < n) (n1 : i ≠ j) (n2 : i ≠ k) (n3 : j ≠ k) : f i + f j + f k ≤ S n f := by
  have h1 : S n (fun t => (if t = i then f i else 0) + (if t = j then f j else 0) + (if t = k then f k else 0)) ≤ S n f := S_le fun t ht => by
    have := h t ht
    by_cases e1 : t = i
    · subst e1
      rw [if_pos rfl, if_neg n1, if_neg n2]; omega
    · rw [if_neg e1]
      by_cases e2 : t = j
      · subst e2
        rw [if_pos rfl, if_neg n3]; omega
      · rw [if_neg e2]
        by_cases e3 : t = k
        · subst e3
          rw [if_pos rfl]; omega
        · rw [if_neg e3]; omega
  rw [S_add, S_add, S_one (k := i) hi fun k _ hk => if_neg hk, S_one (k := j) hj fun k _ hk => if_neg hk, S_one (k := k) hk fun k _ hk => if_neg hk, if_pos rfl, if_pos rfl, if_pos rfl] at h1
  exact h1
theorem S_four {n i j k m : Nat} {f : Nat → Int} (h : ∀ i, i < n → 0 ≤ f i) (hi : i < n) (hj : j < n) (hk : k < n) (hm : m < n) (n1 : i ≠ j) (n2 : i ≠ k) (n3 : j ≠ k) (n4 : i ≠ m) (n5 : j ≠ m) (n6 : k ≠ m) : f i + f j + f k + f m ≤ S n f := by
  have h1 : S n (fun t => (if t = i then f i else 0) + (if t = j then f j else 0) + (if t = k then f k else 0) + (if t = m then f m else 0)) ≤ S n f := S_le fun t ht => by
    have := h t ht
    by_cases e1 : t = i
    · subst e1
      rw [if_pos rfl, if_neg n1, if_neg n2, if_neg n4]; omega
    · rw [if_neg e1]
      by_cases e2 : t = j
      · subst e2
        rw [if_pos rfl, if_neg n3, if_neg n5]; omega
      · rw [if_neg e2]
        by_cases e3 : t = k
        · subst e3
          rw [if_pos rfl, if_neg n6]; omega
        · rw [if_neg e3]
          by_cases e4 : t = m
          · subst e4
            rw [if_pos rfl]; omega
          · rw [if_neg e4]; omega
  rw [S_add, S_add, S_add, S_one (k := i) hi fun k _ hk => if_neg hk, S_one (k := j) hj fun k _ hk => if_neg hk, S_one (k := k) hk fun k _ hk => if_neg hk, S_one (k := m) hm fun k _ hk => if_neg hk, if_pos rfl, if_pos rfl, if_pos rfl, if_pos rfl] at h1
  exact h1
theorem breaks {n m : Nat} {P : Nat → Bool} (hn : 0 < n) (hp : ∀ i, P (i + n) = P i) (hm : S n (fun i => bi (P i)) = m) (h0 : 0 < m) :
    ∃ B : Nat → Nat, B 0 < n ∧ (∀ r, P (B r) = true) ∧ (∀ r, B r < B (r + 1)) ∧ (∀ r j, B r < j → j < B (r + 1) → P j = false) ∧ (∀ r, B (r + m) = B r + n) ∧ (∀ j, n ≤ j → P j = true → ∃ q, B (q + 1) = j) ∧ (∀ r r', B r % n = B r' % n → r % m = r' % m) := by
  let c : Nat → Int := fun j => S j fun i => bi (P i)
  have cs : ∀ j, c (j + 1) = c j + bi (P j) := fun j => rfl
  have cm : ∀ i j, i ≤ j → c i ≤ c j := fun i j h => by
    induction j with
    | zero => rw [show i = 0 by omega]; exact Int.le_refl _
    | succ j ih =>
      by_cases e : i = j + 1
      · rw [e]; exact Int.le_refl _
      · have := ih (by omega)
        have := bi_range (P j)
        rw [cs]; omega
  have cn : ∀ j, c (j + n) = c j + m := fun j => by
    have h := S_split n j fun i => bi (P i)
    rw [hm] at h
    have e : S j (fun i => bi (P (n + i))) = c j := S_congr fun i _ => by rw [Nat.add_comm n i, hp]
    rw [e] at h
    show S (j + n) _ = _
    rw [Nat.add_comm j n, h]
    omega
  have c0 : c 0 = 0 := rfl
  have ex : ∀ (r : Nat) N, (r : Int) < c N → ∃ j, j < N ∧ P j = true ∧ c j = r := fun r N => by
    induction N with
    | zero => intro h; rw [c0] at h; omega
    | succ N ih =>
      intro h
      by_cases e : (r : Int) < c N
      · obtain ⟨j, a, b⟩ := ih e
        exact ⟨j, by omega, b⟩
      · rw [cs] at h
        cases hP : P N with
        | true => rw [hP] at h; exact ⟨N, by omega, hP, by simp [bi] at h; omega⟩
        | false => rw [hP] at h; simp [bi] at h; omega
  have cq : ∀ q : Nat, c (q * n) = (q : Int) * m := fun q => by
    induction q with
    | zero => rw [Nat.zero_mul, c0]; simp
    | succ q ih => rw [Nat.succ_mul, cn, ih, Int.natCast_succ, Int.add_mul, Int.one_mul]
  have exr : ∀ r : Nat, ∃ j, P j = true ∧ c j = r ∧ (r < m → j < n) := fun r => by
    by_cases hr : r < m
    · obtain ⟨j, a, b, d⟩ := ex r n (by show (r : Int) < S n _; rw [hm]; omega)
      exact ⟨j, b, d, fun _ => a⟩
    · obtain ⟨j, a, b, d⟩ := ex r ((r + 1) * n) (by
        rw [cq]
        have : ((r + 1 : Nat) : Int) * 1 ≤ ((r + 1 : Nat) : Int) * m := Int.mul_le_mul_of_nonneg_left (by omega) (by omega)
        omega)
      exact ⟨j, b, d, fun h => absurd h hr⟩
  have un : ∀ i j, P i = true → P j = true → c i = c j → i = j := fun i j hi hj h => by
    rcases Nat.lt_trichotomy i j with q | q | q
    · have := cm (i + 1) j q
      rw [cs, hi] at this
      simp [bi] at this
      omega
    · exact q
    · have := cm (j + 1) i q
      rw [cs, hj] at this
      simp [bi] at this
      omega
  obtain ⟨B, hB⟩ : ∃ B : Nat → Nat, ∀ r : Nat, P (B r) = true ∧ c (B r) = r ∧ (r < m → B r < n) := ⟨fun r => Classical.choose (exr r), fun r => Classical.choose_spec (exr r)⟩
  have hd : ∀ r, B (r + m) = B r + n := fun r => un _ _ (hB _).1 (by rw [hp]; exact (hB r).1) (by rw [cn, (hB _).2.1, (hB r).2.1]; omega)
  have hdq : ∀ q r, B (r + q * m) = B r + q * n := fun q r => by
    induction q with
    | zero => rw [Nat.zero_mul, Nat.zero_mul]; rfl
    | succ q ih => rw [Nat.succ_mul, ← Nat.add_assoc, hd, ih, Nat.succ_mul]; omega
  refine ⟨B, (hB 0).2.2 h0, fun r => (hB r).1, fun r => ?_, fun r j h1 h2 => ?_, hd, fun j hj hP => ?_, ?_⟩
  · refine Classical.byContradiction fun q => ?_
    have := cm (B (r + 1)) (B r) (by omega)
    rw [(hB _).2.1, (hB r).2.1] at this
    omega
  · cases hP : P j with
    | false => rfl
    | true =>
      exfalso
      have a := cm (B r + 1) j h1
      have b := cm (j + 1) (B (r + 1)) h2
      rw [cs, (hB r).2.1, (hB r).1] at a
      rw [cs, hP, (hB (r + 1)).2.1] at b
      simp [bi] at a b
      omega
  · have : (m : Int) ≤ c j := by
      have := cm n j hj
      have e : c n = m := hm
      omega
    refine ⟨(c j).toNat - 1, un _ _ (hB _).1 hP ?_⟩
    rw [(hB _).2.1]
    omega
  · have key : ∀ r r', B r ≤ B r' → B r % n = B r' % n → r % m = r' % m := fun r r' hle h => by
      have e1 := Nat.mod_add_div (B r) n
      have e2 := Nat.mod_add_div (B r') n
      have hq : B r / n ≤ B r' / n := Nat.div_le_div_right hle
      have e3 : B r' = B r + (B r' / n - B r / n) * n := by
        rw [Nat.sub_mul, Nat.mul_comm _ n, Nat.mul_comm (B r / n) n]
        have := Nat.mul_le_mul_left n hq
        omega
      rw [← hdq] at e3
      have e4 : ((r' : Nat) : Int) = ((r + (B r' / n - B r / n) * m : Nat) : Int) := by rw [← (hB r').2.1, ← (hB (r + (B r' / n - B r / n) * m)).2.1, ← e3]
      have e5 := Int.ofNat_inj.1 e4
      rw [e5, Nat.add_mul_mod_self_right]
    intro r r' h
    rcases Nat.le_total (B r) (B r') with q | q
    · exact key r r' q h
    · exact (key r' r q h.symm).symm
section
variable {n : Nat} {X Y : Nat → Int} {D : Nat → Nat}
def R (X Y : Nat → Int) (l : Int → Int → Bool) (i j : Nat) : Bool := l (X i - X j) (Y i - Y j)
theorem R_refl {l : Int → Int → Bool} (g : Grid l) (i : Nat) : R X Y l i i = true := by
  unfold R
  rw [Int.sub_self, Int.sub_self]
  exact g.zero
theorem R_symm {l : Int → Int → Bool} (g : Grid l) {i j : Nat} (h : R X Y l i j = true) : R X Y l j i = true := by
  have := g.neg _ _ h
  unfold R
  rwa [show X j - X i = -(X i - X j) by omega, show Y j - Y i = -(Y i - Y j) by omega]
theorem R_trans {l : Int → Int → Bool} (g : Grid l) {i j k : Nat} (h : R X Y l i j = true) (h2 : R X Y l j k = true) : R X Y l i k = true := by
  have := g.add _ _ _ _ h h2
  unfold R
  rwa [show X i - X k = X i - X j + (X j - X k) by omega, show Y i - Y k = Y i - Y j + (Y j - Y k) by omega]
theorem R_comm {l : Int → Int → Bool} (g : Grid l) (i j : Nat) : R X Y l i j = R X Y l j i := by
  rw [Bool.eq_iff_iff]
  exact ⟨R_symm g, R_symm g⟩
theorem R_congr {l : Int → Int → Bool} (g : Grid l) {i j : Nat} (h : R X Y l i j = true) (k : Nat) : R X Y l k i = R X Y l k j := by
  rw [Bool.eq_iff_iff]
  exact ⟨fun q => R_trans g q h, fun q => R_trans g q (R_symm g h)⟩
theorem Loop.R_mod (L : Loop n X Y D) (l : Int → Int → Bool) (i j : Nat) : R X Y l (i % n) j = R X Y l i j := by
  unfold R
  rw [L.mod_x, L.mod_y]
theorem Loop.mod_eq (L : Loop n X Y D) {i j : Nat} (h : i % n = j % n) : X i = X j ∧ Y i = Y j ∧ D i = D j := by
  rw [← L.mod_x i, ← L.mod_y i, ← L.mod_d i, h, L.mod_x, L.mod_y, L.mod_d]
  exact ⟨rfl, rfl, rfl⟩
def kk (n : Nat) (X Y : Nat → Int) (l : Int → Int → Bool) (j : Nat) : Int := S n fun i => bi (R X Y l i j)
def T (n : Nat) (D : Nat → Nat) (i : Nat) : Int := turn (D (i + n - 1)) (D i)
theorem Loop.T_range (L : Loop n X Y D) (i : Nat) : 1 ≤ 2 - T n D i ∧ 2 - T n D i ≤ 3 := by
  unfold T turn
  (repeat' split) <;> omega
structure Tiled (n : Nat) (X Y : Nat → Int) (D : Nat → Nat) (l : Int → Int → Bool) : Prop where
  g : Grid l
  uniq : ∀ i j, D i = D j → R X Y l i j = true → i % n = j % n
  opp : ∀ i, ∃ j, D j = (D i + 2) % 4 ∧ R X Y l j (i + 1) = true
  four : ∀ m, S n (fun i => bi (R X Y l i m) * (2 - T n D i)) = 4
  all : S n (fun i => 2 - T n D i) = 2 * n - 4
theorem Loop.tiled (L : Loop n X Y D) {K : Nat} (hB : Box K X Y) (h1 : LW n X Y D 0 = 1) {l : Int → Int → Bool} (g : Grid l)
    (hno : ∀ x y x' y', W n X Y D x y = 1 → W n X Y D x' y' = 1 → l (x' - x) (y' - y) = true → x = x' ∧ y = y') (hf : ∀ a b, fC n X Y D l K a b = 1) : Tiled n X Y D l := by
  have h4 := L.n4
  have hE : ∀ k i, D i = k → 0 < E n X Y D l k (X i) (Y i) := fun k i hk => by
    have := S_member (n := n) (i := i % n) (f := fun j => if D j = k then bi (l (X j - X i) (Y j - Y i)) else 0) (fun j _ => by have := bi_range (l (X j - X i) (Y j - Y i)); split <;> omega) (Nat.mod_lt _ (by omega))
    rw [L.mod_d, L.mod_x, L.mod_y, if_pos hk, Int.sub_self, Int.sub_self, g.zero] at this
    exact Int.lt_of_lt_of_le (by decide) this
  have hE2 : ∀ k a b, 0 < E n X Y D l k a b → ∃ j, D j = k ∧ l (X j - a) (Y j - b) = true := fun k a b h => by
    obtain ⟨j, hj, hp⟩ := S_pos h
    by_cases e : D j = k
    · rw [if_pos e] at hp
      refine ⟨j, e, ?_⟩
      cases hl : l (X j - a) (Y j - b) with
      | true => rfl
      | false => rw [hl] at hp; exact absurd hp (by decide)
    · rw [if_neg e] at hp
      omega
  have v : ∀ a b, E n X Y D l 1 a b = E n X Y D l 3 a (b + 1) := fun a b => by
    have := L.f_v hB l a b
    rw [hf, hf] at this
    omega
  have hh : ∀ a b, E n X Y D l 0 a b = E n X Y D l 2 (a + 1) b := fun a b => by
    have := L.f_h hB l a b
    rw [hf, hf] at this
    omega
  refine ⟨g, fun i j hd hR => ?_, fun i => ?_, fun m => ?_, ?_⟩
  · have a := L.left i
    have b := L.left j
    rw [h1] at a b
    have hl : l (cx (X i) (D i) - cx (X j) (D j)) (cy (Y i) (D i) - cy (Y j) (D j)) = true := by
      rw [hd]
      unfold R at hR
      rw [← hR]
      congr 1
      · unfold cx; (repeat' split) <;> omega
      · unfold cy; (repeat' split) <;> omega
    obtain ⟨e1, e2⟩ := hno _ _ _ _ b a hl
    rw [hd] at e1 e2
    refine L.inj i j ?_ ?_
    · unfold cx at e1; (repeat' split at e1) <;> omega
    · unfold cy at e2; (repeat' split at e2) <;> omega
  · have sx := L.sx i
    have sy := L.sy i
    have hp := hE _ i rfl
    rcases d_cases (L.d4 i) with e | e | e | e
    · rw [e] at sx sy hp
      rw [hh] at hp
      obtain ⟨j, a, b⟩ := hE2 _ _ _ hp
      refine ⟨j, by rw [e]; exact a, ?_⟩
      unfold R
      rw [sx, sy, show uy 0 = 0 from rfl, Int.add_zero]
      exact b
    · rw [e] at sx sy hp
      rw [v] at hp
      obtain ⟨j, a, b⟩ := hE2 _ _ _ hp
      refine ⟨j, by rw [e]; exact a, ?_⟩
      unfold R
      rw [sx, sy, show ux 1 = 0 from rfl, Int.add_zero]
      exact b
    · rw [e] at sx sy hp
      have := hh (X i - 1) (Y i)
      rw [show X i - 1 + 1 = X i by omega] at this
      rw [← this] at hp
      obtain ⟨j, a, b⟩ := hE2 _ _ _ hp
      refine ⟨j, by rw [e]; exact a, ?_⟩
      unfold R
      rw [sx, sy, show uy 2 = 0 from rfl, Int.add_zero]
      exact b
    · rw [e] at sx sy hp
      have := v (X i) (Y i - 1)
      rw [show Y i - 1 + 1 = Y i by omega] at this
      rw [← this] at hp
      obtain ⟨j, a, b⟩ := hE2 _ _ _ hp
      refine ⟨j, by rw [e]; exact a, ?_⟩
      unfold R
      rw [sx, sy, show ux 3 = 0 from rfl, Int.add_zero]
      exact b
  · have := L.f_p hB h1 l (X m) (Y m)
    rw [hf, hf, hf, hf] at this
    have hrot := S_rot (n := n) (f := fun i => bi (R X Y l i m) * (2 - T n D i)) (fun i => by
      have e : (i + n) % n = i % n := Nat.add_mod_right _ _
      rw [← L.R_mod l (i + n), e, L.R_mod]
      unfold T
      rw [L.pd, show i + n + n - 1 = i + n - 1 + n by omega, L.pd]) 1
    have e1 : (S n fun i => bi (R X Y l (1 + i) m) * (2 - T n D (1 + i))) = S n fun i => bi (l (X (i + 1) - X m) (Y (i + 1) - Y m)) * (2 - turn (D i) (D (i + 1))) := S_congr fun i _ => by
      unfold R T
      rw [show 1 + i + n - 1 = i + n by omega, L.pd, Nat.add_comm 1 i]
    rw [e1] at hrot
    rw [← hrot]
    have hnn : 0 ≤ Z K fun x => Z K fun y => bi (l (x - X m) (y - Y m)) * inn n X Y D x y := Z_nonneg fun x _ _ => Z_nonneg fun y _ _ => Int.mul_nonneg (bi_range _).1 (by unfold inn; split <;> omega)
    have hpos : 0 < S n fun i => bi (R X Y l i m) * (2 - T n D i) := by
      refine S_pos_of (i := m % n) (fun i _ => Int.mul_nonneg (bi_range _).1 (by have := L.T_range i; omega)) (Nat.mod_lt _ (by omega)) ?_
      rw [L.R_mod, R_refl g]
      have := L.T_range (m % n)
      show 0 < 1 * _
      omega
    rw [← hrot] at hpos
    omega
  · have ht := L.turn4 h1
    have hrot := S_rot (n := n) (f := fun i => 2 - T n D i) (fun i => by
      unfold T
      rw [L.pd, show i + n + n - 1 = i + n - 1 + n by omega, L.pd]) 1
    rw [← hrot]
    have e1 : (S n fun i => 2 - T n D (1 + i)) = S n fun i => 2 - turn (D i) (D (i + 1)) := S_congr fun i _ => by
      unfold T
      rw [show 1 + i + n - 1 = i + n by omega, L.pd, Nat.add_comm 1 i]
    rw [e1, S_sub, S_const, ht]
    omega
theorem Tiled.k_range {l : Int → Int → Bool} (t : Tiled n X Y D l) (L : Loop n X Y D) (j : Nat) : kk n X Y l j = 2 ∨ kk n X Y l j = 3 ∨ kk n X Y l j = 4 := by
  have h := t.four j
  have h1 : kk n X Y l j ≤ S n (fun i => bi (R X Y l i j) * (2 - T n D i)) := S_le fun i _ => by
    have a := L.T_range i
    cases R X Y l i j with
    | true => show (1 : Int) ≤ 1 * _; omega
    | false => show (0 : Int) ≤ 0 * _; omega
  have h2 : S n (fun i => bi (R X Y l i j) * (2 - T n D i)) ≤ 3 * kk n X Y l j := by
    unfold kk
    rw [← S_mul]
    exact S_le fun i _ => by
      have a := L.T_range i
      cases R X Y l i j with
      | true => show 1 * _ ≤ (3 : Int) * 1; omega
      | false => show 0 * _ ≤ (3 : Int) * 0; omega
  omega
theorem kk_congr {l : Int → Int → Bool} (g : Grid l) {i j : Nat} (h : R X Y l i j = true) : kk n X Y l i = kk n X Y l j := S_congr fun k _ => by rw [R_congr g h]
def qv (k : Int) : Int := if k = 2 then 6 else if k = 3 then 4 else 3
theorem Tiled.weight {l : Int → Int → Bool} (t : Tiled n X Y D l) (L : Loop n X Y D) : S n (fun j => 6 - qv (kk n X Y l j)) = 12 := by
  have e1 : (S n fun j => qv (kk n X Y l j) * S n fun i => bi (R X Y l i j) * (2 - T n D i)) = 4 * S n fun j => qv (kk n X Y l j) := by
    rw [← S_mul]
    exact S_congr fun j _ => by rw [t.four, Int.mul_comm]
  have e2 : (S n fun j => qv (kk n X Y l j) * S n fun i => bi (R X Y l i j) * (2 - T n D i)) = S n fun i => 12 * (2 - T n D i) := by
    have : ∀ j, (qv (kk n X Y l j) * S n fun i => bi (R X Y l i j) * (2 - T n D i)) = S n fun i => qv (kk n X Y l j) * (bi (R X Y l i j) * (2 - T n D i)) := fun j => by rw [S_mul]
    rw [S_congr fun j _ => this j, S_swap]
    refine S_congr fun i _ => ?_
    have e3 : ∀ j, qv (kk n X Y l j) * (bi (R X Y l i j) * (2 - T n D i)) = (qv (kk n X Y l i) * (2 - T n D i)) * bi (R X Y l j i) := fun j => by
      rw [R_comm t.g j i]
      cases h : R X Y l i j with
      | true => rw [kk_congr t.g h]; show _ * (1 * _) = _ * _ * 1; rw [Int.one_mul, Int.mul_one]
      | false => show _ * (0 * _) = _ * 0; rw [Int.zero_mul, Int.mul_zero, Int.mul_zero]
    rw [S_congr fun j _ => e3 j, S_mul]
    have hk : (S n fun j => bi (R X Y l j i)) = kk n X Y l i := rfl
    rw [hk]
    have hr := t.k_range L i
    generalize kk n X Y l i = k at hr ⊢
    rcases hr with e | e | e <;> subst e <;> simp [qv] <;> omega
  rw [e1, S_mul, t.all] at e2
  rw [S_sub, S_const]
  omega
theorem Tiled.six_or_four {l : Int → Int → Bool} (t : Tiled n X Y D l) (L : Loop n X Y D) :
    (S n (fun j => bi (kk n X Y l j != 2)) = 6 ∧ ∀ j, kk n X Y l j ≤ 3) ∨ S n (fun j => bi (kk n X Y l j != 2)) = 4 := by
  have h4 := L.n4
  have hw := t.weight L
  by_cases h : ∃ j, kk n X Y l j = 4
  · right
    obtain ⟨j, hj⟩ := h
    have hc : ∀ i, i < n → 0 ≤ 6 - qv (kk n X Y l i) - 3 * bi (R X Y l i j) := fun i _ => by
      cases hR : R X Y l i j with
      | true => rw [kk_congr t.g hR, hj]; decide
      | false =>
        have := t.k_range L i
        generalize kk n X Y l i = k at this ⊢
        rcases this with e | e | e <;> subst e <;> decide
    have hz : S n (fun i => 6 - qv (kk n X Y l i) - 3 * bi (R X Y l i j)) = 0 := by
      rw [S_sub, hw, S_mul]
      show 12 - 3 * kk n X Y l j = 0
      rw [hj]
      rfl
    have : S n (fun i => bi (kk n X Y l i != 2)) = S n fun i => bi (R X Y l i j) := S_congr fun i hi => by
      have m1 := S_member hc hi
      have m2 := hc i hi
      rw [hz] at m1
      have m3 := t.k_range L i
      cases hR : R X Y l i j with
      | true => rw [kk_congr t.g hR, hj]; rfl
      | false =>
        rw [hR] at m1 m2
        generalize kk n X Y l i = k at m1 m2 m3 ⊢
        rcases m3 with e | e | e <;> subst e <;> simp [qv, bi] at m1 m2 ⊢
    rw [this]
    exact hj
  · left
    have hk : ∀ j, kk n X Y l j = 2 ∨ kk n X Y l j = 3 := fun j => by
      rcases t.k_range L j with e | e | e
      · exact .inl e
      · exact .inr e
      · exact absurd ⟨j, e⟩ h
    refine ⟨?_, fun j => by rcases hk j with e | e <;> omega⟩
    have : S n (fun j => 6 - qv (kk n X Y l j)) = 2 * S n (fun j => bi (kk n X Y l j != 2)) := by
      rw [← S_mul]
      exact S_congr fun j _ => by
        have := hk j
        generalize kk n X Y l j = k at this ⊢
        rcases this with e | e <;> subst e <;> decide
    omega
end
end Go.Proofs.YtpfenoioeajkmaaDoor.G
end

section
set_option linter.unusedVariables false
set_option linter.unusedSimpArgs false
namespace Go.Proofs.YtpfenoioeajkmaaDoor.G
theorem mod_add {n i j : Nat} (h : i % n = j % n) (k : Nat) : (i + k) % n = (j + k) % n := by rw [Nat.add_mod, h, ← Nat.add_mod]
theorem mod_sub {n i j : Nat} (k : Nat) (h : (i + k) % n = (j + k) % n) : i % n = j % n := mod_add_cancel (b := k) (by rw [Nat.add_comm k, Nat.add_comm k]; exact h)
section
variable {n : Nat} {X Y : Nat → Int} {D : Nat → Nat}
theorem Tiled.fac {l : Int → Int → Bool} (t : Tiled n X Y D l) (L : Loop n X Y D) : ∃ k a b c, k < n ∧ 1 ≤ a ∧ 1 ≤ b ∧ Fac n (fun i => D (k + i)) a b c := by
  have h4 := L.n4
  have hn : 0 < n := by omega
  obtain ⟨s, hs⟩ : ∃ s : Nat → Nat, ∀ i, D (s i) = (D i + 2) % 4 ∧ R X Y l (s i) (i + 1) = true := ⟨fun i => Classical.choose (t.opp i), fun i => Classical.choose_spec (t.opp i)⟩
  have hs2 : ∀ i, R X Y l (s i + 1) i = true := fun i => by
    have h := (hs i).2
    unfold R at h ⊢
    rw [L.sx, L.sy] at h ⊢
    rw [(hs i).1, (ux_opp (L.d4 i)).1, (ux_opp (L.d4 i)).2]
    rw [show X (s i) + -ux (D i) - X i = X (s i) - (X i + ux (D i)) by omega, show Y (s i) + -uy (D i) - Y i = Y (s i) - (Y i + uy (D i)) by omega]
    exact h
  have u1 : ∀ i, s i % n ≠ (i + 1) % n := fun i h => by
    have := (L.mod_eq h).2.2
    rw [(hs i).1] at this
    exact L.no_u i this.symm
  have u2 : ∀ i, (s i + 1) % n ≠ i % n := fun i h => by
    have := (L.mod_eq h).2.2
    refine L.no_u (s i) ?_
    rw [this, (hs i).1]
    have := L.d4 i
    omega
  have u3 : ∀ i, s i % n ≠ i % n := fun i h => by
    have := (L.mod_eq h).2.2
    rw [(hs i).1] at this
    have := L.d4 i
    omega
  let P : Nat → Bool := fun j => kk n X Y l j != 2
  have hRk : ∀ i j, R X Y l i j = true → P i = P j := fun i j h => by show (kk n X Y l i != 2) = (kk n X Y l j != 2); rw [kk_congr t.g h]
  have Rmod : ∀ i j, i % n = j % n → R X Y l i j = true := fun i j h => by
    obtain ⟨a, b, -⟩ := L.mod_eq h
    unfold R
    rw [a, b, Int.sub_self, Int.sub_self]
    exact t.g.zero
  have Pmod : ∀ i j, i % n = j % n → P i = P j := fun i j h => hRk _ _ (Rmod _ _ h)
  have Pn : ∀ i, P (i + n) = P i := fun i => Pmod _ _ (Nat.add_mod_right _ _)
  have bnn : ∀ m i, i < n → 0 ≤ bi (R X Y l i m) := fun m i _ => (bi_range _).1
  have two : ∀ i, P i = false → ∀ u v, R X Y l u i = true → R X Y l v i = true → u % n ≠ i % n → v % n ≠ i % n → u % n = v % n := fun i hi u v hu hv nu nv => by
    refine Classical.byContradiction fun ne => ?_
    have h3 := S_three (bnn i) (Nat.mod_lt u hn) (Nat.mod_lt v hn) (Nat.mod_lt i hn) ne nu nv
    rw [L.R_mod, L.R_mod, L.R_mod, hu, hv, R_refl t.g] at h3
    have : kk n X Y l i = 2 := by
      have : (kk n X Y l i != 2) = false := hi
      simpa using this
    unfold kk at this
    rw [this] at h3
    exact absurd h3 (by decide)
  have step : ∀ i, P (i + 1) = false → s i % n = (s (i + 1) + 1) % n := fun i hi => two (i + 1) hi _ _ (hs i).2 (hs2 (i + 1)) (u1 i) (u2 (i + 1))
  have main : ∀ m : Nat, 4 ≤ m → S n (fun i => bi (P i)) = (m : Int) → ∃ B : Nat → Nat, B 0 < n ∧ (∀ r, B r < B (r + 1)) ∧ (∀ r, B (r + m) = B r + n) ∧ (∀ r, P (B r) = true) ∧ (∀ r r', B r % n = B r' % n → r % m = r' % m) ∧
      ∀ r, ∃ q, q % m ≠ r % m ∧ q % m ≠ (r + 1) % m ∧ (q + 1) % m ≠ r % m ∧ R X Y l (B (q + 1)) (B r) = true ∧ R X Y l (B q) (B (r + 1)) = true ∧
        ∀ p, p % m = q % m → B (p + 1) - B p = B (r + 1) - B r ∧ Opp D (B r) (B (r + 1) - B r) (B p) ∧ R X Y l (B (p + 1)) (B r) = true ∧ R X Y l (B p) (B (r + 1)) = true := by
    intro m hm4 hm
    obtain ⟨B, b0, bP, bl, bn, bm, be, bi'⟩ := breaks hn Pn hm (by omega)
    refine ⟨B, b0, bl, bm, bP, bi', fun r => ?_⟩
    have bmono : ∀ d r, B r ≤ B (r + d) := fun d r => by
      induction d with
      | zero => exact Nat.le_refl _
      | succ d ih => have := bl (r + d); rw [← Nat.add_assoc]; omega
    have hlen : B (r + 1) - B r ≤ n := by
      have := bmono (m - 1) (r + 1)
      rw [show r + 1 + (m - 1) = r + m by omega, bm] at this
      omega
    have hl0 := bl r
    obtain ⟨len, hlen'⟩ : ∃ len, B (r + 1) = B r + len := ⟨B (r + 1) - B r, by omega⟩
    have hlp : 0 < len := by omega
    have run : ∀ d, d < len → (s (B r + d) + d) % n = s (B r) % n := by
      intro d
      induction d with
      | zero => intro _; rfl
      | succ d ih =>
        intro hd
        have hf : P (B r + d + 1) = false := bn r _ (by omega) (by omega)
        have := mod_add (step (B r + d) hf) d
        rw [ih (by omega)] at this
        rw [this]
        congr 1
        rw [← Nat.add_assoc (B r) d 1]
        omega
    have hPs : P (s (B r) + 1) = true := by rw [hRk _ _ (hs2 (B r))]; exact bP r
    obtain ⟨q, hq⟩ := be (s (B r) + 1 + n) (by omega) (by rw [Pn]; exact hPs)
    have hqm : B (q + 1) % n = (s (B r) + 1) % n := by rw [hq, Nat.add_mod_right]
    have hqn : n ≤ B (q + 1) := by omega
    have run2 : ∀ d, d < len → (s (B r + d) + 1 + d) % n = B (q + 1) % n := fun d hd => by
      have := mod_add (run d hd) 1
      rw [hqm, ← this]
      congr 1
      omega
    have back : ∀ d, d < len → (B (q + 1) - (d + 1)) % n = s (B r + d) % n := fun d hd => by
      refine mod_sub (d + 1) ?_
      rw [show B (q + 1) - (d + 1) + (d + 1) = B (q + 1) by omega, ← run2 d hd]
      congr 1
      omega
    have bk1 : ∀ d, 0 < d → d < len → P (B (q + 1) - d) = false := fun d h0 hd => by
      have e := back (d - 1) (by omega)
      rw [show d - 1 + 1 = d by omega] at e
      rw [Pmod _ _ e, hRk _ _ (hs (B r + (d - 1))).2]
      exact bn r _ (by omega) (by omega)
    have bk2 : P (B (q + 1) - len) = true := by
      have e := back (len - 1) (by omega)
      rw [show len - 1 + 1 = len by omega] at e
      rw [Pmod _ _ e, hRk _ _ (hs (B r + (len - 1))).2, show B r + (len - 1) + 1 = B (r + 1) by omega]
      exact bP _
    have hqq := bl q
    have hql : B (q + 1) - len = B q := by
      rcases Nat.lt_trichotomy (B (q + 1) - len) (B q) with h | h | h
      · have := bk1 (B (q + 1) - B q) (by omega) (by omega)
        rw [show B (q + 1) - (B (q + 1) - B q) = B q by omega, bP] at this
        cases this
      · exact h
      · have := bn q _ h (by omega)
        rw [bk2] at this
        cases this
    have hql2 : B (q + 1) = B q + len := by omega
    have opp : Opp D (B r) len (B q) := fun d hd => by
      have e := back (len - 1 - d) (by omega)
      rw [show B (q + 1) - (len - 1 - d + 1) = B q + d by omega] at e
      rw [(L.mod_eq e).2.2, (hs _).1]
      congr 3
      omega
    have Bm : ∀ x y, x % m = y % m → B x % n = B y % n := fun x y h => by
      have : ∀ k z, B (z + k * m) % n = B z % n := fun k z => by
        induction k with
        | zero => rw [Nat.zero_mul]; rfl
        | succ k ih => rw [Nat.succ_mul, ← Nat.add_assoc, bm, Nat.add_mod_right, ih]
      have a1 := this (x / m) (x % m)
      have a2 := this (y / m) (y % m)
      rw [Nat.mul_comm, Nat.mod_add_div] at a1 a2
      rw [a1, a2, h]
    have Bk : ∀ k z, B (z + k * m) = B z + k * n := fun k z => by
      induction k with
      | zero => rw [Nat.zero_mul, Nat.zero_mul]; rfl
      | succ k ih => rw [Nat.succ_mul, ← Nat.add_assoc, bm, ih, Nat.succ_mul]; omega
    have r1 : R X Y l (B (q + 1)) (B r) = true := R_trans t.g (Rmod _ _ hqm) (hs2 _)
    have r2 : R X Y l (B q) (B (r + 1)) = true := by
      have := back (len - 1) (by omega)
      rw [show B (q + 1) - (len - 1 + 1) = B q by omega] at this
      have h2 := (hs (B r + (len - 1))).2
      rw [show B r + (len - 1) + 1 = B (r + 1) by omega] at h2
      exact R_trans t.g (Rmod _ _ this) h2
    refine ⟨q, fun e => ?_, fun e => ?_, fun e => ?_, r1, r2, fun p hp => ⟨?_, ?_, R_trans t.g (Rmod _ _ (Bm _ _ (mod_add hp 1))) r1, R_trans t.g (Rmod _ _ (Bm _ _ hp)) r2⟩⟩
    · have e1 := Bm _ _ (mod_add e 1)
      have bb : ∀ d, d < len → s (B r + d) % n = (B r + len - (d + 1)) % n := fun d hd => by
        rw [← back d hd]
        refine mod_sub (d + 1) ?_
        rw [show B (q + 1) - (d + 1) + (d + 1) = B (q + 1) by omega, e1, hlen']
        congr 1
        omega
      rcases Nat.mod_two_eq_zero_or_one len with hd | hd
      · have := bb (len / 2 - 1) (by omega)
        rw [show B r + len - (len / 2 - 1 + 1) = B r + (len / 2 - 1) + 1 by omega] at this
        exact u1 _ this
      · have := bb (len / 2) (by omega)
        rw [show B r + len - (len / 2 + 1) = B r + len / 2 by omega] at this
        exact u3 _ this
    · have e1 := Bm _ _ e
      have := back (len - 1) (by omega)
      rw [show B (q + 1) - (len - 1 + 1) = B q by omega, e1] at this
      refine u1 (B r + (len - 1)) ?_
      rw [← this, hlen']
      congr 1
      omega
    · have e1 := Bm _ _ e
      rw [hqm] at e1
      exact u2 _ e1
    · have e1 := Nat.mod_add_div p m
      have e2 := Nat.mod_add_div q m
      have a1 := Bk (p / m) (p % m)
      have a2 := Bk (q / m) (q % m)
      have a3 := Bk (p / m) (p % m + 1)
      have a4 := Bk (q / m) (q % m + 1)
      rw [show p % m + 1 + p / m * m = p + 1 by rw [Nat.mul_comm]; omega] at a3
      rw [show q % m + 1 + q / m * m = q + 1 by rw [Nat.mul_comm]; omega] at a4
      rw [show p % m + p / m * m = p by rw [Nat.mul_comm]; omega, hp] at a1
      rw [show q % m + q / m * m = q by rw [Nat.mul_comm]; omega] at a2
      rw [hp] at a3
      omega
    · rw [show B (r + 1) - B r = len by omega]
      intro d hd
      rw [(L.mod_eq (mod_add (Bm _ _ hp) d)).2.2]
      exact opp d hd
  rcases t.six_or_four L with ⟨h6, hk3⟩ | h44
  · obtain ⟨B, b0, bl, bm, bP, bi', hq⟩ := main 6 (by omega) h6
    have far : ∀ x y, x % 6 ≠ y % 6 → B x % n ≠ B y % n := fun x y h e => h (bi' _ _ e)
    have no4 : ∀ x y z w, x % 6 ≠ y % 6 → x % 6 ≠ z % 6 → y % 6 ≠ z % 6 → x % 6 ≠ w % 6 → y % 6 ≠ w % 6 → z % 6 ≠ w % 6 → R X Y l (B y) (B x) = true → R X Y l (B z) (B x) = true → R X Y l (B w) (B x) = true → False := fun x y z w n1 n2 n3 n4 n5 n6 hy hz hw => by
      have h := S_four (bnn (B x)) (Nat.mod_lt (B x) hn) (Nat.mod_lt (B y) hn) (Nat.mod_lt (B z) hn) (Nat.mod_lt (B w) hn) (far _ _ n1) (far _ _ n2) (far _ _ n3) (far _ _ n4) (far _ _ n5) (far _ _ n6)
      rw [L.R_mod, L.R_mod, L.R_mod, L.R_mod, R_refl t.g, hy, hz, hw] at h
      have := hk3 (B x)
      unfold kk at this
      have e : bi true = 1 := rfl
      rw [e] at h
      omega
    have third : ∀ r, B (r + 3 + 1) - B (r + 3) = B (r + 1) - B r ∧ Opp D (B r) (B (r + 1) - B r) (B (r + 3)) := fun r => by
      obtain ⟨q, n1, n2, n3, -, -, hp⟩ := hq r
      have : q % 6 = (r + 2) % 6 ∨ q % 6 = (r + 3) % 6 ∨ q % 6 = (r + 4) % 6 := by omega
      rcases this with e | e | e
      · exfalso
        obtain ⟨-, -, -, c1⟩ := hp (r + 2) e.symm
        obtain ⟨q1, m1, m2, m3, c2, c3, -⟩ := hq (r + 1)
        exact no4 (r + 1) (r + 2) q1 (q1 + 1) (by omega) (by omega) (by omega) (by omega) (by omega) (by omega) c1 (R_trans t.g c3 c1) c2
      · obtain ⟨c1, c2, -, -⟩ := hp (r + 3) e.symm
        exact ⟨c1, c2⟩
      · exfalso
        obtain ⟨-, -, c1, -⟩ := hp (r + 4) e.symm
        obtain ⟨q1, m1, m2, m3, c2, c3, -⟩ := hq (r + 5)
        have c4 : R X Y l (B (r + 6)) (B (r + 5)) = true := by
          refine R_trans t.g (Rmod _ (B r) ?_) (R_symm t.g c1)
          rw [bm, Nat.add_mod_right]
        exact no4 (r + 5) (r + 6) q1 (q1 + 1) (by omega) (by omega) (by omega) (by omega) (by omega) (by omega) c4 (R_trans t.g c3 c4) c2
    obtain ⟨e0, o0⟩ := third 0
    obtain ⟨e1, o1⟩ := third 1
    obtain ⟨e2, o2⟩ := third 2
    have l0 := bl 0
    have l1 := bl 1
    have l2 := bl 2
    have l3 := bl 3
    have l4 := bl 4
    have l5 := bl 5
    have b6 := bm 0
    simp only [Nat.zero_add, Nat.reduceAdd] at e0 e1 e2 o0 o1 o2 l0 l1 l2 l3 l4 l5 b6
    refine ⟨B 0, B 1 - B 0, B 2 - B 1, B 3 - B 2, b0, by omega, by omega, by omega, fun d hd => ?_, fun d hd => ?_, fun d hd => ?_⟩
    · have := o0 d hd
      rw [show B 0 + (B 1 - B 0 + (B 2 - B 1) + (B 3 - B 2) + d) = B 3 + d by omega, this]
      congr 3
      omega
    · have := o1 d hd
      rw [show B 0 + (B 1 - B 0 + (B 2 - B 1) + (B 3 - B 2) + (B 1 - B 0) + d) = B 4 + d by omega, this]
      congr 3
      omega
    · have := o2 d hd
      rw [show B 0 + (B 1 - B 0 + (B 2 - B 1) + (B 3 - B 2) + (B 1 - B 0) + (B 2 - B 1) + d) = B 5 + d by omega, this]
      congr 3
      omega
  · obtain ⟨B, b0, bl, bm, bP, bi', hq⟩ := main 4 (by omega) h44
    have second : ∀ r, B (r + 2 + 1) - B (r + 2) = B (r + 1) - B r ∧ Opp D (B r) (B (r + 1) - B r) (B (r + 2)) := fun r => by
      obtain ⟨q, n1, n2, n3, -, -, hp⟩ := hq r
      obtain ⟨c1, c2, -, -⟩ := hp (r + 2) (by omega)
      exact ⟨c1, c2⟩
    obtain ⟨e0, o0⟩ := second 0
    obtain ⟨e1, o1⟩ := second 1
    have l0 := bl 0
    have l1 := bl 1
    have l2 := bl 2
    have l3 := bl 3
    have b4 := bm 0
    simp only [Nat.zero_add, Nat.reduceAdd] at e0 e1 o0 o1 l0 l1 l2 l3 b4
    refine ⟨B 0, B 1 - B 0, B 2 - B 1, 0, b0, by omega, by omega, by omega, fun d hd => ?_, fun d hd => ?_, fun d hd => by omega⟩
    · have := o0 d hd
      rw [show B 0 + (B 1 - B 0 + (B 2 - B 1) + 0 + d) = B 2 + d by omega, this]
      congr 3
      omega
    · have := o1 d hd
      rw [show B 0 + (B 1 - B 0 + (B 2 - B 1) + 0 + (B 1 - B 0) + d) = B 3 + d by omega, this]
      congr 3
      omega
theorem Loop.hard (L : Loop n X Y D) {K : Nat} (hB : Box K X Y) (h1 : LW n X Y D 0 = 1) {wd h : Nat} {s : Int} (hw : 0 < wd) (hh : 0 < h)
    (hA : (Z K fun x => Z K fun y => W n X Y D x y) = ((wd * h : Nat) : Int))
    (hno : ∀ x y x' y', W n X Y D x y = 1 → W n X Y D x' y' = 1 → latB wd h s (x' - x) (y' - y) = true → x = x' ∧ y = y') : ∃ k a b c, k < n ∧ 1 ≤ a ∧ 1 ≤ b ∧ Fac n (fun i => D (k + i)) a b c :=
  (L.tiled hB h1 (grid_of fun x y => latB_iff (by omega) (by omega) x y) hno (fC_one L h1 hw hh (L.rim hB) hno hA)).fac L
end
end Go.Proofs.YtpfenoioeajkmaaDoor.G
end

section
set_option linter.unusedVariables false
set_option linter.unusedSimpArgs false
namespace Go.Proofs.YtpfenoioeajkmaaDoor.L
open Go.RowKit Go.Proofs.YtpfenoioeajkmaaDoorW.PrintWords Go.Proofs.YtpfenoioeajkmaaDoorW.PrintLast Go.Proofs.YtpfenoioeajkmaaDoorW.PrintMore Go.Proofs.YtpfenoioeajkmaaDoor.X Go.Proofs.YtpfenoioeajkmaaDoor.G
def cd (c : Int) : Nat := if c = 114 then 0 else if c = 117 then 1 else if c = 108 then 2 else 3
theorem cd_lt (c : Int) : cd c < 4 := by
  unfold cd
  (repeat' split) <;> omega
theorem cd_step {c : Int} (h : isL c) : stepx c = ux (cd c) ∧ stepy c = uy (cd c) := by
  rcases h with rfl | rfl | rfl | rfl <;> decide
theorem cd_inj {c d : Int} (h : isL c) (h2 : isL d) (e : cd c = cd d) : c = d := by
  rcases h with rfl | rfl | rfl | rfl <;> rcases h2 with rfl | rfl | rfl | rfl <;> first | rfl | (exact absurd e (by decide))
theorem cd_back {c : Int} (h : isL c) : cd (exb ruld ldru c) = (cd c + 2) % 4 := by
  rcases h with rfl | rfl | rfl | rfl <;> decide +kernel
def gX (s : ByteArray) (i : Nat) : Int := sumx s (i % s.size)
def gY (s : ByteArray) (i : Nat) : Int := sumy s (i % s.size)
def gD (s : ByteArray) (i : Nat) : Nat := cd (bt s ((i % s.size : Nat) : Int))
theorem isO_parts {s : ByteArray} (h : isO s = true) : isW s = true ∧ 4 ≤ s.size ∧ (sumx s s.size = 0 ∧ sumy s s.size = 0) ∧ 0 < dbl s s.size ∧ apart s s.size := by
  have hw := isO_W h
  unfold isO at h
  simp only [Bool.and_eq_true, decide_eq_true_eq] at h
  exact ⟨hw, h.2.1, h.2.2.1, h.2.2.2.1, (apart_iff hw).2 h.2.2.2.2⟩
theorem loop_of {s : ByteArray} (h : isO s = true) : G.Loop s.size (gX s) (gY s) (gD s) := by
  obtain ⟨hw, h4, ⟨zx, zy⟩, -, hap⟩ := isO_parts h
  have hl := ((isW_iff s).1 hw).2
  have hn : 0 < s.size := by omega
  have nx : ∀ i, ((i + 1) % s.size = i % s.size + 1 ∧ i % s.size + 1 < s.size) ∨ ((i + 1) % s.size = 0 ∧ i % s.size + 1 = s.size) := fun i => by
    have hi := Nat.mod_lt i hn
    by_cases e : i % s.size + 1 < s.size
    · left
      refine ⟨?_, e⟩
      rw [Nat.add_mod, Nat.mod_eq_of_lt (a := 1) (by omega), Nat.mod_eq_of_lt e]
    · right
      have e2 : i % s.size + 1 = s.size := by omega
      refine ⟨?_, e2⟩
      rw [Nat.add_mod, Nat.mod_eq_of_lt (a := 1) (by omega), e2, Nat.mod_self]
  refine ⟨h4, fun i => cd_lt _, fun i => ?_, fun i => ?_, fun i => ?_, fun i => ?_, fun i => ?_, fun i j hx hy => ?_⟩
  · unfold gX gD
    have hi := Nat.mod_lt i hn
    rw [← (cd_step (hl _ hi)).1]
    rcases nx i with ⟨e, _⟩ | ⟨e, e2⟩
    · rw [e, sumx]
    · rw [e]
      have : sumx s (i % s.size + 1) = 0 := by rw [e2]; exact zx
      rw [sumx] at this
      show (0 : Int) = _
      omega
  · unfold gY gD
    have hi := Nat.mod_lt i hn
    rw [← (cd_step (hl _ hi)).2]
    rcases nx i with ⟨e, _⟩ | ⟨e, e2⟩
    · rw [e, sumy]
    · rw [e]
      have : sumy s (i % s.size + 1) = 0 := by rw [e2]; exact zy
      rw [sumy] at this
      show (0 : Int) = _
      omega
  · unfold gX; rw [Nat.add_mod_right]
  · unfold gY; rw [Nat.add_mod_right]
  · unfold gD; rw [Nat.add_mod_right]
  · unfold gX at hx
    unfold gY at hy
    have hi := Nat.mod_lt i hn
    have hj := Nat.mod_lt j hn
    generalize i % s.size = p at *
    generalize j % s.size = q at *
    rcases Nat.lt_trichotomy p q with e | e | e
    · have := hap p q (by omega) e hj
      rw [(same_iff hw (by omega) (by omega)).2 (by rw [hx, hy])] at this
      cases this
    · exact e
    · have := hap q p (by omega) e hi
      rw [(same_iff hw (by omega) (by omega)).2 (by rw [hx, hy])] at this
      cases this
theorem box_of {s : ByteArray} (h : isO s = true) : Box 25 (gX s) (gY s) := fun i => by
  have h24 := isW_le (isO_W h)
  have h4 := isO_4 h
  have hi := Nat.mod_lt i (show 0 < s.size by omega)
  have a := sumx_le s (i % s.size)
  have b := sumy_le s (i % s.size)
  unfold gX gY
  omega
theorem dbl_Q {s : ByteArray} (h : isO s = true) : dbl s s.size = 2 * S s.size fun i => gX s i * uy (gD s i) := by
  obtain ⟨hw, h4, ⟨zx, zy⟩, -, hap⟩ := isO_parts h
  have hl := ((isW_iff s).1 hw).2
  rw [← (loop_of h).Q_area]
  have key : ∀ k, k ≤ s.size → dbl s k = Q (gX s) (gY s) (gD s) 0 k := fun k => by
    induction k with
    | zero => intro _; rfl
    | succ k ih =>
      intro hk
      have e : Q (gX s) (gY s) (gD s) 0 (k + 1) = Q (gX s) (gY s) (gD s) 0 k + (gX s (0 + k) * uy (gD s (0 + k)) - gY s (0 + k) * ux (gD s (0 + k))) := rfl
      rw [dbl, ih (by omega), e, Nat.zero_add]
      have hk' : k % s.size = k := Nat.mod_eq_of_lt (by omega)
      have hs := cd_step (hl k (by omega))
      have e1 : gX s k = sumx s k := by unfold gX; rw [hk']
      have e2 : gY s k = sumy s k := by unfold gY; rw [hk']
      have e3 : gD s k = cd (bt s (k : Int)) := by unfold gD; rw [hk']
      rw [e1, e2, e3, ← hs.1, ← hs.2, sumx, sumy]
      generalize sumx s k = a
      generalize sumy s k = b
      generalize stepx (bt s k) = u
      generalize stepy (bt s k) = v
      grind
  exact key _ (Nat.le_refl _)
theorem area_pos {s : ByteArray} (h : isO s = true) : 0 < S s.size fun i => gX s i * uy (gD s i) := by
  have := (isO_parts h).2.2.2.1
  rw [dbl_Q h] at this
  omega
theorem left_one {s : ByteArray} (h : isO s = true) : LW s.size (gX s) (gY s) (gD s) 0 = 1 := (loop_of h).pos (box_of h) (area_pos h)
def gW (s : ByteArray) (x y : Int) : Int := W s.size (gX s) (gY s) (gD s) x y
theorem gW_zo {s : ByteArray} (h : isO s = true) (x y : Int) : gW s x y = 0 ∨ gW s x y = 1 := (loop_of h).zo (left_one h) x y
theorem cnt_W {s : ByteArray} (h : isO s = true) (x y : Int) : cntTo s x y s.size = gW s x y := by
  obtain ⟨hw, h4, -, -, -⟩ := isO_parts h
  have hl := ((isW_iff s).1 hw).2
  have key : ∀ k, k ≤ s.size → cntTo s x y k = S k (wi (gX s) (gY s) (gD s) x y) := fun k => by
    induction k with
    | zero => intro _; rfl
    | succ k ih =>
      intro hk
      rw [cntTo, ih (by omega), S_succ]
      congr 1
      have hk' : k % s.size = k := Nat.mod_eq_of_lt (by omega)
      unfold rcb wi gX gY gD
      rw [hk', rsumy_eq hw k (by omega)]
      rcases hl k (by omega) with e | e | e | e <;> rw [e] <;> simp [cd]
  exact key _ (Nat.le_refl _)
theorem rim_of {s : ByteArray} (h : isO s = true) : Rim s.size (gX s) (gY s) (gD s) 25 := (loop_of h).rim (box_of h)
theorem gW_in {s : ByteArray} (h : isO s = true) {x y : Int} (hw : gW s x y = 1) : -24 ≤ x ∧ x ≤ 23 ∧ -24 ≤ y ∧ y ≤ 23 := by
  have R := rim_of h
  have a1 := R.l x y
  have a2 := R.r x y
  have a3 := R.d x y
  have a4 := R.u x y
  unfold gW at hw
  refine ⟨?_, ?_, ?_, ?_⟩
  · exact Classical.byContradiction fun q => by rw [a1 (by omega)] at hw; omega
  · exact Classical.byContradiction fun q => by rw [a2 (by omega)] at hw; omega
  · exact Classical.byContradiction fun q => by rw [a3 (by omega)] at hw; omega
  · exact Classical.byContradiction fun q => by rw [a4 (by omega)] at hw; omega
theorem mem_col (s : ByteArray) (x : Int) (p : Int × Int) : ∀ m, p ∈ colTo s x m ↔ ∃ j : Nat, j < m ∧ cntTo s x ((j : Int) - 24) s.size = 1 ∧ p = (x, (j : Int) - 24)
  | 0 => ⟨fun h => (by cases h), fun ⟨j, h, _⟩ => (by omega)⟩
  | m + 1 => by
    rw [colTo, List.mem_append, mem_col s x p m]
    constructor
    · rintro (⟨j, h1, h2⟩ | h)
      · exact ⟨j, by omega, h2⟩
      · by_cases e : cntTo s x ((m : Int) - 24) s.size = 1
        · rw [if_pos e, List.mem_singleton] at h
          exact ⟨m, by omega, e, h⟩
        · rw [if_neg e] at h
          cases h
    · rintro ⟨j, h1, h2, h3⟩
      by_cases e : j = m
      · subst e
        right
        rw [if_pos h2, h3]
        exact List.mem_singleton.2 rfl
      · exact .inl ⟨j, by omega, h2, h3⟩
theorem mem_cells' (s : ByteArray) (p : Int × Int) : ∀ m, p ∈ cellsTo s m ↔ ∃ i : Nat, i < m ∧ p ∈ colTo s ((i : Int) - 24) 49
  | 0 => ⟨fun h => (by cases h), fun ⟨j, h, _⟩ => (by omega)⟩
  | m + 1 => by
    rw [cellsTo, List.mem_append, mem_cells' s p m]
    constructor
    · rintro (⟨j, h1, h2⟩ | h)
      · exact ⟨j, by omega, h2⟩
      · exact ⟨m, by omega, h⟩
    · rintro ⟨j, h1, h2⟩
      by_cases e : j = m
      · subst e
        exact .inr h2
      · exact .inl ⟨j, by omega, h2⟩
def rcl (s : ByteArray) : List (Int × Int) := cellsTo s 49
theorem mem_cells {s : ByteArray} (h : isO s = true) (x y : Int) : (x, y) ∈ rcl s ↔ gW s x y = 1 := by
  unfold rcl
  rw [mem_cells']
  constructor
  · rintro ⟨i, hi, hm⟩
    rw [mem_col] at hm
    obtain ⟨j, hj, h1, h2⟩ := hm
    injection h2 with e1 e2
    rw [cnt_W h] at h1
    rw [e1, e2]
    exact h1
  · intro hw
    have hb := gW_in h hw
    refine ⟨(x + 24).toNat, by omega, (mem_col _ _ _ _).2 ⟨(y + 24).toNat, by omega, ?_, ?_⟩⟩
    · rw [cnt_W h, show (((x + 24).toNat : Nat) : Int) - 24 = x by omega, show (((y + 24).toNat : Nat) : Int) - 24 = y by omega]
      exact hw
    · rw [show (((x + 24).toNat : Nat) : Int) - 24 = x by omega, show (((y + 24).toNat : Nat) : Int) - 24 = y by omega]
theorem col_count {s : ByteArray} (h : isO s = true) (x : Int) : ∀ m, ((colTo s x m).length : Int) = S m fun j => gW s x ((j : Int) - 24)
  | 0 => rfl
  | m + 1 => by
    rw [colTo, List.length_append, S_succ, ← col_count h x m, cnt_W h]
    rcases gW_zo h x ((m : Int) - 24) with e | e <;> rw [e] <;> simp
theorem cells_count' {s : ByteArray} (h : isO s = true) : ∀ m, ((cellsTo s m).length : Int) = S m fun i => S 49 fun j => gW s ((i : Int) - 24) ((j : Int) - 24)
  | 0 => rfl
  | m + 1 => by
    rw [cellsTo, List.length_append, S_succ, ← cells_count' h m, ← col_count h]
    omega
theorem Z25 (f : Int → Int) (h : f (-25) = 0) : Z 25 f = S 49 fun j => f ((j : Int) - 24) := by
  show S (49 + 1) _ = _
  rw [S_head]
  show f (((0 : Nat) : Int) - 25) + _ = _
  rw [show (((0 : Nat) : Int) - 25) = -25 from rfl, h, Int.zero_add]
  exact S_congr fun i _ => by congr 1; omega
theorem cells_count {s : ByteArray} (h : isO s = true) : ((rcl s).length : Int) = Z 25 fun x => Z 25 fun y => gW s x y := by
  unfold rcl
  rw [cells_count' h]
  have R := rim_of h
  rw [Z25 (fun x => Z 25 fun y => gW s x y) (Z_zero fun y _ _ => R.l _ _ (by omega))]
  exact S_congr fun i _ => (Z25 (fun y => gW s ((i : Int) - 24) y) (R.d _ _ (by omega))).symm
theorem col_nodup (s : ByteArray) (x : Int) : ∀ m, (colTo s x m).Nodup
  | 0 => List.nodup_nil
  | m + 1 => by
    rw [colTo, List.nodup_append]
    refine ⟨col_nodup s x m, ?_, ?_⟩
    · split <;> simp
    · intro a ha b hb
      rw [mem_col] at ha
      obtain ⟨j, hj, -, rfl⟩ := ha
      split at hb
      · rw [List.mem_singleton] at hb
        subst hb
        intro q
        injection q with q1 q2
        omega
      · cases hb
theorem cells_nodup' (s : ByteArray) : ∀ m, (cellsTo s m).Nodup
  | 0 => List.nodup_nil
  | m + 1 => by
    rw [cellsTo, List.nodup_append]
    refine ⟨cells_nodup' s m, col_nodup s _ _, ?_⟩
    intro a ha b hb
    rw [mem_cells'] at ha
    obtain ⟨i, hi, hm⟩ := ha
    rw [mem_col] at hm hb
    obtain ⟨j, hj, -, rfl⟩ := hm
    obtain ⟨j2, hj2, -, rfl⟩ := hb
    intro q
    injection q with q1 q2
    omega
theorem cells_nodup (s : ByteArray) : (rcl s).Nodup := cells_nodup' s 49
theorem cells_le {s : ByteArray} (h : isO s = true) : (rcl s).length ≤ 36 := by
  have h24 := isW_le (isO_W h)
  have hi := (loop_of h).iso (box_of h) (left_one h)
  have hc := cells_count h
  unfold gW at hc
  rw [← hc] at hi
  have : (s.size : Int) * s.size ≤ 24 * 24 := Int.mul_le_mul (by omega) (by omega) (by omega) (by omega)
  omega
attribute [irreducible] rcl
end Go.Proofs.YtpfenoioeajkmaaDoor.L
end

section
set_option linter.unusedVariables false
set_option linter.unusedSimpArgs false
namespace Go.Proofs.YtpfenoioeajkmaaDoor.L
open Go.RowKit Go.Proofs.YtpfenoioeajkmaaDoorW.PrintWords Go.Proofs.YtpfenoioeajkmaaDoorW.PrintLast Go.Proofs.YtpfenoioeajkmaaDoorW.PrintMore Go.Proofs.YtpfenoioeajkmaaDoor.X Go.Proofs.YtpfenoioeajkmaaDoor.G
theorem bytes_ext {a b : ByteArray} (hs : a.size = b.size) (h : ∀ i : Nat, i < a.size → bt a i = bt b i) : a = b := by
  rw [← strN_self a, ← strN_self b, ← hs]
  exact strN_congr fun i hi => h i hi
theorem size_even {s : ByteArray} (h : isO s = true) : s.size = s.size / 2 + s.size / 2 := by
  have := (loop_of h).even
  omega
theorem gD_rot {s : ByteArray} (h : isO s = true) {k : Nat} (hk : k < s.size) {i : Nat} (hi : i < s.size) : gD s (k + i) = cd (bt (rotF s k) i) ∧ isL (bt (rotF s k) i) := by
  have hl := ((isW_iff s).1 (isO_W h)).2
  have e : (k + i) % s.size = if i < s.size - k then k + i else i - (s.size - k) := by
    by_cases q : i < s.size - k
    · rw [if_pos q, Nat.mod_eq_of_lt (by omega)]
    · rw [if_neg q, show k + i = (i - (s.size - k)) + s.size by omega, Nat.add_mod_right, Nat.mod_eq_of_lt (by omega)]
  have hr := rot_bt s (Nat.le_of_lt hk) i hi
  rw [← e] at hr
  unfold gD
  rw [hr]
  exact ⟨rfl, hl _ (Nat.mod_lt _ (by omega))⟩
theorem back3_bt {t : ByteArray} (hw : isW t = true) {a b c h : Nat} (habc : a + b + c = h) (hh : h ≤ t.size) {i : Nat} (hi : i < h) :
    bt (backF (t.extract 0 a) ++ backF (t.extract a (a + b)) ++ backF (t.extract (a + b) h)) i = exb ruld ldru (bt t ((if i < a then a - 1 - i else if i < a + b then a + b - 1 - (i - a) else h - 1 - (i - a - b) : Nat) : Int)) := by
  have s1 : (t.extract 0 a).size = a := by rw [ByteArray.size_extract]; omega
  have s2 : (t.extract a (a + b)).size = b := by rw [ByteArray.size_extract]; omega
  have s3 : (t.extract (a + b) h).size = c := by rw [ByteArray.size_extract]; omega
  have z1 : (backF (t.extract 0 a)).size = a := by rw [back_size, s1]
  have z2 : (backF (t.extract a (a + b))).size = b := by rw [back_size, s2]
  have z3 : (backF (t.extract (a + b) h)).size = c := by rw [back_size, s3]
  have w1 := cut_W hw 0 a (by omega)
  have w2 := cut_W hw a (a + b) (by omega)
  have w3 := cut_W hw (a + b) h hh
  rw [bt_app _ _ i (by rw [ByteArray.size_append, ByteArray.size_append, z1, z2, z3]; omega), ByteArray.size_append, z1, z2]
  by_cases h1 : i < a
  · rw [if_pos (by omega), bt_app _ _ i (by rw [ByteArray.size_append, z1, z2]; omega), z1, if_pos h1, if_pos h1, back_bt w1 (by rw [s1]; exact h1), s1, bt_cut t 0 a _ (by omega) (by omega), Nat.zero_add]
  · rw [if_neg h1]
    by_cases h2 : i < a + b
    · rw [if_pos h2, if_pos h2, bt_app _ _ i (by rw [ByteArray.size_append, z1, z2]; omega), z1, if_neg h1, back_bt w2 (by rw [s2]; omega), s2, bt_cut t a (a + b) _ (by omega) (by omega), show a + (b - 1 - (i - a)) = a + b - 1 - (i - a) by omega]
    · rw [if_neg h2, if_neg h2, back_bt w3 (by rw [s3]; omega), s3, bt_cut t (a + b) h _ (by omega) hh, show a + b + (c - 1 - (i - (a + b))) = h - 1 - (i - a - b) by omega]
theorem fac_point {D : Nat → Nat} {n H a b c : Nat} (hc : a + b + c = H) (hn : n = H + H) :
    (∀ i, i < H → D (H + i) = (D (if i < a then a - 1 - i else if i < a + b then a + b - 1 - (i - a) else H - 1 - (i - a - b)) + 2) % 4) ↔ Fac n D a b c := by
  constructor
  · intro all
    refine ⟨by omega, fun d hd => ?_, fun d hd => ?_, fun d hd => ?_⟩
    · have := all d (by omega)
      rw [if_pos hd] at this
      rw [hc, this, Nat.zero_add]
    · have := all (a + d) (by omega)
      rw [if_neg (by omega), if_pos (by omega), show a + b - 1 - (a + d - a) = a + b - 1 - d by omega] at this
      rw [hc, show H + a + d = H + (a + d) by omega, this]
    · have := all (a + b + d) (by omega)
      rw [if_neg (by omega), if_neg (by omega), show H - 1 - (a + b + d - a - b) = a + b + c - 1 - d by omega] at this
      rw [hc, show H + a + b + d = H + (a + b + d) by omega, this, hc]
  · intro F i hi
    have fa := F.A
    have fb := F.B
    have fc := F.C
    rw [hc] at fa fb fc
    by_cases h1 : i < a
    · rw [if_pos h1]
      have := fa i h1
      rwa [Nat.zero_add] at this
    · rw [if_neg h1]
      by_cases h2 : i < a + b
      · rw [if_pos h2]
        have := fb (i - a) (by omega)
        rwa [show H + a + (i - a) = H + i by omega] at this
      · rw [if_neg h2]
        have := fc (i - a - b) (by omega)
        rwa [show H + a + b + (i - a - b) = H + i by omega, show a + b + c - 1 - (i - a - b) = H - 1 - (i - a - b) by omega] at this
theorem fT_fac {s : ByteArray} (h : isO s = true) {k a b : Nat} (hk : k < s.size) (hab : a + b ≤ s.size / 2) :
    fT (rotF s k) (s.size / 2) a b = true ↔ Fac s.size (fun i => gD s (k + i)) a b (s.size / 2 - a - b) := by
  have hev := size_even h
  have hw := rot_W (isO_W h) (Nat.le_of_lt hk)
  have hts := rot_size s (Nat.le_of_lt hk)
  have hg := fun {i : Nat} (hi : i < s.size) => gD_rot h hk hi
  generalize hh : s.size / 2 = H at *
  obtain ⟨c, hc⟩ : ∃ c, a + b + c = H := ⟨H - a - b, by omega⟩
  rw [show H - a - b = c by omega, ← fac_point hc hev]
  generalize rotF s k = t at *
  have hHt : H ≤ t.size := by omega
  have hsz : (t.extract H t.size).size = H := by rw [ByteArray.size_extract]; omega
  have hsz2 : (backF (t.extract 0 a) ++ backF (t.extract a (a + b)) ++ backF (t.extract (a + b) H)).size = H := by
    rw [ByteArray.size_append, ByteArray.size_append, back_size, back_size, back_size, ByteArray.size_extract, ByteArray.size_extract, ByteArray.size_extract]
    omega
  have point : ∀ i, i < H → (bt (t.extract H t.size) i = bt (backF (t.extract 0 a) ++ backF (t.extract a (a + b)) ++ backF (t.extract (a + b) H)) i ↔
      gD s (k + (H + i)) = (gD s (k + (if i < a then a - 1 - i else if i < a + b then a + b - 1 - (i - a) else H - 1 - (i - a - b))) + 2) % 4) := fun i hi => by
    have hb3 := back3_bt hw hc hHt hi
    have hq : (if i < a then a - 1 - i else if i < a + b then a + b - 1 - (i - a) else H - 1 - (i - a - b)) < s.size := by clear hb3 hg; (repeat' split) <;> omega
    generalize (if i < a then a - 1 - i else if i < a + b then a + b - 1 - (i - a) else H - 1 - (i - a - b)) = q at hb3 hq ⊢
    have hHi : H + i < s.size := by clear hb3 hg; omega
    have hHi2 : H + i < t.size := by rw [hts]; exact hHi
    obtain ⟨e1, l1⟩ := hg hHi
    obtain ⟨e2, l2⟩ := hg hq
    rw [hb3, bt_cut t H t.size i hHi2 (Nat.le_refl _), e1, e2, ← cd_back l2]
    exact ⟨fun q => by rw [q], fun q => cd_inj l1 (ex_back l2).2 q⟩
  unfold fT
  rw [decide_eq_true_eq]
  constructor
  · intro e i hi
    exact (point i hi).1 (by rw [e])
  · intro F
    refine bytes_ext (by rw [hsz, hsz2]) fun i hi => ?_
    rw [hsz] at hi
    exact (point i hi).2 (F i hi)
theorem fB_mem {s : ByteArray} {k a b : Nat} (hb : 1 ≤ b) (hf : fT (rotF s k) (s.size / 2) a b = true) : ∀ {m}, b ≤ m → (k, a, b, s.size / 2 - a - b) ∈ fB s k a m
  | 0, h => by omega
  | m + 1, h => by
    rw [fB, List.mem_append]
    by_cases e : b = m + 1
    · right
      rw [← e, if_pos hf]
      exact List.mem_singleton.2 rfl
    · exact .inl (fB_mem hb hf (by omega))
theorem fA_mem {s : ByteArray} {k a b : Nat} (ha : 1 ≤ a) (hb : 1 ≤ b) (hb2 : b ≤ s.size / 2 - a) (hf : fT (rotF s k) (s.size / 2) a b = true) : ∀ {m}, a ≤ m → (k, a, b, s.size / 2 - a - b) ∈ fA s k m
  | 0, h => by omega
  | m + 1, h => by
    rw [fA, List.mem_append]
    by_cases e : a = m + 1
    · subst e
      exact .inr (fB_mem hb hf hb2)
    · exact .inl (fA_mem ha hb hb2 hf (by omega))
theorem facs_mem {s : ByteArray} {k a b : Nat} (hk : k < s.size) (ha : 1 ≤ a) (ha2 : a ≤ s.size / 2 - 1) (hb : 1 ≤ b) (hb2 : b ≤ s.size / 2 - a) (hf : fT (rotF s k) (s.size / 2) a b = true) : (k, a, b, s.size / 2 - a - b) ∈ facs s := by
  unfold facs
  have : ∀ {m}, k < m → (k, a, b, s.size / 2 - a - b) ∈ fK s m := fun {m} => by
    induction m with
    | zero => intro h; omega
    | succ m ih =>
      intro h
      rw [fK, List.mem_append]
      by_cases e : k = m
      · subst e
        exact .inr (fA_mem ha hb hb2 hf ha2)
      · exact .inl (ih (by omega))
  exact this hk
theorem facs_iff {s : ByteArray} (h : isO s = true) : facs s ≠ [] ↔ ∃ k a b c, k < s.size ∧ 1 ≤ a ∧ 1 ≤ b ∧ Fac s.size (fun i => gD s (k + i)) a b c := by
  have hev := size_even h
  constructor
  · intro hne
    obtain ⟨x, hx⟩ := List.exists_mem_of_ne_nil _ hne
    obtain ⟨k, a, b, h1, h2, h3, h4, h5, h6, rfl⟩ := mem_facs hx
    exact ⟨k, a, b, _, h1, h2, h4, (fT_fac h h1 (by omega)).1 h6⟩
  · rintro ⟨k, a, b, c, hk, ha, hb, F⟩
    have := F.n2
    intro e
    have hc : c = s.size / 2 - a - b := by omega
    rw [hc] at F
    have hm := facs_mem hk ha (by omega) hb (by omega) ((fT_fac h hk (by omega)).2 F)
    rw [e] at hm
    cases hm
theorem tmod_iff (z D : Int) : Int.tmod z D = 0 ↔ D ∣ z := ⟨Int.dvd_of_tmod_eq_zero, Int.tmod_eq_zero_of_dvd⟩
theorem hits_lat {x y : Nat → Int} {v0 v1 u0 u1 D : Int} (hD : v0 * u1 - v1 * u0 = D) (h0 : D ≠ 0) (i j : Nat) : hits x y v0 v1 u0 u1 D i j = true ↔ Lat v0 v1 u0 u1 (x i - x j) (y i - y j) := by
  rw [lat_iff (by rw [hD]; exact h0), hD]
  unfold hits
  rw [Bool.and_eq_true, beq_iff_eq, beq_iff_eq, tmod_iff, tmod_iff]
theorem pt_mem {l : List (Int × Int)} {i : Nat} (hi : i < l.length) : (pX l i, pY l i) = l[i] := by
  unfold pX pY
  rw [List.getD_eq_getElem?_getD, List.getElem?_eq_getElem hi]
  rfl
theorem cell_at {s : ByteArray} (h : isO s = true) {i : Nat} (hi : i < (rcl s).length) : gW s (pX (rcl s) i) (pY (rcl s) i) = 1 := by
  rw [← mem_cells h, pt_mem hi]
  exact List.getElem_mem _
theorem cell_ne {s : ByteArray} {i j : Nat} (hi : i < (rcl s).length) (hj : j < i) : ¬ (pX (rcl s) i = pX (rcl s) j ∧ pY (rcl s) i = pY (rcl s) j) := by
  rintro ⟨a, b⟩
  have hn := cells_nodup s
  have e : (rcl s)[i] = (rcl s)[j] := by rw [← pt_mem hi, ← pt_mem (Nat.lt_trans hj hi), a, b]
  have := (List.pairwise_iff_getElem.1 hn) j i (by omega) hi hj
  exact this e.symm
theorem cell_of {s : ByteArray} (h : isO s = true) {x y : Int} (hw : gW s x y = 1) : ∃ i, i < (rcl s).length ∧ pX (rcl s) i = x ∧ pY (rcl s) i = y := by
  obtain ⟨i, hi, e⟩ := List.getElem_of_mem ((mem_cells h x y).2 hw)
  have := pt_mem hi
  rw [e] at this
  injection this with a b
  exact ⟨i, hi, a, b⟩
theorem fac_fills {s : ByteArray} (h : isO s = true) {k a b c : Nat} (F : Fac s.size (fun i => gD s (k + i)) a b c) :
    (gX s (k + (a + b)) - gX s (k + 0)) * (gY s (k + (a + b + c)) - gY s (k + a)) - (gY s (k + (a + b)) - gY s (k + 0)) * (gX s (k + (a + b + c)) - gX s (k + a)) = (rcl s).length ∧
    ∀ x y x' y', gW s x y = 1 → gW s x' y' = 1 → Lat (gX s (k + (a + b)) - gX s (k + 0)) (gY s (k + (a + b)) - gY s (k + 0)) (gX s (k + (a + b + c)) - gX s (k + a)) (gY s (k + (a + b + c)) - gY s (k + a)) (x' - x) (y' - y) → x = x' ∧ y = y' := by
  have Lp := loop_of h
  have Ls := Lp.shift k
  have hB : Box 25 (fun i => gX s (k + i)) (fun i => gY s (k + i)) := fun i => box_of h _
  have har : (S s.size fun i => gX s (k + i) * uy (gD s (k + i))) = S s.size fun i => gX s i * uy (gD s i) := S_rot (f := fun i => gX s i * uy (gD s i)) (fun i => by rw [Lp.px, Lp.pd]) k
  have hA : 0 < S s.size fun i => (fun i => gX s (k + i)) i * uy ((fun i => gD s (k + i)) i) := by
    show 0 < S s.size fun i => gX s (k + i) * uy (gD s (k + i))
    rw [har]
    exact area_pos h
  have e := Ls.easy hB hA F
  have d := Ls.fac_area F
  refine ⟨?_, fun x y x' y' h1 h2 h3 => e x y x' y' ?_ ?_ h3⟩
  · rw [cells_count h]
    refine Eq.trans (b := S s.size fun i => gX s (k + i) * uy (gD s (k + i))) d ?_
    rw [har]
    exact (Lp.area (box_of h)).symm
  · rw [Lp.W_rot]; exact h1
  · rw [Lp.W_rot]; exact h2
theorem cells_pos {s : ByteArray} (h : isO s = true) : 0 < (rcl s).length := by
  have := area_pos h
  have e := (loop_of h).area (box_of h)
  have c := cells_count h
  unfold gW at c
  omega
theorem tile_iff {s : ByteArray} (h : isO s = true) : facs s ≠ [] ↔ ∃ wd m, rowsFill (pX (rcl s)) (pY (rcl s)) (rcl s).length wd m := by
  rw [facs_iff h]
  have hpos := cells_pos h
  constructor
  · rintro ⟨k, a, b, c, hk, ha, hb, F⟩
    obtain ⟨hd, hno⟩ := fac_fills h F
    obtain ⟨wd, hh, m, e1, w0, h0, m0, m1, hl⟩ := lat_form _ _ _ _ _ (Nat.le_refl _) (show (gX s (k + (a + b)) - gX s (k + 0)) * (gY s (k + (a + b + c)) - gY s (k + a)) - (gY s (k + (a + b)) - gY s (k + 0)) * (gX s (k + (a + b + c)) - gX s (k + a)) ≠ 0 by rw [hd]; omega)
    rw [hd] at e1
    have e2 : wd * hh = (rcl s).length := by omega
    have hdiv : (rcl s).length / wd = hh := by rw [← e2]; exact Nat.mul_div_cancel_left _ w0
    refine ⟨wd, m.toNat, by omega, ?_, by omega, ?_, fun i j hi hj => ?_⟩
    · rw [← e2]
      exact Nat.le_mul_of_pos_right _ h0
    · rw [← e2]
      exact Nat.mul_mod_right _ _
    · rw [Bool.eq_false_iff]
      intro q
      rw [hdiv, show ((m.toNat : Nat) : Int) = m by omega] at q
      rw [hits_lat (by rw [← e2, Int.natCast_mul]; omega) (by omega), ← hl] at q
      exact cell_ne hi hj ((fun z => ⟨z.1.symm, z.2.symm⟩) (hno _ _ _ _ (cell_at h (Nat.lt_trans hj hi)) (cell_at h hi) q))
  · rintro ⟨wd, m, w1, w2, w3, w4, w5⟩
    have e2 : wd * ((rcl s).length / wd) = (rcl s).length := Nat.mul_div_cancel' (Nat.dvd_of_mod_eq_zero w4)
    generalize hn : (rcl s).length / wd = hh at *
    have h0 : 0 < hh := by
      rcases Nat.eq_zero_or_pos hh with q | q
      · rw [q, Nat.mul_zero] at e2; omega
      · exact q
    refine (loop_of h).hard (box_of h) (left_one h) (wd := wd) (h := hh) (s := m) (by omega) h0 ?_ ?_
    · have := cells_count h
      rw [← e2] at this
      exact this.symm
    · intro x y x' y' hx hx' hl
      rw [latB_iff (by omega) (by omega)] at hl
      obtain ⟨i, hi, rfl, rfl⟩ := cell_of h hx
      obtain ⟨j, hj, rfl, rfl⟩ := cell_of h hx'
      rcases Nat.lt_trichotomy i j with q | q | q
      · exfalso
        have := w5 j i hj q
        rw [(hits_lat (by rw [← e2, Int.natCast_mul]; omega) (by omega) j i).2 hl] at this
        cases this
      · rw [q]; exact ⟨rfl, rfl⟩
      · exfalso
        have := w5 i j hi q
        rw [(hits_lat (by rw [← e2, Int.natCast_mul]; omega) (by omega) i j).2 (by
          have g := (grid_of (v0 := (wd : Int)) (v1 := 0) (u0 := (m : Int)) (u1 := (hh : Int)) fun x y => latB_iff (wd := (wd : Int)) (h := (hh : Int)) (s := (m : Int)) (by omega) (by omega) x y).neg _ _ ((latB_iff (by omega) (by omega) _ _).2 hl)
          rw [latB_iff (by omega) (by omega)] at g
          rwa [Int.neg_sub, Int.neg_sub] at g)] at this
        cases this
end Go.Proofs.YtpfenoioeajkmaaDoor.L
end

section
set_option linter.unusedVariables false
set_option linter.unusedSimpArgs false
namespace Go.Proofs.YtpfenoioeajkmaaDoor.X
open Go.RowKit Go.Proofs.YtpfenoioeajkmaaDoorW.PrintWords Go.Proofs.YtpfenoioeajkmaaDoorW.PrintLast Go.Proofs.YtpfenoioeajkmaaDoorW.PrintMore Go.Proofs.YtpfenoioeajkmaaDoor.L
theorem rcl_calls (s : ByteArray) (hs24 : s.size ≤ 24) (w : World) :
    Calls Tryd.prog 50 #[.string s] w fun e w' => (∃ v, e = .returned v ∧ OwnP w.heap.size 29 w' v (rcl s)) ∧ Below w.heap.size w w' := by
  unfold rcl
  exact rCells_calls s hs24 w
theorem cell_box {s : ByteArray} (h : isO s = true) (i : Nat) (hi : i < (rcl s).length) : -100 ≤ pX (rcl s) i ∧ pX (rcl s) i ≤ 100 ∧ -100 ≤ pY (rcl s) i ∧ pY (rcl s) i ≤ 100 := by
  have := gW_in h (cell_at h hi)
  omega
theorem rTile_yes (s : ByteArray) (h : isO s = true) (w : World) : Calls Tryd.prog 31 #[.string s] w fun e w' => e = .returned (.bool (decide (0 < ((facs s).length : Int)))) ∧ Below w.heap.size w w' := by
  have hl := cells_le h
  refine rTile_calls s (rcl s) (by omega) (cell_box h) (rcl_calls s (isW_le (isO_W h))) _ ?_ w
  rw [decide_eq_true_eq, ← tile_iff h]
  cases facs s with
  | nil => simp
  | cons x l => simp
set_option maxHeartbeats 4000000 in
set_option maxRecDepth 100000 in
theorem Tiles_no (a s : ByteArray) (w : World) (ha : a.size ≤ 140737488351232) (hs : s.size ≤ 1000) (ht : ∀ w, Calls Tryd.prog 18 #[.string a] w fun e w' => e = .returned (.string s) ∧ Below w.heap.size w w') (h : isO s = false) (h' : isO a = false) :
    Calls Tryd.prog 6 #[.string a] w fun e w' => e = .returned (.bool true) ∧ Below w.heap.size w w' := by
  have HT := Lib.hid ht
  have HA := Lib.hid (Tile_no s hs h)
  have HI := Lib.hid (ris_calls a ha)
  rw [h'] at HI
  clear ht h hs h' ha
  go_enter Tryd.func6, Tryd.ntmps6
  go_wp2_with fail
  refine (HT.out _).mono ?_
  rintro e w1 ⟨rfl, hb1⟩
  have H1 := Lib.hid ((Below.refl w.heap.size w).trans (hb1.mono (Below.refl w.heap.size w).size))
  clear hb1
  go_wp2_with fail
  refine (HA.out _).mono ?_
  rintro e w2 ⟨rfl, hb2⟩
  have H2 := Lib.hid (H1.out.trans (hb2.mono H1.out.size))
  clear hb2
  go_wp2_with fail
  refine (HI.out _).mono ?_
  rintro e w3 ⟨rfl, hb3⟩
  have H3 := Lib.hid (H2.out.trans (hb3.mono H2.out.size))
  clear hb3
  go_wp2_with fail
  refine (awake_ok _).mono ?_
  rintro e w4 ⟨rfl, hb4⟩
  have H4 := Lib.hid (H3.out.trans (hb4.mono H3.out.size))
  clear hb4
  go_wp2
  go_ret
  exact ⟨rfl, H4.out⟩
set_option maxHeartbeats 4000000 in
set_option maxRecDepth 100000 in
theorem Tiles_yes (s : ByteArray) (w : World) (h : isO s = true) :
    Calls Tryd.prog 6 #[.string s] w fun e w' => e = .returned (.bool true) ∧ Below w.heap.size w w' := by
  have hs24 := isW_le (isO_W h)
  have HT := Lib.hid (text_ok (isO_W h))
  have HA := Lib.hid (Tile_yes s h)
  have HB := Lib.hid (rTile_yes s h)
  have HI := Lib.hid (ris_calls s (by omega))
  rw [h] at HI
  generalize decide (0 < ((facs s).length : Int)) = B at HA HB
  clear h hs24
  cases B <;> (
    go_enter Tryd.func6, Tryd.ntmps6
    go_wp2_with fail
    refine (HT.out _).mono ?_
    rintro e w1 ⟨rfl, hb1⟩
    have H1 := Lib.hid ((Below.refl w.heap.size w).trans (hb1.mono (Below.refl w.heap.size w).size))
    clear hb1
    go_wp2_with fail
    refine (HA.out _).mono ?_
    rintro e w2 ⟨rfl, hb2⟩
    have H2 := Lib.hid (H1.out.trans (hb2.mono H1.out.size))
    clear hb2
    go_wp2_with fail
    refine (HI.out _).mono ?_
    rintro e w3 ⟨rfl, hb3⟩
    have H3 := Lib.hid (H2.out.trans (hb3.mono H2.out.size))
    clear hb3
    go_wp2_with fail
    refine (HB.out _).mono ?_
    rintro e w4 ⟨rfl, hb4⟩
    have H4 := Lib.hid (H3.out.trans (hb4.mono H3.out.size))
    clear hb4
    go_wp2_with fail
    refine (awake_ok _).mono ?_
    rintro e w5 ⟨rfl, hb5⟩
    have H5 := Lib.hid (H4.out.trans (hb5.mono H4.out.size))
    clear hb5
    go_wp2
    go_ret
    exact ⟨rfl, H5.out⟩)
theorem MouldsTiles.calls (s : ByteArray) (w : World) (hs : s.size ≤ 140737488351232) :
    Calls Tryd.prog 6 #[.string s] w fun e w' => e = .returned (.bool true) ∧ Below w.heap.size w w' := by
  cases h : isO s with
  | false => exact Tiles_no s (txt s) w hs (by have := txt_le s; omega) (text_any s) (by rw [txt_O]; exact h) h
  | true => exact Tiles_yes s w h
end Go.Proofs.YtpfenoioeajkmaaDoor.X
end
