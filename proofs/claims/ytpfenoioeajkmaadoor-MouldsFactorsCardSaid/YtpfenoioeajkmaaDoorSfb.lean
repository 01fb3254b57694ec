/- Texts of this claim, merged by a program (wip/tools/shake.py); what nothing names is left out. -/
import Derived.RangeFuncFrom
import Derived.Test.YtpfenoioeajkmaaDoorSfa
section
set_option linter.unusedVariables false
set_option linter.unusedSimpArgs false
namespace Go.Proofs.YtpfenoioeajkmaaDoor.X
open Go.RowKit Go.Proofs.YtpfenoioeajkmaaDoorW.PrintWords Go.Proofs.YtpfenoioeajkmaaDoorW.PrintLast Go.Proofs.YtpfenoioeajkmaaDoorW.PrintMore Go.Proofs.YtpfenoioeajkmaaDoor.L
abbrev Fct := Nat × Nat × Nat × Nat
def encF (f : Fct) : Value := .agg #[.int .i64 f.1, .int .i64 f.2.1, .int .i64 f.2.2.1, .int .i64 f.2.2.2]
def fT (t : ByteArray) (h a b : Nat) : Bool := decide (t.extract h t.size = backF (t.extract 0 a) ++ backF (t.extract a (a + b)) ++ backF (t.extract (a + b) h))
def fB (s : ByteArray) (k a : Nat) : Nat → List Fct
  | 0 => []
  | m + 1 => fB s k a m ++ if fT (rotF s k) (s.size / 2) a (m + 1) then [(k, a, m + 1, s.size / 2 - a - (m + 1))] else []
def fA (s : ByteArray) (k : Nat) : Nat → List Fct
  | 0 => []
  | m + 1 => fA s k m ++ fB s k (m + 1) (s.size / 2 - (m + 1))
def fK (s : ByteArray) : Nat → List Fct
  | 0 => []
  | k + 1 => fK s k ++ fA s k (s.size / 2 - 1)
def facs (s : ByteArray) : List Fct := fK s s.size
theorem fB_pre (s : ByteArray) (k a : Nat) : ∀ {m m' : Nat}, m ≤ m' → fB s k a m <+: fB s k a m'
  | m, 0, h => by obtain rfl : m = 0 := by omega
                  exact List.prefix_refl _
  | m, m' + 1, h => by
    by_cases e : m = m' + 1
    · rw [e]; exact List.prefix_refl _
    · exact (fB_pre s k a (by omega)).trans (List.prefix_append _ _)
theorem fA_pre (s : ByteArray) (k : Nat) : ∀ {m m' : Nat}, m ≤ m' → fA s k m <+: fA s k m'
  | m, 0, h => by obtain rfl : m = 0 := by omega
                  exact List.prefix_refl _
  | m, m' + 1, h => by
    by_cases e : m = m' + 1
    · rw [e]; exact List.prefix_refl _
    · exact (fA_pre s k (by omega)).trans (List.prefix_append _ _)
theorem fK_pre (s : ByteArray) : ∀ {m m' : Nat}, m ≤ m' → fK s m <+: fK s m'
  | m, 0, h => by obtain rfl : m = 0 := by omega
                  exact List.prefix_refl _
  | m, m' + 1, h => by
    by_cases e : m = m' + 1
    · rw [e]; exact List.prefix_refl _
    · exact (fK_pre s (by omega)).trans (List.prefix_append _ _)
theorem pre_app {α : Type} (l : List α) {x y : List α} (h : x <+: y) : l ++ x <+: l ++ y := by
  obtain ⟨z, rfl⟩ := h
  exact ⟨z, by rw [List.append_assoc]⟩
theorem all_pre {s : ByteArray} {k m b : Nat} (hk : k < s.size) (hm : m + 1 ≤ s.size / 2 - 1) (hb : b ≤ s.size / 2 - (m + 1)) : fK s k ++ fA s k m ++ fB s k (m + 1) b <+: facs s := by
  have h1 : fA s k m ++ fB s k (m + 1) b <+: fA s k (m + 1) := pre_app _ (fB_pre s k (m + 1) hb)
  have h2 : fK s k ++ (fA s k m ++ fB s k (m + 1) b) <+: fK s (k + 1) := pre_app _ (h1.trans (fA_pre s k hm))
  rw [List.append_assoc]
  exact h2.trans (fK_pre s (by omega))
theorem fB_step (s : ByteArray) (k a : Nat) {b : Nat} (hb : 1 ≤ b) : fB s k a b = fB s k a (b - 1) ++ if fT (rotF s k) (s.size / 2) a b then [(k, a, b, s.size / 2 - a - b)] else [] := by
  obtain ⟨m, rfl⟩ : ∃ m, b = m + 1 := ⟨b - 1, by omega⟩
  rfl
theorem fA_step (s : ByteArray) (k : Nat) {a : Nat} (ha : 1 ≤ a) : fA s k a = fA s k (a - 1) ++ fB s k a (s.size / 2 - a) := by
  obtain ⟨m, rfl⟩ : ∃ m, a = m + 1 := ⟨a - 1, by omega⟩
  rfl
theorem yes_step {s t : ByteArray} {k a b h : Nat} (hf : fT t h a b = true) (hrt : rotF s k = t) (hh : s.size / 2 = h) (hb : 1 ≤ b) :
    fK s k ++ fA s k (a - 1) ++ fB s k a (b - 1) ++ [(k, a, b, h - a - b)] = fK s k ++ fA s k (a - 1) ++ fB s k a (b + 1 - 1) := by
  rw [show b + 1 - 1 = b by omega, fB_step s k a hb, hrt, hh, if_pos hf, List.append_assoc]
theorem no_step {s t : ByteArray} {k a b h : Nat} (hf : fT t h a b = false) (hrt : rotF s k = t) (hh : s.size / 2 = h) (hb : 1 ≤ b) :
    fK s k ++ fA s k (a - 1) ++ fB s k a (b - 1) = fK s k ++ fA s k (a - 1) ++ fB s k a (b + 1 - 1) := by
  rw [show b + 1 - 1 = b by omega, fB_step s k a hb, hrt, hh, hf, if_neg (by decide), List.append_nil]
theorem row_step {s : ByteArray} {k a b c h : Nat} (hh : s.size / 2 = h) (ha : 1 ≤ a) (hb : 1 ≤ b) (hb2 : b ≤ h - a + 1) (hc : a + b = c) (hn : ¬ c ≤ h) (hah : a < h) :
    fK s k ++ fA s k (a - 1) ++ fB s k a (b - 1) = fK s k ++ fA s k (a + 1 - 1) := by
  rw [show a + 1 - 1 = a by omega, fA_step s k ha, hh, show b - 1 = h - a by omega, List.append_assoc]
theorem yes_pre {s t : ByteArray} {k a b c h : Nat} (hf : fT t h a b = true) (hrt : rotF s k = t) (hh : s.size / 2 = h) (ha : 1 ≤ a) (hb : 1 ≤ b) (hc : a + b = c) (hn : c ≤ h) (hah : a < h) (hk : k < s.size) :
    fK s k ++ fA s k (a - 1) ++ fB s k a (b - 1) ++ [(k, a, b, h - a - b)] <+: facs s := by
  rw [yes_step hf hrt hh hb, show b + 1 - 1 = b by omega]
  obtain ⟨m, rfl⟩ : ∃ m, a = m + 1 := ⟨a - 1, by omega⟩
  rw [show m + 1 - 1 = m by omega]
  exact all_pre hk (by rw [hh]; omega) (by rw [hh]; omega)
theorem yes_len {s t : ByteArray} {k a b c h : Nat} (hf : fT t h a b = true) (hrt : rotF s k = t) (hh : s.size / 2 = h) (ha : 1 ≤ a) (hb : 1 ≤ b) (hc : a + b = c) (hn : c ≤ h) (hah : a < h) (hk : k < s.size) :
    (fK s k ++ fA s k (a - 1) ++ fB s k a (b - 1)).length < (facs s).length := by
  have := (yes_pre hf hrt hh ha hb hc hn hah hk).length_le
  rw [List.length_append] at this
  simp only [List.length_singleton] at this
  omega
theorem wrap_succ {a : Nat} (h : a ≤ 100) : wrap64 ((a : Int) + 1) = ((a + 1 : Nat) : Int) := by unfold wrap64; omega
theorem beq_lists {a b : ByteArray} {r : Bool} (h : decide (a = b) = r) : (a.toList = b.toList) = (r = true) := by
  rw [ByteArray.toList_eq, ByteArray.toList_eq]
  cases r with
  | true =>
    have := of_decide_eq_true h
    simp [this]
  | false =>
    simp only [Bool.false_eq_true, eq_iff_iff, iff_false]
    intro q
    have e : a = b := by
      cases a
      cases b
      simp only [ByteArray.mk.injEq]
      exact Array.toList_inj.1 q
    exact of_decide_eq_false h e
theorem grown_of_below {W W' : World} (h : Below W.heap.size W W') : W.grownBy W' none := ⟨h.os, h.tape, h.output, h.size, fun k hk _ => h.block k hk⟩
def KpF (Bn : Nat) (s : ByteArray) (A B : World) : Prop := (A.cell? ⟨Bn, 0, none⟩ = some (.string s) → B.cell? ⟨Bn, 0, none⟩ = some (.string s)) ∧ KeepsWalks A B
theorem rot_size (s : ByteArray) {k : Nat} (hk : k ≤ s.size) : (rotF s k).size = s.size := by
  unfold rotF
  rw [ByteArray.size_append, ByteArray.size_extract, ByteArray.size_extract]
  omega
theorem bt_app (a b : ByteArray) (i : Nat) (hi : i < (a ++ b).size) : bt (a ++ b) (i : Int) = if i < a.size then bt a (i : Int) else bt b ((i - a.size : Nat) : Int) := by
  rw [← bt_at (a ++ b) (i : Int) (by simpa using hi)]
  by_cases h : i < a.size
  · rw [if_pos h, ← bt_at a (i : Int) (by simpa using h)]
    have : (a ++ b)[i]'hi = a[i]'h := ByteArray.getElem_append_left h
    show (((a ++ b)[i]'hi).toNat : Int) = ((a[i]'h).toNat : Int)
    rw [this]
  · have hb : i - a.size < b.size := by rw [ByteArray.size_append] at hi; omega
    rw [if_neg h, ← bt_at b ((i - a.size : Nat) : Int) (by simpa using hb)]
    have : (a ++ b)[i]'hi = b[i - a.size]'hb := ByteArray.getElem_append_right (by omega)
    show (((a ++ b)[i]'hi).toNat : Int) = ((b[i - a.size]'hb).toNat : Int)
    rw [this]
theorem rot_bt (s : ByteArray) {k : Nat} (hk : k ≤ s.size) (i : Nat) (hi : i < s.size) : bt (rotF s k) i = bt s (if i < s.size - k then k + i else i - (s.size - k) : Nat) := by
  have h := rot_size s hk
  unfold rotF at h ⊢
  have h1 : (s.extract k s.size).size = s.size - k := by rw [ByteArray.size_extract]; omega
  rw [bt_app _ _ i (by rw [h]; exact hi), h1]
  by_cases hlt : i < s.size - k
  · rw [if_pos hlt, if_pos hlt, bt_cut s k s.size i (by omega) (Nat.le_refl _)]
  · rw [if_neg hlt, if_neg hlt, bt_cut s 0 k (i - (s.size - k)) (by omega) hk, Nat.zero_add]
theorem rot_W {s : ByteArray} (h : isW s = true) {k : Nat} (hk : k ≤ s.size) : isW (rotF s k) = true := by
  have hs := rot_size s hk
  rw [isW_iff] at h ⊢
  refine ⟨by rw [hs]; exact h.1, fun i hi => ?_⟩
  rw [hs] at hi
  rw [rot_bt s hk i hi]
  refine h.2 _ ?_
  split <;> omega
theorem back_W' {s : ByteArray} (h : isW s = true) (w : World) : Calls Tryd.prog 53 #[.string s] w fun e w' => e = .returned (.string (backF s)) ∧ Below w.heap.size w w' := moulds_back.calls s _ w (back_f h)
set_option maxHeartbeats 8000000 in
set_option maxRecDepth 100000 in
theorem factors1_in (n l Bn : Nat) (s : ByteArray) (hw : isW s = true) (J Jx : List Fct → World → Prop) (W : World) (hJ : AbidesFrom W.heap.size J)
    (hY : ∀ pre x W1, J pre W1 → pre.length < (facs s).length → YieldAt Fence.wide (n - 1) Tryd.prog l #[encF x] W1 fun e W' => (e = .returned (.bool true) ∧ J (pre ++ [x]) W' ∧ KpF Bn s W1 W') ∨ (e = .returned (.bool false) ∧ Jx (pre ++ [x]) W'))
    (hc : W.cell? ⟨Bn, 0, none⟩ = some (.string s)) (h0 : J [] W) :
    Calls Tryd.prog 77 #[.func (.yield l) #[] #[], .pointer (some ⟨Bn, 0, none⟩)] W fun e W' => (∃ v, e = .returned v) ∧ ((∃ xs, xs = facs s ∧ J xs W') ∨ (∃ pre, pre <+: facs s ∧ Jx pre W')) := by
  have hs24 := isW_le hw
  have hBnW : Bn < W.heap.size := World.block_lt_of_cell? _ _ hc
  have HW := Lib.hid hw
  have HA := Lib.hid (ascii_of ((isW_iff s).1 hw).2)
  have HJ := Lib.hid hJ
  have HY := Lib.hid hY
  clear hw hJ hY
  go_enter Tryd.func77, Tryd.ntmps77
  go_wp2_with fail
  have hit : (W.iter s 0).heap[W.heap.size]? = some (.stringIter s 0) := World.iter_heap W s 0
  have hbl : Below W.heap.size W (W.iter s 0) := (Below.refl _ _).alloc (Nat.le_refl _) _
  have hc1 : (W.iter s 0).cell? ⟨Bn, 0, none⟩ = some (.string s) := (hbl.cell (p := ⟨Bn, 0, none⟩) (World.block_lt_of_cell? _ _ hc)).trans hc
  have h01 := HJ.out [] W (W.iter s 0) none h0 (grown_of_below hbl) (fun r e => by cases e)
  have hsz1 := hbl.size
  generalize W.iter s 0 = w1 at hit hbl hc1 h01 hsz1 ⊢
  have HI := Lib.hid hit
  have HJ0 := Lib.hid h01
  have HC := Lib.hid hc1
  have HZ := Lib.hid hsz1
  generalize hB : W.heap.size = B at *
  clear hit hbl hc1 h01 hc h0 hsz1
  have hq : ((s.size : Int).tdiv 2) = ((s.size / 2 : Nat) : Int) := Int.ofNat_tdiv _ 2
  have hq2 : ((s.size : Int) / 2) = ((s.size / 2 : Nat) : Int) := by omega
  have hhs : s.size / 2 ≤ s.size := by omega
  generalize hh : s.size / 2 = h at *
  have HH := Lib.hid hh
  clear hh
  (try simp only [hq])
  (try simp only [hq2])
  clear hq hq2
  go_loopw [4] (fun _ wr => ∃ k : Nat, k ≤ s.size ∧ Hid (wr.heap[B]? = some (.stringIter s k)) ∧ Hid (wr.cell? ⟨Bn, 0, none⟩ = some (.string s)) ∧ Hid (J (fK s k) wr) ∧ Hid (B ≤ wr.heap.size)) (fun _ wr => match wr.heap[B]? with | some (.stringIter _ p) => s.size - p | _ => 0)
  case atStart => exact ⟨0, by omega, HI, HC, HJ0, HZ⟩
  case round =>
    clear HI HC HJ0 HZ
    obtain ⟨k, hk, HI, HC, HJ0, HZ⟩ := hrel
    have HI0 := HI
    by_cases hlt : k < s.size
    · have hnx := fun ty => run_next_at (P := Tryd.prog) HI.out hlt (ascii_at HA.out hlt) ty
      have hit2 : (putObj wr B (.stringIter s (k + 1))).heap[B]? = some (.stringIter s (k + 1)) := putObj_at HI.out
      have hg2 : wr.grownBy (putObj wr B (.stringIter s (k + 1))) (some B) := Go.grownBy_putObj' wr B (.stringIter s (k + 1))
      have hc2 := cell_grown hg2 HC.out (by simp; omega)
      have hJ2 := HJ.out _ _ _ _ HJ0.out hg2 (fun r e => by cases e; exact ⟨Nat.le_refl _, _, HI.out, rfl⟩)
      have HSZ := Lib.hid (show B ≤ (putObj wr B (.stringIter s (k + 1))).heap.size from Nat.le_trans HZ.out hg2.size)
      go_wp2_with fail
      clear hnx
      generalize putObj wr B (.stringIter s (k + 1)) = w2 at hit2 hc2 hJ2 HSZ ⊢
      clear hg2
      have HI2 := Lib.hid hit2
      have HC2 := Lib.hid hc2
      have HJ2 := Lib.hid hJ2
      clear hit2 hJ2 HI HC HJ0 HZ
      generalize hrt : rotF s k = t at *
      have hrt' : s.extract k s.size ++ s.extract 0 k = t := hrt
      have hts : t.size = s.size := by rw [← hrt]; exact rot_size s hk
      have htw : isW t = true := by rw [← hrt]; exact rot_W HW.out hk
      have HT := Lib.hid htw
      have HRT := Lib.hid hrt
      clear hrt htw
      have hsk : ¬ ((k : Int) < 0) := by omega
      have hsz : (9223372036854775807 < s.size) = False := by simp; omega
      refine start_ (n := 8) (S := fun w' => w'.cell? ⟨Bn, 0, none⟩ = some (.string s) ∧ True) (ds := []) #[false, false, false, false, false, false, false, false] (by kernel_rfl) rfl rfl ⟨hc2, trivial⟩ (fun hHeld => ?_)
      refine take_ (i := 0) (N := (some 16)) (v := ?_) (a' := ?_) #[true, false, false, false, false, false, false, false] rfl rfl (by kernel_rfl) (fun _ _ _ h => h) (Or.inl ⟨by rfl, ?_⟩) hHeld ?_ ?_
      rotate_left
      · rintro w' ⟨s0, s1⟩; go_simp; first | done | with_reducible rfl
      rotate_left
      · simp only [Act.put, List.setIfInBounds_toArray, List.set_cons_zero, List.set_cons_succ, i64_w, i32_w]; rfl
      refine pure_ (i := 1) (N := (some 17)) (v := ?_) (a' := ?_) #[true, true, false, false, false, false, false, false] rfl rfl (by kernel_rfl) (fun _ _ _ h => h) (Or.inl ⟨by rfl, ?_⟩) ?_ ?_
      rotate_left
      · intro w'; go_simp; first | done | with_reducible rfl
      rotate_left
      · simp only [Act.put, List.setIfInBounds_toArray, List.set_cons_zero, List.set_cons_succ, i64_w, i32_w]; rfl
      refine pure_ (i := 2) (N := (some 18)) (v := ?_) (a' := ?_) #[true, true, true, false, false, false, false, false] rfl rfl (by kernel_rfl) (fun _ _ _ h => h) (Or.inl ⟨by rfl, ?_⟩) ?_ ?_
      rotate_left
      · intro w'; go_simp; first | done | with_reducible rfl
      rotate_left
      · simp only [Act.put, List.setIfInBounds_toArray, List.set_cons_zero, List.set_cons_succ, i64_w, i32_w]; rfl
      refine take_ (i := 3) (N := (some 19)) (v := ?_) (a' := ?_) #[true, true, true, true, false, false, false, false] rfl rfl (by kernel_rfl) (fun _ _ _ h => h) (Or.inl ⟨by rfl, ?_⟩) hHeld ?_ ?_
      rotate_left
      · rintro w' ⟨s0, s1⟩; go_simp; first | done | with_reducible rfl
      rotate_left
      · simp only [Act.put, List.setIfInBounds_toArray, List.set_cons_zero, List.set_cons_succ, i64_w, i32_w]; rfl
      refine pure_ (i := 4) (N := (some 20)) (v := ?_) (a' := ?_) #[true, true, true, true, true, false, false, false] rfl rfl (by kernel_rfl) (fun _ _ _ h => h) (Or.inl ⟨by rfl, ?_⟩) ?_ ?_
      rotate_left
      · intro w'; go_simp; first | done | with_reducible rfl
      rotate_left
      · simp only [Act.put, List.setIfInBounds_toArray, List.set_cons_zero, List.set_cons_succ, i64_w, i32_w]; rfl
      refine pure_ (i := 5) (N := (some 21)) (v := ?_) (a' := ?_) #[true, true, true, true, true, true, false, false] rfl rfl (by kernel_rfl) (fun _ _ _ h => h) (Or.inl ⟨by rfl, ?_⟩) ?_ ?_
      rotate_left
      · intro w'; go_simp; first | done | with_reducible rfl
      rotate_left
      · simp only [Act.put, List.setIfInBounds_toArray, List.set_cons_zero, List.set_cons_succ, i64_w, i32_w]; rfl
      refine pure_ (i := 6) (N := (some 22)) (v := ?_) (a' := ?_) #[true, true, true, true, true, true, true, false] rfl rfl (by kernel_rfl) (fun _ _ _ h => h) (Or.inl ⟨by rfl, ?_⟩) ?_ ?_
      rotate_left
      · intro w'; go_simp; first | done | with_reducible rfl
      rotate_left
      · simp only [Act.put, List.setIfInBounds_toArray, List.set_cons_zero, List.set_cons_succ, i64_w, i32_w]; rfl
      refine pure_ (i := 7) (N := (some 5)) (v := ?_) (a' := ?_) #[true, true, true, true, true, true, true, true] rfl rfl (by kernel_rfl) (fun _ _ _ h => h) (Or.inl ⟨by rfl, ?_⟩) ?_ ?_
      rotate_left
      · intro w'; go_simp; first | done | with_reducible rfl
      rotate_left
      · simp only [Act.put, List.setIfInBounds_toArray, List.set_cons_zero, List.set_cons_succ, i64_w, i32_w]; rfl
      refine done_ (by kernel_rfl) ?_
      clear hHeld hrt' hsk hc2 hsz
      have HTS := Lib.hid hts
      have HJ2 := Lib.hid (HJ.out _ _ _ _ HJ2.out (grown_of_below (Below.refl w2.heap.size w2).drew) (fun r e => by cases e))
      go_wp2_with fail
      go_loopw [6] (fun v wr => ∃ a : Nat, 1 ≤ a ∧ (a ≤ h ∨ a = 1) ∧ v = .int .i64 a ∧ Hid (wr.heap[B]? = some (.stringIter s (k + 1))) ∧ Hid (wr.cell? ⟨Bn, 0, none⟩ = some (.string s)) ∧ Hid (J (fK s k ++ fA s k (a - 1)) wr) ∧ Hid (B ≤ wr.heap.size)) (fun v _ => h + 1 - (intOf v).toNat)
      case atStart => exact ⟨1, by omega, by omega, rfl, HI2, HC2, by rw [show (1 - 1 : Nat) = 0 by rfl, fA, List.append_nil]; exact HJ2, HSZ⟩
      case round =>
        clear HI2 HC2 HJ2 HSZ
        obtain ⟨a, ha1, ha2, rfl, HI2, HC2, HJ2, HSZ⟩ := hrel
        by_cases hah : a < h
        · go_wp2_with fail
          go_loopw [7] (fun v wr => ∃ b : Nat, 1 ≤ b ∧ b ≤ h - a + 1 ∧ v = .int .i64 b ∧ Hid (wr.heap[B]? = some (.stringIter s (k + 1))) ∧ Hid (wr.cell? ⟨Bn, 0, none⟩ = some (.string s)) ∧ Hid (J (fK s k ++ fA s k (a - 1) ++ fB s k a (b - 1)) wr) ∧ Hid (B ≤ wr.heap.size)) (fun v _ => h + 1 - (intOf v).toNat)
          case atStart => exact ⟨1, by omega, by omega, rfl, HI2, HC2, by rw [show (1 - 1 : Nat) = 0 by rfl, fB, List.append_nil]; exact HJ2, HSZ⟩
          case round =>
            clear HI2 HC2 HJ2 HSZ
            obtain ⟨b, hb1, hb2, rfl, HI2, HC2, HJ2, HSZ⟩ := hrel
            have hab : wrap64 ((a : Int) + (b : Int)) = ((a + b : Nat) : Int) := by unfold wrap64; omega
            have hac : a ≤ a + b := by omega
            have HQ := Lib.hid (And.intro hb1 hb2)
            generalize hcc : a + b = c at hab hac
            have HCC := Lib.hid hcc
            have has : a ≤ s.size := Nat.le_trans (Nat.le_of_lt hah) hhs
            clear hcc hb1 hb2
            by_cases hbh : c ≤ h
            · have hcs : c ≤ s.size := Nat.le_trans hbh hhs
              go_wp2_with fail
              generalize hX : backF (t.extract 0 a) = X
              generalize hY : backF (t.extract a c) = Y
              generalize hZ : backF (t.extract c h) = Z
              have hXs : X.size ≤ 24 := by rw [← hX, back_size, ByteArray.size_extract]; omega
              have hYs : Y.size ≤ 24 := by rw [← hY, back_size, ByteArray.size_extract]; omega
              have hZs : Z.size ≤ 24 := by rw [← hZ, back_size, ByteArray.size_extract]; omega
              have hz1 : (9223372036854775807 < X.size + Y.size) = False := by simp; omega
              have hz2 : (9223372036854775807 < X.size + Y.size + Z.size) = False := by simp; omega
              have HX := Lib.hid hX
              have HYY := Lib.hid hY
              have HZZ := Lib.hid hZ
              clear hX hY hZ hXs hYs hZs
              have hts := HTS.out
              have hfc : wrap64 (wrap64 ((h : Int) - a) - b) = ((h - a - b : Nat) : Int) := by have := HQ.out; have := HCC.out; unfold wrap64; omega
              refine istart_ (n := 38) n #[false, false, false, false, false, false, false, false, false, false, false, false, false, false, false, false, false, false, false, false, false, false, false, false, false, false, false, false, false, false, false, false, false, false, false, false, false, false] (by kernel_rfl) rfl rfl ?_
              refine ipure_ (i := 0) (N := (some 35)) (v := ?_) (a' := ?_) #[true, false, false, false, false, false, false, false, false, false, false, false, false, false, false, false, false, false, false, false, false, false, false, false, false, false, false, false, false, false, false, false, false, false, false, false, false, false] rfl rfl (by kernel_rfl) (fun _ _ _ h => h) ⟨Or.inl ⟨by rfl, ?_⟩, fun _ => rfl⟩ ?_ ?_
              rotate_left
              · intro w'; go_simp; first | done | with_reducible rfl
              rotate_left
              · simp only [Act.put, List.setIfInBounds_toArray, List.set_cons_zero, List.set_cons_succ, i64_w, i32_w]; rfl
              refine ipure_ (i := 1) (N := (some 36)) (v := ?_) (a' := ?_) #[true, true, false, false, false, false, false, false, false, false, false, false, false, false, false, false, false, false, false, false, false, false, false, false, false, false, false, false, false, false, false, false, false, false, false, false, false, false] rfl rfl (by kernel_rfl) (fun _ _ _ h => h) ⟨Or.inl ⟨by rfl, ?_⟩, fun _ => rfl⟩ ?_ ?_
              rotate_left
              · intro w'; go_simp; first | done | with_reducible rfl
              rotate_left
              · simp only [Act.put, List.setIfInBounds_toArray, List.set_cons_zero, List.set_cons_succ, i64_w, i32_w]; rfl
              refine ipure_ (i := 2) (N := (some 37)) (v := ?_) (a' := ?_) #[true, true, true, false, false, false, false, false, false, false, false, false, false, false, false, false, false, false, false, false, false, false, false, false, false, false, false, false, false, false, false, false, false, false, false, false, false, false] rfl rfl (by kernel_rfl) (fun _ _ _ h => h) ⟨Or.inl ⟨by rfl, ?_⟩, fun _ => rfl⟩ ?_ ?_
              rotate_left
              · intro w'; go_simp; first | done | with_reducible rfl
              rotate_left
              · simp only [Act.put, List.setIfInBounds_toArray, List.set_cons_zero, List.set_cons_succ, i64_w, i32_w]; rfl
              refine ipure_ (i := 3) (N := (some 38)) (v := ?_) (a' := ?_) #[true, true, true, true, false, false, false, false, false, false, false, false, false, false, false, false, false, false, false, false, false, false, false, false, false, false, false, false, false, false, false, false, false, false, false, false, false, false] rfl rfl (by kernel_rfl) (fun _ _ _ h => h) ⟨Or.inl ⟨by rfl, ?_⟩, fun _ => rfl⟩ ?_ ?_
              rotate_left
              · intro w'; go_simp; first | done | with_reducible rfl
              rotate_left
              · simp only [Act.put, List.setIfInBounds_toArray, List.set_cons_zero, List.set_cons_succ, i64_w, i32_w]; rfl
              refine ipure_ (i := 4) (N := (some 39)) (v := ?_) (a' := ?_) #[true, true, true, true, true, false, false, false, false, false, false, false, false, false, false, false, false, false, false, false, false, false, false, false, false, false, false, false, false, false, false, false, false, false, false, false, false, false] rfl rfl (by kernel_rfl) (fun _ _ _ h => h) ⟨Or.inl ⟨by rfl, ?_⟩, fun _ => rfl⟩ ?_ ?_
              rotate_left
              · intro w'; go_simp; first | done | with_reducible rfl
              rotate_left
              · simp only [Act.put, List.setIfInBounds_toArray, List.set_cons_zero, List.set_cons_succ, i64_w, i32_w]; rfl
              refine ipure_ (i := 5) (N := (some 40)) (v := ?_) (a' := ?_) #[true, true, true, true, true, true, false, false, false, false, false, false, false, false, false, false, false, false, false, false, false, false, false, false, false, false, false, false, false, false, false, false, false, false, false, false, false, false] rfl rfl (by kernel_rfl) (fun _ _ _ h => h) ⟨Or.inl ⟨by rfl, ?_⟩, fun _ => rfl⟩ ?_ ?_
              rotate_left
              · intro w'; go_simp; first | done | with_reducible rfl
              rotate_left
              · simp only [Act.put, List.setIfInBounds_toArray, List.set_cons_zero, List.set_cons_succ, i64_w, i32_w]; rfl
              refine ipure_ (i := 7) (N := (some 42)) (v := ?_) (a' := ?_) #[true, true, true, true, true, true, false, true, false, false, false, false, false, false, false, false, false, false, false, false, false, false, false, false, false, false, false, false, false, false, false, false, false, false, false, false, false, false] rfl rfl (by kernel_rfl) (fun _ _ _ h => h) ⟨Or.inl ⟨by rfl, ?_⟩, fun _ => rfl⟩ ?_ ?_
              rotate_left
              · intro w'; go_simp; first | done | with_reducible rfl
              rotate_left
              · simp only [Act.put, List.setIfInBounds_toArray, List.set_cons_zero, List.set_cons_succ, i64_w, i32_w]; rfl
              refine ipure_ (i := 8) (N := (some 43)) (v := ?_) (a' := ?_) #[true, true, true, true, true, true, false, true, true, false, false, false, false, false, false, false, false, false, false, false, false, false, false, false, false, false, false, false, false, false, false, false, false, false, false, false, false, false] rfl rfl (by kernel_rfl) (fun _ _ _ h => h) ⟨Or.inl ⟨by rfl, ?_⟩, fun _ => rfl⟩ ?_ ?_
              rotate_left
              · intro w'; go_simp; first | done | with_reducible rfl
              rotate_left
              · simp only [Act.put, List.setIfInBounds_toArray, List.set_cons_zero, List.set_cons_succ, i64_w, i32_w]; rfl
              refine ipure_ (i := 9) (N := (some 44)) (v := ?_) (a' := ?_) #[true, true, true, true, true, true, false, true, true, true, false, false, false, false, false, false, false, false, false, false, false, false, false, false, false, false, false, false, false, false, false, false, false, false, false, false, false, false] rfl rfl (by kernel_rfl) (fun _ _ _ h => h) ⟨Or.inl ⟨by rfl, ?_⟩, fun _ => rfl⟩ ?_ ?_
              rotate_left
              · intro w'; go_simp; first | done | with_reducible rfl
              rotate_left
              · simp only [Act.put, List.setIfInBounds_toArray, List.set_cons_zero, List.set_cons_succ, i64_w, i32_w]; rfl
              refine ipure_ (i := 10) (N := (some 45)) (v := ?_) (a' := ?_) #[true, true, true, true, true, true, false, true, true, true, true, false, false, false, false, false, false, false, false, false, false, false, false, false, false, false, false, false, false, false, false, false, false, false, false, false, false, false] rfl rfl (by kernel_rfl) (fun _ _ _ h => h) ⟨Or.inl ⟨by rfl, ?_⟩, fun _ => rfl⟩ ?_ ?_
              rotate_left
              · intro w'; go_simp; first | done | with_reducible rfl
              rotate_left
              · simp only [Act.put, List.setIfInBounds_toArray, List.set_cons_zero, List.set_cons_succ, i64_w, i32_w]; rfl
              refine ipure_ (i := 11) (N := (some 46)) (v := ?_) (a' := ?_) #[true, true, true, true, true, true, false, true, true, true, true, true, false, false, false, false, false, false, false, false, false, false, false, false, false, false, false, false, false, false, false, false, false, false, false, false, false, false] rfl rfl (by kernel_rfl) (fun _ _ _ h => h) ⟨Or.inl ⟨by rfl, ?_⟩, fun _ => rfl⟩ ?_ ?_
              rotate_left
              · intro w'; go_simp; first | done | with_reducible rfl
              rotate_left
              · simp only [Act.put, List.setIfInBounds_toArray, List.set_cons_zero, List.set_cons_succ, i64_w, i32_w]; rfl
              refine ipure_ (i := 12) (N := (some 47)) (v := ?_) (a' := ?_) #[true, true, true, true, true, true, false, true, true, true, true, true, true, false, false, false, false, false, false, false, false, false, false, false, false, false, false, false, false, false, false, false, false, false, false, false, false, false] rfl rfl (by kernel_rfl) (fun _ _ _ h => h) ⟨Or.inl ⟨by rfl, ?_⟩, fun _ => rfl⟩ ?_ ?_
              rotate_left
              · intro w'; go_simp; first | done | with_reducible rfl
              rotate_left
              · simp only [Act.put, List.setIfInBounds_toArray, List.set_cons_zero, List.set_cons_succ, i64_w, i32_w]; rfl
              refine ipure_ (i := 15) (N := (some 50)) (v := ?_) (a' := ?_) #[true, true, true, true, true, true, false, true, true, true, true, true, true, false, false, true, false, false, false, false, false, false, false, false, false, false, false, false, false, false, false, false, false, false, false, false, false, false] rfl rfl (by kernel_rfl) (fun _ _ _ h => h) ⟨Or.inl ⟨by rfl, ?_⟩, fun _ => rfl⟩ ?_ ?_
              rotate_left
              · intro w'; go_simp; first | done | with_reducible rfl
              rotate_left
              · simp only [Act.put, List.setIfInBounds_toArray, List.set_cons_zero, List.set_cons_succ, i64_w, i32_w]; rfl
              refine ipure_ (i := 16) (N := (some 51)) (v := ?_) (a' := ?_) #[true, true, true, true, true, true, false, true, true, true, true, true, true, false, false, true, true, false, false, false, false, false, false, false, false, false, false, false, false, false, false, false, false, false, false, false, false, false] rfl rfl (by kernel_rfl) (fun _ _ _ h => h) ⟨Or.inl ⟨by rfl, ?_⟩, fun _ => rfl⟩ ?_ ?_
              rotate_left
              · intro w'; go_simp; first | done | with_reducible rfl
              rotate_left
              · simp only [Act.put, List.setIfInBounds_toArray, List.set_cons_zero, List.set_cons_succ, i64_w, i32_w]; rfl
              refine ipure_ (i := 17) (N := (some 52)) (v := ?_) (a' := ?_) #[true, true, true, true, true, true, false, true, true, true, true, true, true, false, false, true, true, true, false, false, false, false, false, false, false, false, false, false, false, false, false, false, false, false, false, false, false, false] rfl rfl (by kernel_rfl) (fun _ _ _ h => h) ⟨Or.inl ⟨by rfl, ?_⟩, fun _ => rfl⟩ ?_ ?_
              rotate_left
              · intro w'; go_simp; first | done | with_reducible rfl
              rotate_left
              · simp only [Act.put, List.setIfInBounds_toArray, List.set_cons_zero, List.set_cons_succ, i64_w, i32_w]; rfl
              refine ipure_ (i := 18) (N := (some 53)) (v := ?_) (a' := ?_) #[true, true, true, true, true, true, false, true, true, true, true, true, true, false, false, true, true, true, true, false, false, false, false, false, false, false, false, false, false, false, false, false, false, false, false, false, false, false] rfl rfl (by kernel_rfl) (fun _ _ _ h => h) ⟨Or.inl ⟨by rfl, ?_⟩, fun _ => rfl⟩ ?_ ?_
              rotate_left
              · intro w'; go_simp; first | done | with_reducible rfl
              rotate_left
              · simp only [Act.put, List.setIfInBounds_toArray, List.set_cons_zero, List.set_cons_succ, i64_w, i32_w]; rfl
              refine ipure_ (i := 19) (N := (some 54)) (v := ?_) (a' := ?_) #[true, true, true, true, true, true, false, true, true, true, true, true, true, false, false, true, true, true, true, true, false, false, false, false, false, false, false, false, false, false, false, false, false, false, false, false, false, false] rfl rfl (by kernel_rfl) (fun _ _ _ h => h) ⟨Or.inl ⟨by rfl, ?_⟩, fun _ => rfl⟩ ?_ ?_
              rotate_left
              · intro w'; go_simp; first | done | with_reducible rfl
              rotate_left
              · simp only [Act.put, List.setIfInBounds_toArray, List.set_cons_zero, List.set_cons_succ, i64_w, i32_w]; rfl
              refine ipure_ (i := 20) (N := (some 55)) (v := ?_) (a' := ?_) #[true, true, true, true, true, true, false, true, true, true, true, true, true, false, false, true, true, true, true, true, true, false, false, false, false, false, false, false, false, false, false, false, false, false, false, false, false, false] rfl rfl (by kernel_rfl) (fun _ _ _ h => h) ⟨Or.inl ⟨by rfl, ?_⟩, fun _ => rfl⟩ ?_ ?_
              rotate_left
              · intro w'; go_simp; first | done | with_reducible rfl
              rotate_left
              · simp only [Act.put, List.setIfInBounds_toArray, List.set_cons_zero, List.set_cons_succ, i64_w, i32_w]; rfl
              refine ilast_ (i := 6) (N := (some 41)) #[true, true, true, true, true, true, true, true, true, true, true, true, true, false, false, true, true, true, true, true, true, false, false, false, false, false, false, false, false, false, false, false, false, false, false, false, false, false] rfl rfl (by kernel_rfl) (fun K hK => ?_)
              refine igoes_ Tryd.func53 (by kernel_rfl) rfl #[.string (t.extract 0 a)] (by rfl) rfl rfl (by (try simp only [List.map_toArray, List.map_cons, List.map_nil]); first | done | rfl) ?_
              refine (back_W' (cut_W HT.out 0 a (by omega)) _).mono ?_
              rintro e w3 ⟨rfl, hb3⟩
              refine ⟨_, rfl, ?_⟩
              rw [HX.out]
              refine hK.out _ _ ?_
              clear hK K
              refine inorm_ (a' := ?_) ?_ ?_
              rotate_left
              · show Act.put _ (some 41) _ = _; simp only [Act.put, List.setIfInBounds_toArray, List.set_cons_zero, List.set_cons_succ, i64_w, i32_w]; rfl
              refine ilast_ (i := 13) (N := (some 48)) #[true, true, true, true, true, true, true, true, true, true, true, true, true, true, false, true, true, true, true, true, true, false, false, false, false, false, false, false, false, false, false, false, false, false, false, false, false, false] rfl rfl (by kernel_rfl) (fun K hK => ?_)
              refine igoes_ Tryd.func53 (by kernel_rfl) rfl #[.string (t.extract a c)] (by rfl) rfl rfl (by (try simp only [List.map_toArray, List.map_cons, List.map_nil]); first | done | rfl) ?_
              refine (back_W' (cut_W HT.out a c (by rw [hts]; exact hcs)) _).mono ?_
              rintro e w4 ⟨rfl, hb4⟩
              refine ⟨_, rfl, ?_⟩
              rw [HYY.out]
              refine hK.out _ _ ?_
              clear hK K
              refine inorm_ (a' := ?_) ?_ ?_
              rotate_left
              · show Act.put _ (some 48) _ = _; simp only [Act.put, List.setIfInBounds_toArray, List.set_cons_zero, List.set_cons_succ, i64_w, i32_w]; rfl
              refine ipure_ (i := 14) (N := (some 49)) (v := ?_) (a' := ?_) #[true, true, true, true, true, true, true, true, true, true, true, true, true, true, true, true, true, true, true, true, true, false, false, false, false, false, false, false, false, false, false, false, false, false, false, false, false, false] rfl rfl (by kernel_rfl) (fun _ _ _ h => h) ⟨Or.inl ⟨by rfl, ?_⟩, fun _ => rfl⟩ ?_ ?_
              rotate_left
              · intro w'; go_simp; first | done | with_reducible rfl
              rotate_left
              · simp only [Act.put, List.setIfInBounds_toArray, List.set_cons_zero, List.set_cons_succ, i64_w, i32_w]; rfl
              refine ilast_ (i := 21) (N := (some 56)) #[true, true, true, true, true, true, true, true, true, true, true, true, true, true, true, true, true, true, true, true, true, true, false, false, false, false, false, false, false, false, false, false, false, false, false, false, false, false] rfl rfl (by kernel_rfl) (fun K hK => ?_)
              refine igoes_ Tryd.func53 (by kernel_rfl) rfl #[.string (t.extract c h)] (by rfl) rfl rfl (by (try simp only [List.map_toArray, List.map_cons, List.map_nil]); first | done | rfl) ?_
              refine (back_W' (cut_W HT.out c h (by rw [hts]; exact hhs)) _).mono ?_
              rintro e w5 ⟨rfl, hb5⟩
              refine ⟨_, rfl, ?_⟩
              rw [HZZ.out]
              refine hK.out _ _ ?_
              clear hK K
              refine inorm_ (a' := ?_) ?_ ?_
              rotate_left
              · show Act.put _ (some 56) _ = _; simp only [Act.put, List.setIfInBounds_toArray, List.set_cons_zero, List.set_cons_succ, i64_w, i32_w]; rfl
              refine ipure_ (i := 22) (N := (some 57)) (v := ?_) (a' := ?_) #[true, true, true, true, true, true, true, true, true, true, true, true, true, true, true, true, true, true, true, true, true, true, true, false, false, false, false, false, false, false, false, false, false, false, false, false, false, false] rfl rfl (by kernel_rfl) (fun _ _ _ h => h) ⟨Or.inl ⟨by rfl, ?_⟩, fun _ => rfl⟩ ?_ ?_
              rotate_left
              · intro w'; go_simp; first | done | with_reducible rfl
              rotate_left
              · simp only [Act.put, List.setIfInBounds_toArray, List.set_cons_zero, List.set_cons_succ, i64_w, i32_w]; rfl
              have hbt : Below wr.heap.size wr w5 := (Below.refl wr.heap.size wr).drew.trans (hb3.trans ((hb4.mono hb3.size).trans (hb5.mono (Nat.le_trans hb3.size hb4.size))))
              have hBl : B < wr.heap.size := (Array.getElem?_eq_some_iff.1 HI2.out).1
              have HI5 := Lib.hid ((hbt.block B hBl).trans HI2.out)
              have HC5 := Lib.hid ((hbt.cell (p := ⟨Bn, 0, none⟩) (World.block_lt_of_cell? _ _ HC2.out)).trans HC2.out)
              have HJ5 := Lib.hid (HJ.out _ _ _ none HJ2.out (grown_of_below hbt) (fun r e => by cases e))
              have HZ5 := Lib.hid (Nat.le_trans HSZ.out hbt.size)
              have hfT : decide (t.extract h s.size = X ++ Y ++ Z) = fT t h a b := by
                unfold fT
                rw [HCC.out, HX.out, HYY.out, HZZ.out, hts]
              clear hbt hb3 hb4 hb5 hBl HI2 HC2 HJ2 HSZ
              have hwb := wrap_succ (a := b) (by have := HQ.out; omega)
              cases hf : fT t h a b with
              | true =>
                rw [hf] at hfT
                have hfL := beq_lists hfT
                have HFT := Lib.hid hf
                refine ipure_ (i := 23) (N := (some 58)) (v := (.bool true)) (a' := ?_) #[true, true, true, true, true, true, true, true, true, true, true, true, true, true, true, true, true, true, true, true, true, true, true, true, false, false, false, false, false, false, false, false, false, false, false, false, false, false] rfl rfl (by kernel_rfl) (fun _ _ _ h => h) ⟨Or.inl ⟨by rfl, ?_⟩, fun _ => rfl⟩ ?_ ?_
                · intro w'; go_simp; first | done | with_reducible rfl
                rotate_left
                · simp only [Act.put, List.setIfInBounds_toArray, List.set_cons_zero, List.set_cons_succ, i64_w, i32_w]; rfl
                refine ipure_ (i := 24) (N := (some 59)) (v := ?_) (a' := ?_) #[true, true, true, true, true, true, true, true, true, true, true, true, true, true, true, true, true, true, true, true, true, true, true, true, true, false, false, false, false, false, false, false, false, false, false, false, false, false] rfl rfl (by kernel_rfl) (fun _ _ _ h => h) ⟨Or.inl ⟨by rfl, ?_⟩, fun _ => rfl⟩ ?_ ?_
                rotate_left
                · intro w'; go_simp; first | done | with_reducible rfl
                rotate_left
                · simp only [Act.put, List.setIfInBounds_toArray, List.set_cons_zero, List.set_cons_succ, i64_w, i32_w]; rfl
                refine ipure_ (i := 25) (N := (some 60)) (v := ?_) (a' := ?_) #[true, true, true, true, true, true, true, true, true, true, true, true, true, true, true, true, true, true, true, true, true, true, true, true, true, true, false, false, false, false, false, false, false, false, false, false, false, false] rfl rfl (by kernel_rfl) (fun _ _ _ h => h) ⟨Or.inl ⟨by rfl, ?_⟩, fun _ => rfl⟩ ?_ ?_
                rotate_left
                · intro w'; go_simp; first | done | with_reducible rfl
                rotate_left
                · simp only [Act.put, List.setIfInBounds_toArray, List.set_cons_zero, List.set_cons_succ, i64_w, i32_w]; rfl
                refine ipure_ (i := 26) (N := (some 61)) (v := ?_) (a' := ?_) #[true, true, true, true, true, true, true, true, true, true, true, true, true, true, true, true, true, true, true, true, true, true, true, true, true, true, true, false, false, false, false, false, false, false, false, false, false, false] rfl rfl (by kernel_rfl) (fun _ _ _ h => h) ⟨Or.inl ⟨by rfl, ?_⟩, fun _ => rfl⟩ ?_ ?_
                rotate_left
                · intro w'; go_simp; first | done | with_reducible rfl
                rotate_left
                · simp only [Act.put, List.setIfInBounds_toArray, List.set_cons_zero, List.set_cons_succ, i64_w, i32_w]; rfl
                refine ipure_ (i := 27) (N := (some 62)) (v := ?_) (a' := ?_) #[true, true, true, true, true, true, true, true, true, true, true, true, true, true, true, true, true, true, true, true, true, true, true, true, true, true, true, true, false, false, false, false, false, false, false, false, false, false] rfl rfl (by kernel_rfl) (fun _ _ _ h => h) ⟨Or.inl ⟨by rfl, ?_⟩, fun _ => rfl⟩ ?_ ?_
                rotate_left
                · intro w'; go_simp; first | done | with_reducible rfl
                rotate_left
                · simp only [Act.put, List.setIfInBounds_toArray, List.set_cons_zero, List.set_cons_succ, i64_w, i32_w]; rfl
                refine ipure_ (i := 28) (N := (some 63)) (v := ?_) (a' := ?_) #[true, true, true, true, true, true, true, true, true, true, true, true, true, true, true, true, true, true, true, true, true, true, true, true, true, true, true, true, true, false, false, false, false, false, false, false, false, false] rfl rfl (by kernel_rfl) (fun _ _ _ h => h) ⟨Or.inl ⟨by rfl, ?_⟩, fun _ => rfl⟩ ?_ ?_
                rotate_left
                · intro w'; go_simp; first | done | with_reducible rfl
                rotate_left
                · simp only [Act.put, List.setIfInBounds_toArray, List.set_cons_zero, List.set_cons_succ, i64_w, i32_w]; rfl
                refine ipure_ (i := 29) (N := (some 64)) (v := ?_) (a' := ?_) #[true, true, true, true, true, true, true, true, true, true, true, true, true, true, true, true, true, true, true, true, true, true, true, true, true, true, true, true, true, true, false, false, false, false, false, false, false, false] rfl rfl (by kernel_rfl) (fun _ _ _ h => h) ⟨Or.inl ⟨by rfl, ?_⟩, fun _ => rfl⟩ ?_ ?_
                rotate_left
                · intro w'; go_simp; first | done | with_reducible rfl
                rotate_left
                · simp only [Act.put, List.setIfInBounds_toArray, List.set_cons_zero, List.set_cons_succ, i64_w, i32_w]; rfl
                refine ipure_ (i := 30) (N := (some 65)) (v := ?_) (a' := ?_) #[true, true, true, true, true, true, true, true, true, true, true, true, true, true, true, true, true, true, true, true, true, true, true, true, true, true, true, true, true, true, true, false, false, false, false, false, false, false] rfl rfl (by kernel_rfl) (fun _ _ _ h => h) ⟨Or.inl ⟨by rfl, ?_⟩, fun _ => rfl⟩ ?_ ?_
                rotate_left
                · intro w'; go_simp; first | done | with_reducible rfl
                rotate_left
                · simp only [Act.put, List.setIfInBounds_toArray, List.set_cons_zero, List.set_cons_succ, i64_w, i32_w]; rfl
                refine ipure_ (i := 31) (N := (some 66)) (v := ?_) (a' := ?_) #[true, true, true, true, true, true, true, true, true, true, true, true, true, true, true, true, true, true, true, true, true, true, true, true, true, true, true, true, true, true, true, true, false, false, false, false, false, false] rfl rfl (by kernel_rfl) (fun _ _ _ h => h) ⟨Or.inl ⟨by rfl, ?_⟩, fun _ => rfl⟩ ?_ ?_
                rotate_left
                · intro w'; go_simp; first | done | with_reducible rfl
                rotate_left
                · simp only [Act.put, List.setIfInBounds_toArray, List.set_cons_zero, List.set_cons_succ, i64_w, i32_w]; rfl
                refine ipure_ (i := 32) (N := (some 67)) (v := ?_) (a' := ?_) #[true, true, true, true, true, true, true, true, true, true, true, true, true, true, true, true, true, true, true, true, true, true, true, true, true, true, true, true, true, true, true, true, true, false, false, false, false, false] rfl rfl (by kernel_rfl) (fun _ _ _ h => h) ⟨Or.inl ⟨by rfl, ?_⟩, fun _ => rfl⟩ ?_ ?_
                rotate_left
                · intro w'; go_simp; first | done | with_reducible rfl
                rotate_left
                · simp only [Act.put, List.setIfInBounds_toArray, List.set_cons_zero, List.set_cons_succ, i64_w, i32_w]; rfl
                refine ipure_ (i := 33) (N := (some 68)) (v := ?_) (a' := ?_) #[true, true, true, true, true, true, true, true, true, true, true, true, true, true, true, true, true, true, true, true, true, true, true, true, true, true, true, true, true, true, true, true, true, true, false, false, false, false] rfl rfl (by kernel_rfl) (fun _ _ _ h => h) ⟨Or.inl ⟨by rfl, ?_⟩, fun _ => rfl⟩ ?_ ?_
                rotate_left
                · intro w'; go_simp; first | done | with_reducible rfl
                rotate_left
                · simp only [Act.put, List.setIfInBounds_toArray, List.set_cons_zero, List.set_cons_succ, i64_w, i32_w]; rfl
                refine ipure_ (i := 34) (N := (some 69)) (v := ?_) (a' := ?_) #[true, true, true, true, true, true, true, true, true, true, true, true, true, true, true, true, true, true, true, true, true, true, true, true, true, true, true, true, true, true, true, true, true, true, true, false, false, false] rfl rfl (by kernel_rfl) (fun _ _ _ h => h) ⟨Or.inl ⟨by rfl, ?_⟩, fun _ => rfl⟩ ?_ ?_
                rotate_left
                · intro w'; go_simp; first | done | with_reducible rfl
                rotate_left
                · simp only [Act.put, List.setIfInBounds_toArray, List.set_cons_zero, List.set_cons_succ, i64_w, i32_w]; rfl
                refine ilast_ (i := 35) (N := (some 70)) #[true, true, true, true, true, true, true, true, true, true, true, true, true, true, true, true, true, true, true, true, true, true, true, true, true, true, true, true, true, true, true, true, true, true, true, true, false, false] rfl rfl (by kernel_rfl) (fun K hK => ?_)
                refine iround_ (l := l) #[encF (k, a, b, h - a - b)] (by rfl) rfl rfl rfl (by (try simp only [List.map_toArray, List.map_cons, List.map_nil]); first | done | rfl) ?_
                refine (HY.out _ (k, a, b, h - a - b) w5 HJ5.out (yes_len HFT.out HRT.out HH.out ha1 HQ.out.1 HCC.out hbh hah hlt)).mono ?_
                rintro e W6 (⟨rfl, hJ6, hK6⟩ | ⟨rfl, hJx6⟩)
                · refine ⟨_, rfl, ?_⟩
                  have HI6 := Lib.hid (hK6.2.same B _ HI5.out rfl)
                  have HC6 := Lib.hid (hK6.1 HC5.out)
                  have HJ6 := Lib.hid hJ6
                  have HZ6 := Lib.hid (Nat.le_trans HZ5.out hK6.2.size)
                  clear hJ6 hK6
                  refine hK.out _ _ ?_
                  clear hK K
                  refine inorm_ (a' := ?_) ?_ ?_
                  rotate_left
                  · show Act.put _ (some 70) _ = _; simp only [Act.put, List.setIfInBounds_toArray, List.set_cons_zero, List.set_cons_succ, i64_w, i32_w]; rfl
                  refine ipure_ (i := 36) (N := (some 71)) (v := ?_) (a' := ?_) #[true, true, true, true, true, true, true, true, true, true, true, true, true, true, true, true, true, true, true, true, true, true, true, true, true, true, true, true, true, true, true, true, true, true, true, true, true, false] rfl rfl (by kernel_rfl) (fun _ _ _ h => h) ⟨Or.inl ⟨by rfl, ?_⟩, fun _ => rfl⟩ ?_ ?_
                  rotate_left
                  · intro w'; go_simp; first | done | with_reducible rfl
                  rotate_left
                  · simp only [Act.put, List.setIfInBounds_toArray, List.set_cons_zero, List.set_cons_succ, i64_w, i32_w]; rfl
                  refine ipure_ (i := 37) (N := (some 72)) (v := ?_) (a' := ?_) #[true, true, true, true, true, true, true, true, true, true, true, true, true, true, true, true, true, true, true, true, true, true, true, true, true, true, true, true, true, true, true, true, true, true, true, true, true, true] rfl rfl (by kernel_rfl) (fun _ _ _ h => h) ⟨Or.inl ⟨by rfl, ?_⟩, fun _ => rfl⟩ ?_ ?_
                  rotate_left
                  · intro w'; go_simp; first | done | with_reducible rfl
                  rotate_left
                  · simp only [Act.put, List.setIfInBounds_toArray, List.set_cons_zero, List.set_cons_succ, i64_w, i32_w]; rfl
                  refine idone_ (by kernel_rfl) ?_
                  go_wp2_with fail
                  rw [hwb]
                  refine ⟨⟨b + 1, by omega, by have := HQ.out; have := HCC.out; omega, rfl, HI6, HC6, ?_, HZ6⟩, by simp [intOf]; have := HQ.out; have := HCC.out; omega⟩
                  rw [← yes_step HFT.out HRT.out HH.out HQ.out.1]
                  exact HJ6
                · refine ⟨_, rfl, ?_⟩
                  have HJ6 := Lib.hid hJx6
                  clear hJx6
                  refine hK.out _ _ ?_
                  clear hK K
                  refine inorm_ (a' := ?_) ?_ ?_
                  rotate_left
                  · show Act.put _ (some 70) _ = _; simp only [Act.put, List.setIfInBounds_toArray, List.set_cons_zero, List.set_cons_succ, i64_w, i32_w]; rfl
                  refine ipure_ (i := 36) (N := (some 71)) (v := ?_) (a' := ?_) #[true, true, true, true, true, true, true, true, true, true, true, true, true, true, true, true, true, true, true, true, true, true, true, true, true, true, true, true, true, true, true, true, true, true, true, true, true, false] rfl rfl (by kernel_rfl) (fun _ _ _ h => h) ⟨Or.inl ⟨by rfl, ?_⟩, fun _ => rfl⟩ ?_ ?_
                  rotate_left
                  · intro w'; go_simp; first | done | with_reducible rfl
                  rotate_left
                  · simp only [Act.put, List.setIfInBounds_toArray, List.set_cons_zero, List.set_cons_succ, i64_w, i32_w]; rfl
                  refine ipure_ (i := 37) (N := (some 72)) (v := ?_) (a' := ?_) #[true, true, true, true, true, true, true, true, true, true, true, true, true, true, true, true, true, true, true, true, true, true, true, true, true, true, true, true, true, true, true, true, true, true, true, true, true, true] rfl rfl (by kernel_rfl) (fun _ _ _ h => h) ⟨Or.inl ⟨by rfl, ?_⟩, fun _ => rfl⟩ ?_ ?_
                  rotate_left
                  · intro w'; go_simp; first | done | with_reducible rfl
                  rotate_left
                  · simp only [Act.put, List.setIfInBounds_toArray, List.set_cons_zero, List.set_cons_succ, i64_w, i32_w]; rfl
                  refine idone_ (by kernel_rfl) ?_
                  go_wp2_with fail
                  refine bodyPost_ret (results_none rfl _ _ _) rfl ?_
                  exact ⟨⟨_, rfl⟩, .inr ⟨_, yes_pre HFT.out HRT.out HH.out ha1 HQ.out.1 HCC.out hbh hah hlt, HJ6.out⟩⟩
              | false =>
                rw [hf] at hfT
                have hfL := beq_lists hfT
                have HFT := Lib.hid hf
                refine ipure_ (i := 23) (N := (some 58)) (v := (.bool false)) (a' := ?_) #[true, true, true, true, true, true, true, true, true, true, true, true, true, true, true, true, true, true, true, true, true, true, true, true, false, false, false, false, false, false, false, false, false, false, false, false, false, false] rfl rfl (by kernel_rfl) (fun _ _ _ h => h) ⟨Or.inl ⟨by rfl, ?_⟩, fun _ => rfl⟩ ?_ ?_
                · intro w'; go_simp; first | done | with_reducible rfl
                rotate_left
                · simp only [Act.put, List.setIfInBounds_toArray, List.set_cons_zero, List.set_cons_succ, i64_w, i32_w]; rfl
                refine ipure_ (i := 24) (N := (some 59)) (v := ?_) (a' := ?_) #[true, true, true, true, true, true, true, true, true, true, true, true, true, true, true, true, true, true, true, true, true, true, true, true, true, false, false, false, false, false, false, false, false, false, false, false, false, false] rfl rfl (by kernel_rfl) (fun _ _ _ h => h) ⟨Or.inl ⟨by rfl, ?_⟩, fun _ => rfl⟩ ?_ ?_
                rotate_left
                · intro w'; go_simp; first | done | with_reducible rfl
                rotate_left
                · simp only [Act.put, List.setIfInBounds_toArray, List.set_cons_zero, List.set_cons_succ, i64_w, i32_w]; rfl
                refine ipure_ (i := 25) (N := (some 60)) (v := undef) (a' := ?_) #[true, true, true, true, true, true, true, true, true, true, true, true, true, true, true, true, true, true, true, true, true, true, true, true, true, true, false, false, false, false, false, false, false, false, false, false, false, false] rfl rfl (by kernel_rfl) (fun _ _ _ h => h) ⟨Or.inr ⟨by rfl, rfl⟩, fun _ => rfl⟩ ?_ ?_
                rotate_left
                · simp only [Act.put, List.setIfInBounds_toArray, List.set_cons_zero, List.set_cons_succ, i64_w, i32_w]; rfl
                refine ipure_ (i := 26) (N := (some 61)) (v := undef) (a' := ?_) #[true, true, true, true, true, true, true, true, true, true, true, true, true, true, true, true, true, true, true, true, true, true, true, true, true, true, true, false, false, false, false, false, false, false, false, false, false, false] rfl rfl (by kernel_rfl) (fun _ _ _ h => h) ⟨Or.inr ⟨by rfl, rfl⟩, fun _ => rfl⟩ ?_ ?_
                rotate_left
                · simp only [Act.put, List.setIfInBounds_toArray, List.set_cons_zero, List.set_cons_succ, i64_w, i32_w]; rfl
                refine ipure_ (i := 27) (N := (some 62)) (v := undef) (a' := ?_) #[true, true, true, true, true, true, true, true, true, true, true, true, true, true, true, true, true, true, true, true, true, true, true, true, true, true, true, true, false, false, false, false, false, false, false, false, false, false] rfl rfl (by kernel_rfl) (fun _ _ _ h => h) ⟨Or.inr ⟨by rfl, rfl⟩, fun _ => rfl⟩ ?_ ?_
                rotate_left
                · simp only [Act.put, List.setIfInBounds_toArray, List.set_cons_zero, List.set_cons_succ, i64_w, i32_w]; rfl
                refine ipure_ (i := 28) (N := (some 63)) (v := undef) (a' := ?_) #[true, true, true, true, true, true, true, true, true, true, true, true, true, true, true, true, true, true, true, true, true, true, true, true, true, true, true, true, true, false, false, false, false, false, false, false, false, false] rfl rfl (by kernel_rfl) (fun _ _ _ h => h) ⟨Or.inr ⟨by rfl, rfl⟩, fun _ => rfl⟩ ?_ ?_
                rotate_left
                · simp only [Act.put, List.setIfInBounds_toArray, List.set_cons_zero, List.set_cons_succ, i64_w, i32_w]; rfl
                refine ipure_ (i := 29) (N := (some 64)) (v := undef) (a' := ?_) #[true, true, true, true, true, true, true, true, true, true, true, true, true, true, true, true, true, true, true, true, true, true, true, true, true, true, true, true, true, true, false, false, false, false, false, false, false, false] rfl rfl (by kernel_rfl) (fun _ _ _ h => h) ⟨Or.inr ⟨by rfl, rfl⟩, fun _ => rfl⟩ ?_ ?_
                rotate_left
                · simp only [Act.put, List.setIfInBounds_toArray, List.set_cons_zero, List.set_cons_succ, i64_w, i32_w]; rfl
                refine ipure_ (i := 30) (N := (some 65)) (v := undef) (a' := ?_) #[true, true, true, true, true, true, true, true, true, true, true, true, true, true, true, true, true, true, true, true, true, true, true, true, true, true, true, true, true, true, true, false, false, false, false, false, false, false] rfl rfl (by kernel_rfl) (fun _ _ _ h => h) ⟨Or.inr ⟨by rfl, rfl⟩, fun _ => rfl⟩ ?_ ?_
                rotate_left
                · simp only [Act.put, List.setIfInBounds_toArray, List.set_cons_zero, List.set_cons_succ, i64_w, i32_w]; rfl
                refine ipure_ (i := 31) (N := (some 66)) (v := undef) (a' := ?_) #[true, true, true, true, true, true, true, true, true, true, true, true, true, true, true, true, true, true, true, true, true, true, true, true, true, true, true, true, true, true, true, true, false, false, false, false, false, false] rfl rfl (by kernel_rfl) (fun _ _ _ h => h) ⟨Or.inr ⟨by rfl, rfl⟩, fun _ => rfl⟩ ?_ ?_
                rotate_left
                · simp only [Act.put, List.setIfInBounds_toArray, List.set_cons_zero, List.set_cons_succ, i64_w, i32_w]; rfl
                refine ipure_ (i := 32) (N := (some 67)) (v := undef) (a' := ?_) #[true, true, true, true, true, true, true, true, true, true, true, true, true, true, true, true, true, true, true, true, true, true, true, true, true, true, true, true, true, true, true, true, true, false, false, false, false, false] rfl rfl (by kernel_rfl) (fun _ _ _ h => h) ⟨Or.inr ⟨by rfl, rfl⟩, fun _ => rfl⟩ ?_ ?_
                rotate_left
                · simp only [Act.put, List.setIfInBounds_toArray, List.set_cons_zero, List.set_cons_succ, i64_w, i32_w]; rfl
                refine ipure_ (i := 33) (N := (some 68)) (v := undef) (a' := ?_) #[true, true, true, true, true, true, true, true, true, true, true, true, true, true, true, true, true, true, true, true, true, true, true, true, true, true, true, true, true, true, true, true, true, true, false, false, false, false] rfl rfl (by kernel_rfl) (fun _ _ _ h => h) ⟨Or.inr ⟨by rfl, rfl⟩, fun _ => rfl⟩ ?_ ?_
                rotate_left
                · simp only [Act.put, List.setIfInBounds_toArray, List.set_cons_zero, List.set_cons_succ, i64_w, i32_w]; rfl
                refine ipure_ (i := 34) (N := (some 69)) (v := undef) (a' := ?_) #[true, true, true, true, true, true, true, true, true, true, true, true, true, true, true, true, true, true, true, true, true, true, true, true, true, true, true, true, true, true, true, true, true, true, true, false, false, false] rfl rfl (by kernel_rfl) (fun _ _ _ h => h) ⟨Or.inr ⟨by rfl, rfl⟩, fun _ => rfl⟩ ?_ ?_
                rotate_left
                · simp only [Act.put, List.setIfInBounds_toArray, List.set_cons_zero, List.set_cons_succ, i64_w, i32_w]; rfl
                refine ipure_ (i := 35) (N := (some 70)) (v := undef) (a' := ?_) #[true, true, true, true, true, true, true, true, true, true, true, true, true, true, true, true, true, true, true, true, true, true, true, true, true, true, true, true, true, true, true, true, true, true, true, true, false, false] rfl rfl (by kernel_rfl) (fun _ _ _ h => h) ⟨Or.inr ⟨by rfl, rfl⟩, fun _ => rfl⟩ ?_ ?_
                rotate_left
                · simp only [Act.put, List.setIfInBounds_toArray, List.set_cons_zero, List.set_cons_succ, i64_w, i32_w]; rfl
                refine ipure_ (i := 36) (N := (some 71)) (v := undef) (a' := ?_) #[true, true, true, true, true, true, true, true, true, true, true, true, true, true, true, true, true, true, true, true, true, true, true, true, true, true, true, true, true, true, true, true, true, true, true, true, true, false] rfl rfl (by kernel_rfl) (fun _ _ _ h => h) ⟨Or.inr ⟨by rfl, rfl⟩, fun _ => rfl⟩ ?_ ?_
                rotate_left
                · simp only [Act.put, List.setIfInBounds_toArray, List.set_cons_zero, List.set_cons_succ, i64_w, i32_w]; rfl
                refine ipure_ (i := 37) (N := (some 72)) (v := ?_) (a' := ?_) #[true, true, true, true, true, true, true, true, true, true, true, true, true, true, true, true, true, true, true, true, true, true, true, true, true, true, true, true, true, true, true, true, true, true, true, true, true, true] rfl rfl (by kernel_rfl) (fun _ _ _ h => h) ⟨Or.inl ⟨by rfl, ?_⟩, fun _ => rfl⟩ ?_ ?_
                rotate_left
                · intro w'; go_simp; first | done | with_reducible rfl
                rotate_left
                · simp only [Act.put, List.setIfInBounds_toArray, List.set_cons_zero, List.set_cons_succ, i64_w, i32_w]; rfl
                refine idone_ (by kernel_rfl) ?_
                go_wp2_with fail
                rw [hwb]
                refine ⟨⟨b + 1, by omega, by have := HQ.out; have := HCC.out; omega, rfl, HI5, HC5, ?_, HZ5⟩, by simp [intOf]; have := HQ.out; have := HCC.out; omega⟩
                rw [← no_step HFT.out HRT.out HH.out HQ.out.1]
                exact HJ5
            · skip
              go_wp2_with fail
              refine ⟨⟨a + 1, Nat.le_add_left _ _, .inl hah, by go_num, HI2, HC2, ?_, HSZ⟩, by simp [intOf]; omega⟩
              rw [← row_step HH.out ha1 HQ.out.1 HQ.out.2 HCC.out hbh hah]
              exact HJ2
        · go_wp2_with fail
          refine ⟨⟨k + 1, by omega, HI2, HC2, ?_, HSZ⟩, ?_⟩
          · rw [fK, HH.out, show h - 1 = a - 1 by omega]
            exact HJ2
          · show (match _ with | some (Obj.stringIter _ p) => s.size - p | _ => 0) < (match _ with | some (Obj.stringIter _ p) => s.size - p | _ => 0)
            rw [HI2.out, HI0.out]
            show s.size - (k + 1) < s.size - k
            omega
    · obtain rfl : k = s.size := by omega
      have hnx := fun ty => run_next_over (P := Tryd.prog) HI.out hlt ty
      go_wp2
      go_end0
      exact ⟨⟨_, rfl⟩, .inl ⟨_, rfl, HJ0.out⟩⟩
end Go.Proofs.YtpfenoioeajkmaaDoor.X
end

section
set_option linter.unusedVariables false
set_option linter.unusedSimpArgs false
namespace Go.Proofs.YtpfenoioeajkmaaDoor.X
open Go.RowKit Go.Proofs.YtpfenoioeajkmaaDoorW.PrintWords Go.Proofs.YtpfenoioeajkmaaDoorW.PrintLast Go.Proofs.YtpfenoioeajkmaaDoorW.PrintMore Go.Proofs.YtpfenoioeajkmaaDoor.L
theorem calls_marks {P : Program} {f : FuncId} {fn : Func} {c : Code} {args : Array Value} {w : World} {R : Ending → World → Prop} (n : Nat) (hf : P.funcs[f]? = some fn) (hb : fn.body = some c)
    (h : c.wp P (bodyPostM Fence.wide n P fn R) { tmps := args ++ Array.replicate (fn.ntmps - args.size) undef, defers := [] } w) : Calls P f args w R :=
  (callsIn_wide (n := n)).1 (callsIn_of_wp_marks hf hb trivial ((wpIn_wide (n := n)).2 h))
attribute [local go_sem] Oper.semAt_some
theorem cell_new_l (W : World) (v : Value) (t : TypeId) : (W.alloc (.cells #[v] t)).cell? ⟨W.heap.size, 0, none⟩ = some v ∧ (W.alloc (.cells #[v] t)).frozen? ⟨W.heap.size, 0, none⟩ = false := ⟨by simp, by simp⟩
theorem cell_alloc_l {W : World} {a : Addr} {v : Value} (o : Obj) (h : W.cell? a = some v) : (W.alloc o).cell? a = some v := cell_kept h (World.grownBy_alloc W o none) (fun r e => by cases e)
theorem frozen_alloc_l {W : World} {a : Addr} {v : Value} (o : Obj) (h : W.cell? a = some v) (hf : W.frozen? a = false) : (W.alloc o).frozen? a = false := (frozen_kept h (World.grownBy_alloc W o none) (fun r e => by cases e)).trans hf
theorem fB_len (s : ByteArray) (k a : Nat) : ∀ m, (fB s k a m).length ≤ m
  | 0 => by simp [fB]
  | m + 1 => by
    have := fB_len s k a m
    rw [fB, List.length_append]
    split <;> simp <;> omega
theorem fA_len (s : ByteArray) (k : Nat) : ∀ m, (fA s k m).length ≤ m * (s.size / 2)
  | 0 => by simp [fA]
  | m + 1 => by
    have := fA_len s k m
    have h2 := fB_len s k (m + 1) (s.size / 2 - (m + 1))
    rw [fA, List.length_append, Nat.succ_mul]
    omega
theorem fK_len (s : ByteArray) : ∀ k, (fK s k).length ≤ k * ((s.size / 2 - 1) * (s.size / 2))
  | 0 => by simp [fK]
  | k + 1 => by
    have := fK_len s k
    have h2 := fA_len s k (s.size / 2 - 1)
    rw [fK, List.length_append, Nat.succ_mul]
    omega
theorem facs_len {s : ByteArray} (h : s.size ≤ 24) : (facs s).length ≤ 24 * (12 * 12) :=
  Nat.le_trans (fK_len s s.size) (Nat.mul_le_mul h (Nat.mul_le_mul (by omega) (by omega)))
theorem kpF_t {Bn : Nat} {s : ByteArray} {A B C : World} (h : KpF Bn s A B) (k : KpF Bn s B C) : KpF Bn s A C := ⟨fun q => k.1 (h.1 q), h.2.trans k.2⟩
theorem kpF_b {Bn : Nat} {s : ByteArray} {w : World} (W : World) (l : Nat) (o o' : Obj) (hl : w.heap.size ≤ l) (h : W.heap[l]? = some o) (hc : o.isCells = false) (hw : o.isWalk = false) : KpF Bn s W (W.putObj l o') :=
  ⟨fun q => cell_kept q (Go.grownBy_putObj' W l o') (fun r e => by cases e; exact ⟨_, h, hc⟩), walksK_b (w := w) W l o o' hl h hc hw⟩
theorem facs_stops (n Bn : Nat) (s : ByteArray) (hw : isW s = true) (w : World) (hc : w.cell? ⟨Bn, 0, none⟩ = some (.string s)) :
    SeqStopsK Fence.wide n Tryd.prog 77 #[.pointer (some ⟨Bn, 0, none⟩)] (fun x => #[encF x]) (KpF Bn s) (fun xs => xs = facs s) (fun pre => pre <+: facs s) (facs s).length w :=
  fun l J Jx W hW hJ hJx hY h0 => callsIn_wide.2 (factors1_in n l Bn s hw J Jx W hJ hY ((hW.cell (p := ⟨Bn, 0, none⟩) (World.block_lt_of_cell? _ _ hc)).trans hc) h0)
set_option maxHeartbeats 2000000 in
set_option maxRecDepth 100000 in
theorem factors_calls (s : ByteArray) (w : World) : Calls Tryd.prog 58 #[.string s] w fun e w' => e = .returned (.func (.func 77) #[] #[.pointer (some ⟨w.heap.size, 0, none⟩)]) ∧ w' = w.alloc (.cells #[.string s] 9) := by
  go_enter Tryd.func58, Tryd.ntmps58
  go_wp2
  go_ret
  exact ⟨rfl, rfl⟩
theorem Is_any {s : ByteArray} (hs : s.size ≤ 1000) (w : World) : Calls Tryd.prog 49 #[.string s] w fun e w' => e = .returned (.bool (isO s)) ∧ Below w.heap.size w w' := moulds_Is.calls s _ w (Is_f hs)
set_option maxHeartbeats 4000000 in
set_option maxRecDepth 100000 in
theorem Factors_yes (s : ByteArray) (h : isO s = true) (w : World) :
    Calls Tryd.prog 33 #[.string s] w fun e w' => e = .returned (.tuple #[.int .i64 (facs s).length, .int .i64 0]) ∧ Below w.heap.size w w' := by
  have hw := isO_W h
  have hs24 := isW_le hw
  have HO := Lib.hid (fun w => Is_any (s := s) (by omega) w)
  have HH := Lib.hid h
  have HWD := Lib.hid hw
  clear h hw
  refine calls_marks 3 Tryd.func33 rfl ?_
  simp only [Tryd.ntmps33, List.size_toArray, List.length_cons, List.length_nil, Nat.reduceAdd, Nat.reduceSub, Array.replicate_succ, Array.replicate_zero, List.push_toArray, List.append_toArray, List.nil_append, List.cons_append]
  go_wp2_with fail
  refine (HO.out _).mono ?_
  rintro e w1 ⟨rfl, hb1⟩
  rw [HH.out]
  have HB := Lib.hid hb1
  clear hb1
  go_wp2_with fail
  refine (factors_calls s _).mono ?_
  rintro e w2 ⟨rfl, rfl⟩
  go_wp2_with fail
  have c0 := cell_new_l w1 (.int .i64 0) 3
  have c1 := cell_new_l (w1.alloc (.cells #[.int .i64 0] 3)) (.string s) 9
  have c2 := cell_alloc_l (.cells #[.string s] 9) c0.1
  have c3 := frozen_alloc_l (.cells #[.string s] 9) c0.1 c0.2
  rw [World.size_alloc] at c1
  have hb3 : Below w1.heap.size w1 ((w1.alloc (.cells #[.int .i64 0] 3)).alloc (.cells #[.string s] 9)) := ((Below.refl _ w1).alloc (Nat.le_refl _) _).alloc (by simp) _
  have hsz : ((w1.alloc (.cells #[.int .i64 0] 3)).alloc (.cells #[.string s] 9)).heap.size = w1.heap.size + 2 := by simp
  generalize (w1.alloc (.cells #[.int .i64 0] 3)).alloc (.cells #[.string s] 9) = w3 at c1 c2 c3 hb3 hsz ⊢
  refine (wpIn_wide (n := 3)).1 ?_
  refine wpIn_rangeFunc_ownF rfl (by omega) (gf := 77) (lb := #[.pointer (some ⟨w1.heap.size + 1, 0, none⟩)]) rfl trivial (enters_of Tryd.func77 (by kernel_rfl) rfl)
    (facs_stops 2 (w1.heap.size + 1) s HWD.out w3 c1.1) kpF_t kpF_b (Below.refl _ _) (fun _ => rfl)
    (fun pre W => (W.cell? ⟨w1.heap.size, 0, none⟩ = some (.int .i64 pre.length) ∧ W.frozen? ⟨w1.heap.size, 0, none⟩ = false) ∧ Below w1.heap.size w1 W)
    (fun _ _ _ => False)
    (OwnFrom.and (Own.from (fun s A B row hs hg hr => ⟨cell_kept hs.1 hg hr, (frozen_kept hs.1 hg hr).trans hs.2⟩) _) (ownFrom_below (Nat.le_refl _) (by omega)))
    (fun _ _ _ _ _ hs _ _ => hs)
    ⟨⟨c2, c3⟩, hb3⟩
    (fun x => { tmps := #[Value.string s, undef, Value.int IntKind.i64 0, Value.int IntKind.i64 0, Value.pointer (some { block := w1.heap.size, off := 0 }), Value.string s, Value.bool true, Value.bool false, Value.string s, Value.func (Fn.func 77) #[] #[Value.pointer (some { block := w1.heap.size + 1, off := 0 })], encF x, undef, undef, undef], defers := [] }) ?assign ?body ?done ?stop
  case assign =>
    intro l x W K hK
    gi_wp2
    simpa using hK
  case body =>
    rintro l pre x W ⟨⟨hc, hf⟩, hB⟩ hlen
    have hfl := facs_len hs24
    have hwl : wrap64 ((pre.length : Int) + 1) = ((pre.length + 1 : Nat) : Int) := by unfold wrap64; omega
    gi_wp2
    refine ⟨KeepsOthers.setCell _ _ _, ⟨fun q => (World.cell?_setCell_other W _ _ _ (by simp)).trans q, KeepsWalks.setCell _ _ _⟩, ⟨?_, by rw [World.frozen?_setCell]; exact hf⟩, hB.setCell (p := ⟨w1.heap.size, 0, none⟩) (Nat.le_refl _) _⟩
    rw [List.length_append, List.length_singleton]
    exact World.cell?_setCell_same' _ _ _ (by rw [hc]; rfl)
  case done =>
    rintro D ys W hD rfl ⟨⟨hc, hf⟩, hB⟩ hK
    go_wp2
    refine ⟨by simp, .inl ⟨_, _, rfl, run_takeDeferred hK, ?_⟩⟩
    refine ⟨_, results_tmp2 rfl _ _ _, rfl, HB.out.trans ((hB.trans ?_).mono HB.out.size)⟩
    exact belowK_b (w := w3) (by omega) W D _ _ hD hK rfl rfl
  case stop =>
    rintro D c pre W hD _ h _
    exact h.elim
end Go.Proofs.YtpfenoioeajkmaaDoor.X
end

section
set_option linter.unusedVariables false
set_option linter.unusedSimpArgs false
namespace Go.Proofs.YtpfenoioeajkmaaDoor.X
open Go.RowKit Go.Proofs.YtpfenoioeajkmaaDoorW.PrintWords Go.Proofs.YtpfenoioeajkmaaDoorW.PrintLast Go.Proofs.YtpfenoioeajkmaaDoorW.PrintMore Go.Proofs.YtpfenoioeajkmaaDoor.L
attribute [local go_sem] Oper.semAt_some
theorem blk_at {W : World} {b : Nat} {cs : Array Value} {t : TypeId} (h : W.heap[b]? = some (.cells cs t)) (i : Nat) {v : Value} (hv : cs[i]? = some v) : W.cell? ⟨b, i, none⟩ = some v := by
  simp [World.cell?, h, hv]
theorem blk_free {W : World} {b : Nat} {cs : Array Value} {t : TypeId} (h : W.heap[b]? = some (.cells cs t)) (i : Nat) (hi : i < cs.size) : W.frozen? ⟨b, i, none⟩ = false := by
  simp [World.frozen?, h]
theorem own_blk {β : Type} {B b : Nat} {o : Obj} (hb : b < B) : OwnFrom B (fun (_ : β) W => W.heap[b]? = some o) :=
  fun s A C row hs hg hr => (hg.block b (Array.getElem?_eq_some_iff.1 hs).1 (fun e => by have := (hr b e.symm).1; omega)).trans hs
theorem setCell_blk {W : World} {b : Nat} {cs : Array Value} {t : TypeId} (h : W.heap[b]? = some (.cells cs t)) (i : Nat) (v : Value) : (W.setCell ⟨b, i, none⟩ v).heap[b]? = some (.cells (cs.setIfInBounds i v) t) := by
  obtain ⟨hlt, hk⟩ := Array.getElem?_eq_some_iff.1 h
  show (W.heap.modify b _)[b]? = _
  rw [Array.getElem?_eq_getElem (by rw [Array.size_modify]; exact hlt), Array.getElem_modify_self, hk]
  rfl
def zero4 : Obj := .cells #[.int .i64 0, .int .i64 0, .int .i64 0, .int .i64 0] 34
def four (x : Fct) : Obj := .cells #[.int .i64 x.1, .int .i64 x.2.1, .int .i64 x.2.2.1, .int .i64 x.2.2.2] 34
theorem five_set {W : World} {b : Nat} {k a c d e : Int} (h : W.heap[b]? = some zero4) (h' : W.heap[b + 1]? = some (.cells #[.int .i64 0] 22)) :
    (((((W.setCell ⟨b, 0, none⟩ (.int .i64 k)).setCell ⟨b, 1, none⟩ (.int .i64 a)).setCell ⟨b, 2, none⟩ (.int .i64 c)).setCell ⟨b, 3, none⟩ (.int .i64 d)).setCell ⟨b + 1, 0, none⟩ (.int .i64 e)).heap[b]? = some (.cells #[.int .i64 k, .int .i64 a, .int .i64 c, .int .i64 d] 34) ∧
    (((((W.setCell ⟨b, 0, none⟩ (.int .i64 k)).setCell ⟨b, 1, none⟩ (.int .i64 a)).setCell ⟨b, 2, none⟩ (.int .i64 c)).setCell ⟨b, 3, none⟩ (.int .i64 d)).setCell ⟨b + 1, 0, none⟩ (.int .i64 e)).heap[b + 1]? = some (.cells #[.int .i64 e] 22) := by
  constructor
  · rw [Below.heap_setCell _ _ _ _ (by simp)]
    exact setCell_blk (setCell_blk (setCell_blk (setCell_blk h 0 _) 1 _) 2 _) 3 _
  · refine setCell_blk (cs := #[.int .i64 0]) ?_ 0 _
    rw [Below.heap_setCell _ _ _ _ (by simp), Below.heap_setCell _ _ _ _ (by simp), Below.heap_setCell _ _ _ _ (by simp), Below.heap_setCell _ _ _ _ (by simp)]
    exact h'
theorem five_below {W w : World} {B b : Nat} {k a c d e : Value} (h : Below B w W) (hB : B ≤ b) :
    Below B w (((((W.setCell ⟨b, 0, none⟩ k).setCell ⟨b, 1, none⟩ a).setCell ⟨b, 2, none⟩ c).setCell ⟨b, 3, none⟩ d).setCell ⟨b + 1, 0, none⟩ e) :=
  ((((h.setCell (p := ⟨b, 0, none⟩) hB _).setCell (p := ⟨b, 1, none⟩) hB _).setCell (p := ⟨b, 2, none⟩) hB _).setCell (p := ⟨b, 3, none⟩) hB _).setCell (p := ⟨b + 1, 0, none⟩) (Nat.le_succ_of_le hB) _
theorem five_keeps (W : World) (b : Nat) (k a c d e : Value) : KeepsOthers W (((((W.setCell ⟨b, 0, none⟩ k).setCell ⟨b, 1, none⟩ a).setCell ⟨b, 2, none⟩ c).setCell ⟨b, 3, none⟩ d).setCell ⟨b + 1, 0, none⟩ e) :=
  ((((KeepsOthers.setCell _ _ _).trans (KeepsOthers.setCell _ _ _)).trans (KeepsOthers.setCell _ _ _)).trans (KeepsOthers.setCell _ _ _)).trans (KeepsOthers.setCell _ _ _)
set_option maxHeartbeats 4000000 in
set_option maxRecDepth 100000 in
theorem Factor_yes (s : ByteArray) (h : isO s = true) (w : World) :
    Calls Tryd.prog 32 #[.string s] w fun e w' => e = .returned (.tuple #[encF ((facs s).headD (0, 0, 0, 0)), .int .i64 (if facs s = [] then 4 else 0)]) ∧ Below w.heap.size w w' := by
  have hw := isO_W h
  have hs24 := isW_le hw
  have HO := Lib.hid (fun w => Is_any (s := s) (by omega) w)
  have HH := Lib.hid h
  have HWD := Lib.hid hw
  clear h hw
  generalize hE : (if facs s = [] then (4 : Int) else 0) = E
  have HE := Lib.hid hE
  clear hE
  refine calls_marks 3 Tryd.func32 rfl ?_
  simp only [Tryd.ntmps32, List.size_toArray, List.length_cons, List.length_nil, Nat.reduceAdd, Nat.reduceSub, Array.replicate_succ, Array.replicate_zero, List.push_toArray, List.append_toArray, List.nil_append, List.cons_append]
  go_wp2_with fail
  refine (HO.out _).mono ?_
  rintro e w1 ⟨rfl, hb1⟩
  rw [HH.out]
  have HB := Lib.hid hb1
  clear hb1
  go_wp2_with fail
  refine (factors_calls s _).mono ?_
  rintro e w2 ⟨rfl, rfl⟩
  go_wp2_with fail
  have hk1 : w1.heap[w.heap.size]? = some zero4 := by
    have := HB.out.block w.heap.size (by simp; omega)
    rw [this]
    exact (Below.heap_alloc _ _ _ (by simp)).trans (World.alloc_heap_new w _)
  have hk2 : w1.heap[w.heap.size + 1]? = some (.cells #[.int .i64 0] 22) := by
    have := HB.out.block (w.heap.size + 1) (by simp)
    rw [this]
    have := World.alloc_heap_new (w.alloc zero4) (.cells #[.int .i64 0] 22)
    rwa [World.size_alloc] at this
  have hB1 : Below w.heap.size w w1 := (((Below.refl _ w).alloc (Nat.le_refl _) _).alloc (by simp) _).trans (HB.out.mono (by simp; omega))
  have hsz1 : w.heap.size + 2 ≤ w1.heap.size := by
    have := HB.out.size
    simpa using this
  clear HB
  have c1 := cell_new_l w1 (.string s) 9
  have hk3 := (Below.heap_alloc w1 (.cells #[.string s] 9) _ (by omega)).trans hk1
  have hk4 := (Below.heap_alloc w1 (.cells #[.string s] 9) _ (by omega)).trans hk2
  have hB3 := hB1.alloc (by omega) (.cells #[.string s] 9)
  have hsz3 : w1.heap.size < (w1.alloc (.cells #[.string s] 9)).heap.size := by simp
  generalize (w1.alloc (.cells #[.string s] 9)) = w3 at c1 hk3 hk4 hB3 hsz3 ⊢
  clear hk1 hk2 hB1
  refine (wpIn_wide (n := 3)).1 ?_
  refine wpIn_rangeFunc_ownH rfl (by omega) (gf := 77) (lb := #[.pointer (some ⟨w1.heap.size, 0, none⟩)]) rfl trivial (enters_of Tryd.func77 (by kernel_rfl) rfl)
    (facs_stops 2 w1.heap.size s HWD.out w3 c1.1) kpF_t kpF_b (Below.refl _ _) (fun _ => rfl)
    (fun pre W => pre = [] ∧ (W.heap[w.heap.size]? = some zero4 ∧ W.heap[w.heap.size + 1]? = some (.cells #[.int .i64 0] 22)) ∧ Below w.heap.size w W)
    (fun c pre W => c = .ret ∧ ∃ x, pre = [x] ∧ (W.heap[w.heap.size]? = some (four x) ∧ W.heap[w.heap.size + 1]? = some (.cells #[.int .i64 0] 22)) ∧ Below w.heap.size w W)
    (fun pre A C row hs hg hr => ⟨hs.1, ⟨own_blk (β := Unit) (by omega) () A C row hs.2.1.1 hg hr, own_blk (β := Unit) (by omega) () A C row hs.2.1.2 hg hr⟩, ownFrom_below (β := Unit) (Nat.le_refl _) (by omega) () A C row hs.2.2 hg hr⟩)
    (fun c pre A C row hs hg hr => ⟨hs.1, by
      obtain ⟨x, h1, h2, h3⟩ := hs.2
      exact ⟨x, h1, ⟨own_blk (β := Unit) (by omega) () A C row h2.1 hg hr, own_blk (β := Unit) (by omega) () A C row h2.2 hg hr⟩, ownFrom_below (β := Unit) (Nat.le_refl _) (by omega) () A C row h3 hg hr⟩⟩)
    ⟨rfl, ⟨hk3, hk4⟩, hB3⟩
    (fun x a' W => ∃ G, W.cell? ⟨G, 0, none⟩ = some (.int .i64 x.1) ∧ W.cell? ⟨G, 1, none⟩ = some (.int .i64 x.2.1) ∧ W.cell? ⟨G, 2, none⟩ = some (.int .i64 x.2.2.1) ∧ W.cell? ⟨G, 3, none⟩ = some (.int .i64 x.2.2.2) ∧
      a' = { tmps := #[Value.string s, undef, Value.pointer (some { block := w.heap.size, off := 0 }), Value.pointer (some { block := w.heap.size + 1, off := 0 }), Value.pointer (some { block := G, off := 0 }), Value.string s, Value.bool true, Value.bool false, undef, Value.string s, Value.func (Fn.func 77) #[] #[Value.pointer (some { block := w1.heap.size, off := 0 })], encF x, undef, undef], defers := [] })
    (fun x a' _ A C row hs hg hr => by
      obtain ⟨G, h1, h2, h3, h4, h5⟩ := hs
      exact ⟨G, cell_kept h1 hg (fun r e => (hr r e).2), cell_kept h2 hg (fun r e => (hr r e).2), cell_kept h3 hg (fun r e => (hr r e).2), cell_kept h4 hg (fun r e => (hr r e).2), h5⟩)
    ?assign ?body ?done ?stop
  case assign =>
    rintro l pre ⟨k, a, b, c⟩ W K ⟨rfl, ⟨g1, g2⟩, hB⟩ hK
    unfold encF at hK ⊢
    gi_wp2
    exact hK _ _ ((KeepsOthers.alloc _ _).from _) ⟨fun q => cell_alloc_l _ q, (KeepsOthers.alloc _ _).walks⟩ ⟨trivial, ⟨(Below.heap_alloc W _ _ (Array.getElem?_eq_some_iff.1 g1).1).trans g1, (Below.heap_alloc W _ _ (Array.getElem?_eq_some_iff.1 g2).1).trans g2⟩, hB.alloc hB.size _⟩
      ⟨W.heap.size, by simp, by simp, by simp, by simp, rfl⟩
  case body =>
    rintro l pre ⟨k, a, b, c⟩ a' W hl hr ⟨rfl, ⟨g1, g2⟩, hB⟩ ⟨G, d0, d1, d2, d3, rfl⟩ hlen
    have e0 := blk_at g1 0 rfl
    have e1 := blk_at g1 1 rfl
    have e2 := blk_at g1 2 rfl
    have e3 := blk_at g1 3 rfl
    have e4 := blk_at g2 0 rfl
    have f0 := blk_free g1 0 (by decide)
    have f1 := blk_free g1 1 (by decide)
    have f2 := blk_free g1 2 (by decide)
    have f3 := blk_free g1 3 (by decide)
    have f4 := blk_free g2 0 (by decide)
    gi_wp2
    exact ⟨(five_keeps _ _ _ _ _ _ _).from _, rfl, k, a, b, c, rfl, five_set g1 g2, five_below hB (Nat.le_refl _)⟩
  case done =>
    rintro D ys W hD hys ⟨rfl, ⟨g1, g2⟩, hB⟩ hK
    have HYS := Lib.hid hys
    clear hys
    have e0 := blk_at g1 0 rfl
    have e1 := blk_at g1 1 rfl
    have e2 := blk_at g1 2 rfl
    have e3 := blk_at g1 3 rfl
    have e4 := blk_at g2 0 rfl
    have f0 := blk_free g1 0 (by decide)
    have f1 := blk_free g1 1 (by decide)
    have f2 := blk_free g1 2 (by decide)
    have f3 := blk_free g1 3 (by decide)
    have f4 := blk_free g2 0 (by decide)
    go_wp2
    obtain ⟨n1, n2⟩ := five_set (k := 0) (a := 0) (c := 0) (d := 0) (e := 4) g1 g2
    have hB5 := five_below (k := .int .i64 0) (a := .int .i64 0) (c := .int .i64 0) (d := .int .i64 0) (e := .int .i64 4) hB (Nat.le_refl w.heap.size)
    have hK5 := (five_keeps W w.heap.size (.int .i64 0) (.int .i64 0) (.int .i64 0) (.int .i64 0) (.int .i64 4)).same D _ hK rfl
    generalize (((((W.setCell ⟨w.heap.size, 0, none⟩ (.int .i64 0)).setCell ⟨w.heap.size, 1, none⟩ (.int .i64 0)).setCell ⟨w.heap.size, 2, none⟩ (.int .i64 0)).setCell ⟨w.heap.size, 3, none⟩ (.int .i64 0)).setCell ⟨w.heap.size + 1, 0, none⟩ (.int .i64 4)) = W5 at n1 n2 hB5 hK5 ⊢
    refine ⟨by simp, .inl ⟨_, _, rfl, run_takeDeferred hK5, ?_⟩⟩
    have hgp := Go.grownBy_putObj' W5 D (.deferred none)
    have hrp : ∀ r, some D = some r → ∃ o : Obj, W5.heap[r]? = some o ∧ o.isCells = false := fun r e => by cases e; exact ⟨_, hK5, rfl⟩
    have k0 := cell_kept (blk_at n1 0 rfl) hgp hrp
    have k1 := cell_kept (blk_at n1 1 rfl) hgp hrp
    have k2 := cell_kept (blk_at n1 2 rfl) hgp hrp
    have k3 := cell_kept (blk_at n1 3 rfl) hgp hrp
    have k4 := cell_kept (blk_at n2 0 rfl) hgp hrp
    refine ⟨_, ?_, ⟨rfl, hB5.trans (belowK_b (w := w3) (by omega) W5 D _ _ hD hK5 rfl rfl)⟩⟩
    rw [← HE.out, ← HYS.out, List.headD_nil, if_pos rfl]
    simp [results, Tryd.f32, go_sem, k0, k1, k2, k3, k4, encF]
  case stop =>
    rintro D c pre W hD hpre ⟨rfl, x, rfl, ⟨g1, g2⟩, hB⟩ hK
    refine (wpIn_wide (n := 3)).2 ?_
    go_wp2
    refine ⟨by simp, .inl ⟨_, _, rfl, run_takeDeferred hK, ?_⟩⟩
    have hgp := Go.grownBy_putObj' W D (.deferred none)
    have hrp : ∀ r, some D = some r → ∃ o : Obj, W.heap[r]? = some o ∧ o.isCells = false := fun r e => by cases e; exact ⟨_, hK, rfl⟩
    have k0 := cell_kept (blk_at g1 0 rfl) hgp hrp
    have k1 := cell_kept (blk_at g1 1 rfl) hgp hrp
    have k2 := cell_kept (blk_at g1 2 rfl) hgp hrp
    have k3 := cell_kept (blk_at g1 3 rfl) hgp hrp
    have k4 := cell_kept (blk_at g2 0 rfl) hgp hrp
    obtain ⟨rest, hrest⟩ : ∃ rest, facs s = x :: rest := by
      obtain ⟨z, hz⟩ := hpre
      exact ⟨z, by rw [← hz]; rfl⟩
    refine ⟨_, ?_, ⟨rfl, hB.trans (belowK_b (w := w3) (by omega) W D _ _ hD hK rfl rfl)⟩⟩
    rw [← HE.out, hrest, List.headD_cons, if_neg (by simp)]
    simp [results, Tryd.f32, go_sem, k0, k1, k2, k3, k4, encF]
set_option maxHeartbeats 4000000 in
set_option maxRecDepth 100000 in
theorem Factor_no (s : ByteArray) (hs : s.size ≤ 1000) (h : isO s = false) (w : World) :
    Calls Tryd.prog 32 #[.string s] w fun e w' => e = .returned (.tuple #[encF (0, 0, 0, 0), .int .i64 2]) ∧ Below w.heap.size w w' := by
  have HO := Lib.hid (fun w => Is_any (s := s) hs w)
  have HH := Lib.hid h
  clear h
  go_enter Tryd.func32, Tryd.ntmps32
  go_wp2_with fail
  refine (HO.out _).mono ?_
  rintro e w1 ⟨rfl, hb1⟩
  rw [HH.out]
  have HB := Lib.hid hb1
  clear hb1
  have hk1 : w1.heap[w.heap.size]? = some zero4 := by
    have := HB.out.block w.heap.size (by simp; omega)
    rw [this]
    exact (Below.heap_alloc _ _ _ (by simp)).trans (World.alloc_heap_new w _)
  have hk2 : w1.heap[w.heap.size + 1]? = some (.cells #[.int .i64 0] 22) := by
    have := HB.out.block (w.heap.size + 1) (by simp)
    rw [this]
    have := World.alloc_heap_new (w.alloc zero4) (.cells #[.int .i64 0] 22)
    rwa [World.size_alloc] at this
  have hB1 : Below w.heap.size w w1 := (((Below.refl _ w).alloc (Nat.le_refl _) _).alloc (by simp) _).trans (HB.out.mono (by simp; omega))
  clear HB
  have e0 := blk_at hk1 0 rfl
  have e1 := blk_at hk1 1 rfl
  have e2 := blk_at hk1 2 rfl
  have e3 := blk_at hk1 3 rfl
  have e4 := blk_at hk2 0 rfl
  have f0 := blk_free hk1 0 (by decide)
  have f1 := blk_free hk1 1 (by decide)
  have f2 := blk_free hk1 2 (by decide)
  have f3 := blk_free hk1 3 (by decide)
  have f4 := blk_free hk2 0 (by decide)
  go_wp2
  obtain ⟨n1, n2⟩ := five_set (k := 0) (a := 0) (c := 0) (d := 0) (e := 2) hk1 hk2
  have hB5 := five_below (k := .int .i64 0) (a := .int .i64 0) (c := .int .i64 0) (d := .int .i64 0) (e := .int .i64 2) hB1 (Nat.le_refl w.heap.size)
  generalize (((((w1.setCell ⟨w.heap.size, 0, none⟩ (.int .i64 0)).setCell ⟨w.heap.size, 1, none⟩ (.int .i64 0)).setCell ⟨w.heap.size, 2, none⟩ (.int .i64 0)).setCell ⟨w.heap.size, 3, none⟩ (.int .i64 0)).setCell ⟨w.heap.size + 1, 0, none⟩ (.int .i64 2)) = W5 at n1 n2 hB5 ⊢
  have k0 := blk_at n1 0 rfl
  have k1 := blk_at n1 1 rfl
  have k2 := blk_at n1 2 rfl
  have k3 := blk_at n1 3 rfl
  have k4 := blk_at n2 0 rfl
  refine bodyPost_ret (v := .tuple #[encF (0, 0, 0, 0), .int .i64 2]) ?_ rfl ⟨rfl, hB5⟩
  simp [results, Tryd.f32, go_sem, k0, k1, k2, k3, k4, encF]
set_option maxHeartbeats 4000000 in
set_option maxRecDepth 100000 in
theorem Factors_no (s : ByteArray) (hs : s.size ≤ 1000) (h : isO s = false) (w : World) :
    Calls Tryd.prog 33 #[.string s] w fun e w' => e = .returned (.tuple #[.int .i64 0, .int .i64 2]) ∧ Below w.heap.size w w' := by
  have HO := Lib.hid (fun w => Is_any (s := s) hs w)
  have HH := Lib.hid h
  clear h
  go_enter Tryd.func33, Tryd.ntmps33
  go_wp2_with fail
  refine (HO.out _).mono ?_
  rintro e w1 ⟨rfl, hb1⟩
  rw [HH.out]
  go_wp2
  go_ret2
  exact ⟨rfl, hb1⟩
end Go.Proofs.YtpfenoioeajkmaaDoor.X
end

section
set_option linter.unusedVariables false
set_option linter.unusedSimpArgs false
namespace Go.Proofs.YtpfenoioeajkmaaDoor.X
open Go.RowKit Go.Proofs.YtpfenoioeajkmaaDoorW.PrintWords Go.Proofs.YtpfenoioeajkmaaDoorW.PrintLast Go.Proofs.YtpfenoioeajkmaaDoorW.PrintMore Go.Proofs.YtpfenoioeajkmaaDoor.L
theorem cells_later {B : Nat} {p q r u : Value} {w1 w2 : World} (h : w1.cell? ⟨B, 0, none⟩ = some p ∧ w1.cell? ⟨B, 1, none⟩ = some q ∧ w1.cell? ⟨B, 2, none⟩ = some r ∧ w1.cell? ⟨B, 3, none⟩ = some u) (hb : Below w1.heap.size w1 w2) :
    w2.cell? ⟨B, 0, none⟩ = some p ∧ w2.cell? ⟨B, 1, none⟩ = some q ∧ w2.cell? ⟨B, 2, none⟩ = some r ∧ w2.cell? ⟨B, 3, none⟩ = some u :=
  ⟨(hb.cell (p := ⟨B, 0, none⟩) (World.block_lt_of_cell? _ _ h.1)).trans h.1, (hb.cell (p := ⟨B, 1, none⟩) (World.block_lt_of_cell? _ _ h.2.1)).trans h.2.1, (hb.cell (p := ⟨B, 2, none⟩) (World.block_lt_of_cell? _ _ h.2.2.1)).trans h.2.2.1, (hb.cell (p := ⟨B, 3, none⟩) (World.block_lt_of_cell? _ _ h.2.2.2)).trans h.2.2.2⟩
theorem wrap_nat {n : Nat} (h : n ≤ 100) : wrap64 (n : Int) = n := by unfold wrap64; omega
theorem not_big {n : Nat} (h : n ≤ 100) : (9223372036854775807 < n) = False := by simp; omega
theorem not_neg (n : Nat) : ((n : Int) < 0) = False := by simp
theorem rback_W {s : ByteArray} (h : isW s = true) (w : World) : Calls Tryd.prog 23 #[.string s] w fun e w' => e = .returned (.string (backF s)) ∧ Below w.heap.size w w' := by
  obtain ⟨k, hk⟩ := Back_ref h
  exact PB.comfitref07_Back.calls k s _ w hk
set_option maxHeartbeats 8000000 in
set_option maxRecDepth 100000 in
theorem IsFactor_calls (s : ByteArray) (k a b c h : Nat) (hw : isW s = true) (hk : k < s.size) (ha : 1 ≤ a) (hb : 1 ≤ b) (hh : s.size / 2 = h) (hc : a + b + c = h) (w : World) :
    Calls Tryd.prog 34 #[.string s, encF (k, a, b, c)] w fun e w' => e = .returned (.bool (fT (rotF s k) h a b)) ∧ Below w.heap.size w w' := by
  have hs24 := isW_le hw
  have HW := Lib.hid hw
  have hq : ((s.size : Int).tdiv 2) = (h : Int) := by rw [← hh]; exact Int.ofNat_tdiv _ 2
  have hq2 : ((s.size : Int) / 2) = (h : Int) := by rw [← hh]; rfl
  have hhs : h ≤ s.size := by rw [← hh]; exact Nat.div_le_self _ _
  have hh100 : h ≤ 100 := Nat.le_trans hhs (Nat.le_trans hs24 (by decide))
  have hdh : a + b ≤ h := hc ▸ Nat.le_add_right _ _
  have hah : a ≤ h := Nat.le_trans (Nat.le_add_right a b) hdh
  have hbh : b ≤ h := Nat.le_trans (Nat.le_add_left b a) hdh
  have hch : c ≤ h := hc ▸ Nat.le_add_left _ _
  have hb1 : ((a : Int) < 1) = False := by simp; omega
  have hb2 : ((b : Int) < 1) = False := by simp; omega
  have hab : wrap64 ((a : Int) + b) = ((a + b : Nat) : Int) := wrap_nat (Nat.le_trans hdh hh100)
  have habc : wrap64 (((a + b : Nat) : Int) + c) = (h : Int) := by rw [← hc]; exact wrap_nat (n := a + b + c) (by rw [hc]; exact hh100)
  have hac : a ≤ a + b := Nat.le_add_right _ _
  have hsum : (a : Int) + b + c = (h : Int) := by rw [← hc]; rfl
  have hxa : (h < a) = False := by simp; omega
  have hxb : (h < b) = False := by simp; omega
  have hxc : (h < c) = False := by simp; omega
  have hk0 := not_neg k
  have hc0 := not_neg c
  have hkk : k ≤ s.size := Nat.le_of_lt hk
  have hk1 : ((s.size : Int) ≤ k) = False := by simp; exact hk
  have hsz := not_big (n := s.size) (Nat.le_trans hs24 (by decide))
  have HH := Lib.hid hh
  have HC0 := Lib.hid hc
  clear hh hw hc
  have hadd : (a : Int) + b = ((a + b : Nat) : Int) := rfl
  generalize hcc : a + b = d at hab habc hac hdh hadd
  have HCC := Lib.hid hcc
  have hwd : wrap64 (d : Int) = d := wrap_nat (Nat.le_trans hdh hh100)
  clear hcc hh100
  have hne : (((a : Int) + b + c) != (h : Int)) = false := by rw [hsum]; simp
  clear hsum hadd hq2
  unfold encF
  go_enter Tryd.func34, Tryd.ntmps34
  go_wp2_with fail
  have hbl := below_one (w := w) (four (k, a, b, c))
  have HB := Lib.hid hbl
  have g1 := World.alloc_heap_new w (four (k, a, b, c))
  have e0 := blk_at g1 0 rfl
  have e1 := blk_at g1 1 rfl
  have e2 := blk_at g1 2 rfl
  have e3 := blk_at g1 3 rfl
  unfold four at hbl HB e0 e1 e2 e3
  generalize (w.alloc (.cells #[.int .i64 k, .int .i64 a, .int .i64 b, .int .i64 c] 34)) = w1 at hbl HB e0 e1 e2 e3 ⊢
  generalize hB : w.heap.size = B at *
  clear hbl g1 hk0 hc0 hk1 hb1 hb2 hq
  have hts := rot_size s hkk
  have htw := rot_W HW.out hkk
  have hE := @rotF.eq_1 s k
  generalize hrt : rotF s k = t at hts htw hE ⊢
  have hrt' : s.extract k s.size ++ s.extract 0 k = t := hE.symm
  have HT := Lib.hid htw
  have HTS := Lib.hid hts
  have HRT := Lib.hid hrt
  clear hrt htw hE
  have HC := Lib.hid (And.intro e0 (And.intro e1 (And.intro e2 e3)))
  refine start_ (n := 10) (S := fun w' => w'.cell? ⟨B, 0, none⟩ = some (.int .i64 k) ∧ w'.cell? ⟨B, 1, none⟩ = some (.int .i64 a) ∧ w'.cell? ⟨B, 2, none⟩ = some (.int .i64 b) ∧ w'.cell? ⟨B, 3, none⟩ = some (.int .i64 c)) (ds := []) #[false, false, false, false, false, false, false, false, false, false] (by kernel_rfl) rfl rfl ⟨by simpa using e0, by simpa using e1, by simpa using e2, by simpa using e3⟩ (fun hHeld => ?_)
  refine pure_ (i := 0) (N := (some 65)) (v := ?_) (a' := ?_) #[true, false, false, false, false, false, false, false, false, false] rfl rfl (by kernel_rfl) (fun _ _ _ h => h) (Or.inl ⟨by rfl, ?_⟩) ?_ ?_
  rotate_left
  · intro w'; go_simp; first | done | with_reducible rfl
  rotate_left
  · simp only [Act.put, List.setIfInBounds_toArray, List.set_cons_zero, List.set_cons_succ, i64_w, i32_w]; rfl
  refine pure_ (i := 1) (N := (some 66)) (v := ?_) (a' := ?_) #[true, true, false, false, false, false, false, false, false, false] rfl rfl (by kernel_rfl) (fun _ _ _ h => h) (Or.inl ⟨by rfl, ?_⟩) ?_ ?_
  rotate_left
  · intro w'; go_simp; first | done | with_reducible rfl
  rotate_left
  · simp only [Act.put, List.setIfInBounds_toArray, List.set_cons_zero, List.set_cons_succ, i64_w, i32_w]; rfl
  refine take_ (i := 2) (N := (some 67)) (v := ?_) (a' := ?_) #[true, true, true, false, false, false, false, false, false, false] rfl rfl (by kernel_rfl) (fun _ _ _ h => h) (Or.inl ⟨by rfl, ?_⟩) hHeld ?_ ?_
  rotate_left
  · rintro w' ⟨s0, s1, s2, s3⟩; go_simp; first | done | with_reducible rfl
  rotate_left
  · simp only [Act.put, List.setIfInBounds_toArray, List.set_cons_zero, List.set_cons_succ, i64_w, i32_w]; rfl
  refine pure_ (i := 3) (N := (some 68)) (v := ?_) (a' := ?_) #[true, true, true, true, false, false, false, false, false, false] rfl rfl (by kernel_rfl) (fun _ _ _ h => h) (Or.inl ⟨by rfl, ?_⟩) ?_ ?_
  rotate_left
  · intro w'; go_simp; first | done | with_reducible rfl
  rotate_left
  · simp only [Act.put, List.setIfInBounds_toArray, List.set_cons_zero, List.set_cons_succ, i64_w, i32_w]; rfl
  refine pure_ (i := 4) (N := (some 69)) (v := ?_) (a' := ?_) #[true, true, true, true, true, false, false, false, false, false] rfl rfl (by kernel_rfl) (fun _ _ _ h => h) (Or.inl ⟨by rfl, ?_⟩) ?_ ?_
  rotate_left
  · intro w'; go_simp; first | done | with_reducible rfl
  rotate_left
  · simp only [Act.put, List.setIfInBounds_toArray, List.set_cons_zero, List.set_cons_succ, i64_w, i32_w]; rfl
  refine pure_ (i := 5) (N := (some 70)) (v := ?_) (a' := ?_) #[true, true, true, true, true, true, false, false, false, false] rfl rfl (by kernel_rfl) (fun _ _ _ h => h) (Or.inl ⟨by rfl, ?_⟩) ?_ ?_
  rotate_left
  · intro w'; go_simp; first | done | with_reducible rfl
  rotate_left
  · simp only [Act.put, List.setIfInBounds_toArray, List.set_cons_zero, List.set_cons_succ, i64_w, i32_w]; rfl
  refine take_ (i := 6) (N := (some 71)) (v := ?_) (a' := ?_) #[true, true, true, true, true, true, true, false, false, false] rfl rfl (by kernel_rfl) (fun _ _ _ h => h) (Or.inl ⟨by rfl, ?_⟩) hHeld ?_ ?_
  rotate_left
  · rintro w' ⟨s0, s1, s2, s3⟩; go_simp; first | done | with_reducible rfl
  rotate_left
  · simp only [Act.put, List.setIfInBounds_toArray, List.set_cons_zero, List.set_cons_succ, i64_w, i32_w]; rfl
  refine pure_ (i := 7) (N := (some 72)) (v := ?_) (a' := ?_) #[true, true, true, true, true, true, true, true, false, false] rfl rfl (by kernel_rfl) (fun _ _ _ h => h) (Or.inl ⟨by rfl, ?_⟩) ?_ ?_
  rotate_left
  · intro w'; go_simp; first | done | with_reducible rfl
  rotate_left
  · simp only [Act.put, List.setIfInBounds_toArray, List.set_cons_zero, List.set_cons_succ, i64_w, i32_w]; rfl
  refine pure_ (i := 8) (N := (some 73)) (v := ?_) (a' := ?_) #[true, true, true, true, true, true, true, true, true, false] rfl rfl (by kernel_rfl) (fun _ _ _ h => h) (Or.inl ⟨by rfl, ?_⟩) ?_ ?_
  rotate_left
  · intro w'; go_simp; first | done | with_reducible rfl
  rotate_left
  · simp only [Act.put, List.setIfInBounds_toArray, List.set_cons_zero, List.set_cons_succ, i64_w, i32_w]; rfl
  refine pure_ (i := 9) (N := (some 6)) (v := ?_) (a' := ?_) #[true, true, true, true, true, true, true, true, true, true] rfl rfl (by kernel_rfl) (fun _ _ _ h => h) (Or.inl ⟨by rfl, ?_⟩) ?_ ?_
  rotate_left
  · intro w'; go_simp; first | done | with_reducible rfl
  rotate_left
  · simp only [Act.put, List.setIfInBounds_toArray, List.set_cons_zero, List.set_cons_succ, i64_w, i32_w]; rfl
  refine done_ (by kernel_rfl) ?_
  clear hrt' hsz
  go_wp2_with fail
  generalize hX : backF (t.extract 0 a) = X
  generalize hY : backF (t.extract a d) = Y
  generalize hZ : backF (t.extract d h) = Z
  have hXs : X.size ≤ 24 := by rw [← hX, back_size, ByteArray.size_extract]; omega
  have hYs : Y.size ≤ 24 := by rw [← hY, back_size, ByteArray.size_extract]; omega
  have hZs : Z.size ≤ 24 := by rw [← hZ, back_size, ByteArray.size_extract]; omega
  have hz1 := not_big (n := X.size + Y.size) (by omega)
  have hz2 := not_big (n := X.size + Y.size + Z.size) (by omega)
  have hfT : decide (t.extract h s.size = X ++ Y ++ Z) = fT t h a b := by
    unfold fT
    rw [HCC.out, hX, hY, hZ, hts]
  have hfL := beq_lists hfT
  generalize hr : fT t h a b = r at hfL ⊢
  have HR := Lib.hid hr
  have HX := Lib.hid hX
  have HYY := Lib.hid hY
  have HZZ := Lib.hid hZ
  clear hX hY hZ hXs hYs hZs hfT
  have has : a ≤ s.size := Nat.le_trans hah hhs
  have hds : d ≤ s.size := Nat.le_trans hdh hhs
  refine start_ (n := 31) (S := fun w' => w'.cell? ⟨B, 0, none⟩ = some (.int .i64 k) ∧ w'.cell? ⟨B, 1, none⟩ = some (.int .i64 a) ∧ w'.cell? ⟨B, 2, none⟩ = some (.int .i64 b) ∧ w'.cell? ⟨B, 3, none⟩ = some (.int .i64 c)) (ds := [27]) #[false, false, false, false, false, false, false, false, false, false, false, false, false, false, false, false, false, false, false, false, false, false, false, false, false, false, false, false, false, false, false] (by kernel_rfl) rfl rfl ⟨by simpa using e0, by simpa using e1, by simpa using e2, by simpa using e3⟩ (fun hHeld => ?_)
  refine pure_ (i := 0) (N := (some 74)) (v := ?_) (a' := ?_) #[true, false, false, false, false, false, false, false, false, false, false, false, false, false, false, false, false, false, false, false, false, false, false, false, false, false, false, false, false, false, false] rfl rfl (by kernel_rfl) (fun _ _ _ h => h) (Or.inl ⟨by rfl, ?_⟩) ?_ ?_
  rotate_left
  · intro w'; go_simp; first | done | with_reducible rfl
  rotate_left
  · simp only [Act.put, List.setIfInBounds_toArray, List.set_cons_zero, List.set_cons_succ, i64_w, i32_w]; rfl
  refine pure_ (i := 1) (N := (some 75)) (v := ?_) (a' := ?_) #[true, true, false, false, false, false, false, false, false, false, false, false, false, false, false, false, false, false, false, false, false, false, false, false, false, false, false, false, false, false, false] rfl rfl (by kernel_rfl) (fun _ _ _ h => h) (Or.inl ⟨by rfl, ?_⟩) ?_ ?_
  rotate_left
  · intro w'; go_simp; first | done | with_reducible rfl
  rotate_left
  · simp only [Act.put, List.setIfInBounds_toArray, List.set_cons_zero, List.set_cons_succ, i64_w, i32_w]; rfl
  refine pure_ (i := 2) (N := (some 76)) (v := ?_) (a' := ?_) #[true, true, true, false, false, false, false, false, false, false, false, false, false, false, false, false, false, false, false, false, false, false, false, false, false, false, false, false, false, false, false] rfl rfl (by kernel_rfl) (fun _ _ _ h => h) (Or.inl ⟨by rfl, ?_⟩) ?_ ?_
  rotate_left
  · intro w'; go_simp; first | done | with_reducible rfl
  rotate_left
  · simp only [Act.put, List.setIfInBounds_toArray, List.set_cons_zero, List.set_cons_succ, i64_w, i32_w]; rfl
  refine pure_ (i := 3) (N := (some 77)) (v := ?_) (a' := ?_) #[true, true, true, true, false, false, false, false, false, false, false, false, false, false, false, false, false, false, false, false, false, false, false, false, false, false, false, false, false, false, false] rfl rfl (by kernel_rfl) (fun _ _ _ h => h) (Or.inl ⟨by rfl, ?_⟩) ?_ ?_
  rotate_left
  · intro w'; go_simp; first | done | with_reducible rfl
  rotate_left
  · simp only [Act.put, List.setIfInBounds_toArray, List.set_cons_zero, List.set_cons_succ, i64_w, i32_w]; rfl
  refine pure_ (i := 4) (N := (some 78)) (v := ?_) (a' := ?_) #[true, true, true, true, true, false, false, false, false, false, false, false, false, false, false, false, false, false, false, false, false, false, false, false, false, false, false, false, false, false, false] rfl rfl (by kernel_rfl) (fun _ _ _ h => h) (Or.inl ⟨by rfl, ?_⟩) ?_ ?_
  rotate_left
  · intro w'; go_simp; first | done | with_reducible rfl
  rotate_left
  · simp only [Act.put, List.setIfInBounds_toArray, List.set_cons_zero, List.set_cons_succ, i64_w, i32_w]; rfl
  refine take_ (i := 5) (N := (some 79)) (v := ?_) (a' := ?_) #[true, true, true, true, true, true, false, false, false, false, false, false, false, false, false, false, false, false, false, false, false, false, false, false, false, false, false, false, false, false, false] rfl rfl (by kernel_rfl) (fun _ _ _ h => h) (Or.inl ⟨by rfl, ?_⟩) hHeld ?_ ?_
  rotate_left
  · rintro w' ⟨s0, s1, s2, s3⟩; go_simp; first | done | with_reducible rfl
  rotate_left
  · simp only [Act.put, List.setIfInBounds_toArray, List.set_cons_zero, List.set_cons_succ, i64_w, i32_w]; rfl
  refine pure_ (i := 6) (N := (some 80)) (v := ?_) (a' := ?_) #[true, true, true, true, true, true, true, false, false, false, false, false, false, false, false, false, false, false, false, false, false, false, false, false, false, false, false, false, false, false, false] rfl rfl (by kernel_rfl) (fun _ _ _ h => h) (Or.inl ⟨by rfl, ?_⟩) ?_ ?_
  rotate_left
  · intro w'; go_simp; first | done | with_reducible rfl
  rotate_left
  · simp only [Act.put, List.setIfInBounds_toArray, List.set_cons_zero, List.set_cons_succ, i64_w, i32_w]; rfl
  refine pure_ (i := 8) (N := (some 82)) (v := ?_) (a' := ?_) #[true, true, true, true, true, true, true, false, true, false, false, false, false, false, false, false, false, false, false, false, false, false, false, false, false, false, false, false, false, false, false] rfl rfl (by kernel_rfl) (fun _ _ _ h => h) (Or.inl ⟨by rfl, ?_⟩) ?_ ?_
  rotate_left
  · intro w'; go_simp; first | done | with_reducible rfl
  rotate_left
  · simp only [Act.put, List.setIfInBounds_toArray, List.set_cons_zero, List.set_cons_succ, i64_w, i32_w]; rfl
  refine pure_ (i := 9) (N := (some 83)) (v := ?_) (a' := ?_) #[true, true, true, true, true, true, true, false, true, true, false, false, false, false, false, false, false, false, false, false, false, false, false, false, false, false, false, false, false, false, false] rfl rfl (by kernel_rfl) (fun _ _ _ h => h) (Or.inl ⟨by rfl, ?_⟩) ?_ ?_
  rotate_left
  · intro w'; go_simp; first | done | with_reducible rfl
  rotate_left
  · simp only [Act.put, List.setIfInBounds_toArray, List.set_cons_zero, List.set_cons_succ, i64_w, i32_w]; rfl
  refine take_ (i := 10) (N := (some 84)) (v := ?_) (a' := ?_) #[true, true, true, true, true, true, true, false, true, true, true, false, false, false, false, false, false, false, false, false, false, false, false, false, false, false, false, false, false, false, false] rfl rfl (by kernel_rfl) (fun _ _ _ h => h) (Or.inl ⟨by rfl, ?_⟩) hHeld ?_ ?_
  rotate_left
  · rintro w' ⟨s0, s1, s2, s3⟩; go_simp; first | done | with_reducible rfl
  rotate_left
  · simp only [Act.put, List.setIfInBounds_toArray, List.set_cons_zero, List.set_cons_succ, i64_w, i32_w]; rfl
  refine pure_ (i := 11) (N := (some 85)) (v := ?_) (a' := ?_) #[true, true, true, true, true, true, true, false, true, true, true, true, false, false, false, false, false, false, false, false, false, false, false, false, false, false, false, false, false, false, false] rfl rfl (by kernel_rfl) (fun _ _ _ h => h) (Or.inl ⟨by rfl, ?_⟩) ?_ ?_
  rotate_left
  · intro w'; go_simp; first | done | with_reducible rfl
  rotate_left
  · simp only [Act.put, List.setIfInBounds_toArray, List.set_cons_zero, List.set_cons_succ, i64_w, i32_w]; rfl
  refine take_ (i := 12) (N := (some 86)) (v := ?_) (a' := ?_) #[true, true, true, true, true, true, true, false, true, true, true, true, true, false, false, false, false, false, false, false, false, false, false, false, false, false, false, false, false, false, false] rfl rfl (by kernel_rfl) (fun _ _ _ h => h) (Or.inl ⟨by rfl, ?_⟩) hHeld ?_ ?_
  rotate_left
  · rintro w' ⟨s0, s1, s2, s3⟩; go_simp; first | done | with_reducible rfl
  rotate_left
  · simp only [Act.put, List.setIfInBounds_toArray, List.set_cons_zero, List.set_cons_succ, i64_w, i32_w]; rfl
  refine pure_ (i := 13) (N := (some 87)) (v := ?_) (a' := ?_) #[true, true, true, true, true, true, true, false, true, true, true, true, true, true, false, false, false, false, false, false, false, false, false, false, false, false, false, false, false, false, false] rfl rfl (by kernel_rfl) (fun _ _ _ h => h) (Or.inl ⟨by rfl, ?_⟩) ?_ ?_
  rotate_left
  · intro w'; go_simp; first | done | with_reducible rfl
  rotate_left
  · simp only [Act.put, List.setIfInBounds_toArray, List.set_cons_zero, List.set_cons_succ, i64_w, i32_w]; rfl
  refine take_ (i := 14) (N := (some 88)) (v := ?_) (a' := ?_) #[true, true, true, true, true, true, true, false, true, true, true, true, true, true, true, false, false, false, false, false, false, false, false, false, false, false, false, false, false, false, false] rfl rfl (by kernel_rfl) (fun _ _ _ h => h) (Or.inl ⟨by rfl, ?_⟩) hHeld ?_ ?_
  rotate_left
  · rintro w' ⟨s0, s1, s2, s3⟩; go_simp; first | done | with_reducible rfl
  rotate_left
  · simp only [Act.put, List.setIfInBounds_toArray, List.set_cons_zero, List.set_cons_succ, i64_w, i32_w]; rfl
  refine pure_ (i := 15) (N := (some 89)) (v := ?_) (a' := ?_) #[true, true, true, true, true, true, true, false, true, true, true, true, true, true, true, true, false, false, false, false, false, false, false, false, false, false, false, false, false, false, false] rfl rfl (by kernel_rfl) (fun _ _ _ h => h) (Or.inl ⟨by rfl, ?_⟩) ?_ ?_
  rotate_left
  · intro w'; go_simp; first | done | with_reducible rfl
  rotate_left
  · simp only [Act.put, List.setIfInBounds_toArray, List.set_cons_zero, List.set_cons_succ, i64_w, i32_w]; rfl
  refine pure_ (i := 16) (N := (some 90)) (v := ?_) (a' := ?_) #[true, true, true, true, true, true, true, false, true, true, true, true, true, true, true, true, true, false, false, false, false, false, false, false, false, false, false, false, false, false, false] rfl rfl (by kernel_rfl) (fun _ _ _ h => h) (Or.inl ⟨by rfl, ?_⟩) ?_ ?_
  rotate_left
  · intro w'; go_simp; first | done | with_reducible rfl
  rotate_left
  · simp only [Act.put, List.setIfInBounds_toArray, List.set_cons_zero, List.set_cons_succ, i64_w, i32_w]; rfl
  refine pure_ (i := 19) (N := (some 93)) (v := ?_) (a' := ?_) #[true, true, true, true, true, true, true, false, true, true, true, true, true, true, true, true, true, false, false, true, false, false, false, false, false, false, false, false, false, false, false] rfl rfl (by kernel_rfl) (fun _ _ _ h => h) (Or.inl ⟨by rfl, ?_⟩) ?_ ?_
  rotate_left
  · intro w'; go_simp; first | done | with_reducible rfl
  rotate_left
  · simp only [Act.put, List.setIfInBounds_toArray, List.set_cons_zero, List.set_cons_succ, i64_w, i32_w]; rfl
  refine pure_ (i := 20) (N := (some 94)) (v := ?_) (a' := ?_) #[true, true, true, true, true, true, true, false, true, true, true, true, true, true, true, true, true, false, false, true, true, false, false, false, false, false, false, false, false, false, false] rfl rfl (by kernel_rfl) (fun _ _ _ h => h) (Or.inl ⟨by rfl, ?_⟩) ?_ ?_
  rotate_left
  · intro w'; go_simp; first | done | with_reducible rfl
  rotate_left
  · simp only [Act.put, List.setIfInBounds_toArray, List.set_cons_zero, List.set_cons_succ, i64_w, i32_w]; rfl
  refine take_ (i := 21) (N := (some 95)) (v := ?_) (a' := ?_) #[true, true, true, true, true, true, true, false, true, true, true, true, true, true, true, true, true, false, false, true, true, true, false, false, false, false, false, false, false, false, false] rfl rfl (by kernel_rfl) (fun _ _ _ h => h) (Or.inl ⟨by rfl, ?_⟩) hHeld ?_ ?_
  rotate_left
  · rintro w' ⟨s0, s1, s2, s3⟩; go_simp; first | done | with_reducible rfl
  rotate_left
  · simp only [Act.put, List.setIfInBounds_toArray, List.set_cons_zero, List.set_cons_succ, i64_w, i32_w]; rfl
  refine pure_ (i := 22) (N := (some 96)) (v := ?_) (a' := ?_) #[true, true, true, true, true, true, true, false, true, true, true, true, true, true, true, true, true, false, false, true, true, true, true, false, false, false, false, false, false, false, false] rfl rfl (by kernel_rfl) (fun _ _ _ h => h) (Or.inl ⟨by rfl, ?_⟩) ?_ ?_
  rotate_left
  · intro w'; go_simp; first | done | with_reducible rfl
  rotate_left
  · simp only [Act.put, List.setIfInBounds_toArray, List.set_cons_zero, List.set_cons_succ, i64_w, i32_w]; rfl
  refine take_ (i := 23) (N := (some 97)) (v := ?_) (a' := ?_) #[true, true, true, true, true, true, true, false, true, true, true, true, true, true, true, true, true, false, false, true, true, true, true, true, false, false, false, false, false, false, false] rfl rfl (by kernel_rfl) (fun _ _ _ h => h) (Or.inl ⟨by rfl, ?_⟩) hHeld ?_ ?_
  rotate_left
  · rintro w' ⟨s0, s1, s2, s3⟩; go_simp; first | done | with_reducible rfl
  rotate_left
  · simp only [Act.put, List.setIfInBounds_toArray, List.set_cons_zero, List.set_cons_succ, i64_w, i32_w]; rfl
  refine pure_ (i := 24) (N := (some 98)) (v := ?_) (a' := ?_) #[true, true, true, true, true, true, true, false, true, true, true, true, true, true, true, true, true, false, false, true, true, true, true, true, true, false, false, false, false, false, false] rfl rfl (by kernel_rfl) (fun _ _ _ h => h) (Or.inl ⟨by rfl, ?_⟩) ?_ ?_
  rotate_left
  · intro w'; go_simp; first | done | with_reducible rfl
  rotate_left
  · simp only [Act.put, List.setIfInBounds_toArray, List.set_cons_zero, List.set_cons_succ, i64_w, i32_w]; rfl
  refine pure_ (i := 25) (N := (some 99)) (v := ?_) (a' := ?_) #[true, true, true, true, true, true, true, false, true, true, true, true, true, true, true, true, true, false, false, true, true, true, true, true, true, true, false, false, false, false, false] rfl rfl (by kernel_rfl) (fun _ _ _ h => h) (Or.inl ⟨by rfl, ?_⟩) ?_ ?_
  rotate_left
  · intro w'; go_simp; first | done | with_reducible rfl
  rotate_left
  · simp only [Act.put, List.setIfInBounds_toArray, List.set_cons_zero, List.set_cons_succ, i64_w, i32_w]; rfl
  refine pure_ (i := 26) (N := (some 100)) (v := ?_) (a' := ?_) #[true, true, true, true, true, true, true, false, true, true, true, true, true, true, true, true, true, false, false, true, true, true, true, true, true, true, true, false, false, false, false] rfl rfl (by kernel_rfl) (fun _ _ _ h => h) (Or.inl ⟨by rfl, ?_⟩) ?_ ?_
  rotate_left
  · intro w'; go_simp; first | done | with_reducible rfl
  rotate_left
  · simp only [Act.put, List.setIfInBounds_toArray, List.set_cons_zero, List.set_cons_succ, i64_w, i32_w]; rfl
  refine one_ (i := 7) (N := (some 81)) #[true, true, true, true, true, true, true, true, true, true, true, true, true, true, true, true, true, false, false, true, true, true, true, true, true, true, true, false, false, false, false] rfl rfl (by kernel_rfl) (by decide) (fun K hK => ?_)
  refine goes_ Tryd.func23 (by kernel_rfl) rfl #[.string (t.extract 0 a)] (by rfl) rfl rfl (by (try simp only [List.map_toArray, List.map_cons, List.map_nil]); first | done | rfl) ?_
  refine (rback_W (cut_W HT.out 0 a (by rw [hts]; exact has)) _).mono ?_
  rintro e w3 ⟨rfl, hb3⟩
  refine ⟨_, rfl, ?_⟩
  rw [HX.out]
  have HB3 := Lib.hid ((Below.refl w1.heap.size w1).drew.drew.trans hb3)
  clear hb3
  refine hK.out _ _ (cells_later HC.out HB3.out) (fun hHeld => ?_)
  clear hK K
  refine norm_ (a' := ?_) ?_ ?_
  rotate_left
  · show Act.put _ (some 81) _ = _; simp only [Act.put, List.setIfInBounds_toArray, List.set_cons_zero, List.set_cons_succ, i64_w, i32_w]; rfl
  refine one_ (i := 17) (N := (some 91)) #[true, true, true, true, true, true, true, true, true, true, true, true, true, true, true, true, true, true, false, true, true, true, true, true, true, true, true, false, false, false, false] rfl rfl (by kernel_rfl) (by decide) (fun K hK => ?_)
  refine goes_ Tryd.func23 (by kernel_rfl) rfl #[.string (t.extract a d)] (by rfl) rfl rfl (by (try simp only [List.map_toArray, List.map_cons, List.map_nil]); first | done | rfl) ?_
  refine (rback_W (cut_W HT.out a d (by rw [HTS.out]; exact hds)) _).mono ?_
  rintro e w4 ⟨rfl, hb4⟩
  refine ⟨_, rfl, ?_⟩
  rw [HYY.out]
  have HB4 := Lib.hid (HB3.out.trans (hb4.mono HB3.out.size))
  clear hb4
  refine hK.out _ _ (cells_later HC.out HB4.out) (fun hHeld => ?_)
  clear hK K
  refine norm_ (a' := ?_) ?_ ?_
  rotate_left
  · show Act.put _ (some 91) _ = _; simp only [Act.put, List.setIfInBounds_toArray, List.set_cons_zero, List.set_cons_succ, i64_w, i32_w]; rfl
  refine pure_ (i := 18) (N := (some 92)) (v := ?_) (a' := ?_) #[true, true, true, true, true, true, true, true, true, true, true, true, true, true, true, true, true, true, true, true, true, true, true, true, true, true, true, false, false, false, false] rfl rfl (by kernel_rfl) (fun _ _ _ h => h) (Or.inl ⟨by rfl, ?_⟩) ?_ ?_
  rotate_left
  · intro w'; go_simp; first | done | with_reducible rfl
  rotate_left
  · simp only [Act.put, List.setIfInBounds_toArray, List.set_cons_zero, List.set_cons_succ, i64_w, i32_w]; rfl
  refine last_ (i := 27) (N := (some 101)) #[true, true, true, true, true, true, true, true, true, true, true, true, true, true, true, true, true, true, true, true, true, true, true, true, true, true, true, true, false, false, false] rfl rfl (by kernel_rfl) (by decide) (fun K hK => ?_)
  refine goes_ Tryd.func23 (by kernel_rfl) rfl #[.string (t.extract d h)] (by rfl) rfl rfl (by (try simp only [List.map_toArray, List.map_cons, List.map_nil]); first | done | rfl) ?_
  refine (rback_W (cut_W HT.out d h (by rw [HTS.out]; exact hhs)) _).mono ?_
  rintro e w5 ⟨rfl, hb5⟩
  refine ⟨_, rfl, ?_⟩
  rw [HZZ.out]
  have HB5 := Lib.hid (HB4.out.trans (hb5.mono HB4.out.size))
  clear hb5
  refine hK.out _ _ ?_
  clear hK K
  refine norm_ (a' := ?_) ?_ ?_
  rotate_left
  · show Act.put _ (some 101) _ = _; simp only [Act.put, List.setIfInBounds_toArray, List.set_cons_zero, List.set_cons_succ, i64_w, i32_w]; rfl
  have HF := Lib.hid (HB.out.trans (HB5.out.mono (show B ≤ w1.heap.size by rw [← hB]; exact HB.out.size)))
  refine pure_ (i := 28) (N := (some 102)) (v := ?_) (a' := ?_) #[true, true, true, true, true, true, true, true, true, true, true, true, true, true, true, true, true, true, true, true, true, true, true, true, true, true, true, true, true, false, false] rfl rfl (by kernel_rfl) (fun _ _ _ h => h) (Or.inl ⟨by rfl, ?_⟩) ?_ ?_
  rotate_left
  · intro w'; go_simp; first | done | with_reducible rfl
  rotate_left
  · simp only [Act.put, List.setIfInBounds_toArray, List.set_cons_zero, List.set_cons_succ, i64_w, i32_w]; rfl
  cases r with
  | true =>
    refine pure_ (i := 29) (N := (some 103)) (v := (.bool true)) (a' := ?_) #[true, true, true, true, true, true, true, true, true, true, true, true, true, true, true, true, true, true, true, true, true, true, true, true, true, true, true, true, true, true, false] rfl rfl (by kernel_rfl) (fun _ _ _ h => h) (Or.inl ⟨by rfl, ?_⟩) ?_ ?_
    · intro w'; go_simp; first | done | with_reducible rfl
    rotate_left
    · simp only [Act.put, List.setIfInBounds_toArray, List.set_cons_zero, List.set_cons_succ, i64_w, i32_w]; rfl
    refine pure_ (i := 30) (N := (some 4)) (v := ?_) (a' := ?_) #[true, true, true, true, true, true, true, true, true, true, true, true, true, true, true, true, true, true, true, true, true, true, true, true, true, true, true, true, true, true, true] rfl rfl (by kernel_rfl) (fun _ _ _ h => h) (Or.inl ⟨by rfl, ?_⟩) ?_ ?_
    rotate_left
    · intro w'; go_simp; first | done | with_reducible rfl
    rotate_left
    · simp only [Act.put, List.setIfInBounds_toArray, List.set_cons_zero, List.set_cons_succ, i64_w, i32_w]; rfl
    refine done_ (by kernel_rfl) ?_
    go_wp2
    go_ret
    exact ⟨by rw [HRT.out, HR.out]; rfl, by first | exact HF.out | exact hB ▸ HF.out⟩
  | false =>
    refine pure_ (i := 29) (N := (some 103)) (v := (.bool false)) (a' := ?_) #[true, true, true, true, true, true, true, true, true, true, true, true, true, true, true, true, true, true, true, true, true, true, true, true, true, true, true, true, true, true, false] rfl rfl (by kernel_rfl) (fun _ _ _ h => h) (Or.inl ⟨by rfl, ?_⟩) ?_ ?_
    · intro w'; go_simp; first | done | with_reducible rfl
    rotate_left
    · simp only [Act.put, List.setIfInBounds_toArray, List.set_cons_zero, List.set_cons_succ, i64_w, i32_w]; rfl
    refine pure_ (i := 30) (N := (some 4)) (v := ?_) (a' := ?_) #[true, true, true, true, true, true, true, true, true, true, true, true, true, true, true, true, true, true, true, true, true, true, true, true, true, true, true, true, true, true, true] rfl rfl (by kernel_rfl) (fun _ _ _ h => h) (Or.inl ⟨by rfl, ?_⟩) ?_ ?_
    rotate_left
    · intro w'; go_simp; first | done | with_reducible rfl
    rotate_left
    · simp only [Act.put, List.setIfInBounds_toArray, List.set_cons_zero, List.set_cons_succ, i64_w, i32_w]; rfl
    refine done_ (by kernel_rfl) ?_
    go_wp2
    go_ret
    exact ⟨by rw [HRT.out, HR.out]; rfl, by first | exact HF.out | exact hB ▸ HF.out⟩
end Go.Proofs.YtpfenoioeajkmaaDoor.X
end

section
set_option linter.unusedVariables false
set_option linter.unusedSimpArgs false
namespace Go.Proofs.YtpfenoioeajkmaaDoor.X
open Go.RowKit Go.Proofs.YtpfenoioeajkmaaDoorW.PrintWords Go.Proofs.YtpfenoioeajkmaaDoorW.PrintLast Go.Proofs.YtpfenoioeajkmaaDoorW.PrintMore Go.Proofs.YtpfenoioeajkmaaDoor.L
theorem ris_calls (s : ByteArray) (hs : s.size ≤ 140737488351232) (w : World) : Calls Tryd.prog 24 #[.string s] w fun e w' => e = .returned (.bool (isO s)) ∧ Below w.heap.size w w' := ref_Is.calls s _ w (RIs_f hs)
theorem blk_name {w : World} (o : Obj) : ∃ w' B, w' = w.alloc o ∧ w.heap.size = B ∧ w'.heap[B]? = some o ∧ Below w.heap.size w w' ∧ B < w'.heap.size :=
  ⟨_, _, rfl, rfl, World.alloc_heap_new w o, below_one o, by simp⟩
theorem mem_fB {s : ByteArray} {k a : Nat} {x : Fct} : ∀ {m}, x ∈ fB s k a m → ∃ b, 1 ≤ b ∧ b ≤ m ∧ fT (rotF s k) (s.size / 2) a b = true ∧ x = (k, a, b, s.size / 2 - a - b)
  | 0, h => by cases h
  | m + 1, h => by
    rw [fB, List.mem_append] at h
    rcases h with h | h
    · obtain ⟨b, h1, h2, h3⟩ := mem_fB h
      exact ⟨b, h1, by omega, h3⟩
    · by_cases e : fT (rotF s k) (s.size / 2) a (m + 1) = true
      · rw [if_pos e, List.mem_singleton] at h
        exact ⟨m + 1, by omega, Nat.le_refl _, e, h⟩
      · rw [if_neg e] at h
        cases h
theorem mem_fA {s : ByteArray} {k : Nat} {x : Fct} : ∀ {m}, x ∈ fA s k m → ∃ a b, 1 ≤ a ∧ a ≤ m ∧ 1 ≤ b ∧ b ≤ s.size / 2 - a ∧ fT (rotF s k) (s.size / 2) a b = true ∧ x = (k, a, b, s.size / 2 - a - b)
  | 0, h => by cases h
  | m + 1, h => by
    rw [fA, List.mem_append] at h
    rcases h with h | h
    · obtain ⟨a, b, h1, h2, h3⟩ := mem_fA h
      exact ⟨a, b, h1, by omega, h3⟩
    · obtain ⟨b, h1, h2, h3⟩ := mem_fB h
      exact ⟨m + 1, b, by omega, Nat.le_refl _, h1, h2, h3⟩
theorem mem_fK {s : ByteArray} {x : Fct} : ∀ {m}, x ∈ fK s m → ∃ k a b, k < m ∧ 1 ≤ a ∧ a ≤ s.size / 2 - 1 ∧ 1 ≤ b ∧ b ≤ s.size / 2 - a ∧ fT (rotF s k) (s.size / 2) a b = true ∧ x = (k, a, b, s.size / 2 - a - b)
  | 0, h => by cases h
  | m + 1, h => by
    rw [fK, List.mem_append] at h
    rcases h with h | h
    · obtain ⟨k, a, b, h1, h2⟩ := mem_fK h
      exact ⟨k, a, b, by omega, h2⟩
    · obtain ⟨a, b, h1, h2, h3⟩ := mem_fA h
      exact ⟨m, a, b, by omega, h1, h2, h3⟩
theorem mem_facs {s : ByteArray} {x : Fct} (h : x ∈ facs s) : ∃ k a b, k < s.size ∧ 1 ≤ a ∧ a ≤ s.size / 2 - 1 ∧ 1 ≤ b ∧ b ≤ s.size / 2 - a ∧ fT (rotF s k) (s.size / 2) a b = true ∧ x = (k, a, b, s.size / 2 - a - b) := mem_fK h
theorem Factor_none {s : ByteArray} (h : isO s = true) (hf : facs s = []) (w : World) : Calls Tryd.prog 32 #[.string s] w fun e w' => e = .returned (.tuple #[encF (0, 0, 0, 0), .int .i64 4]) ∧ Below w.heap.size w w' := by
  have := Factor_yes s h w
  rw [hf] at this
  exact this
theorem Factor_some {s : ByteArray} (h : isO s = true) {x : Fct} {l : List Fct} (hf : facs s = x :: l) (w : World) : Calls Tryd.prog 32 #[.string s] w fun e w' => e = .returned (.tuple #[encF x, .int .i64 0]) ∧ Below w.heap.size w w' := by
  have := Factor_yes s h w
  rw [hf] at this
  exact this
end Go.Proofs.YtpfenoioeajkmaaDoor.X
end

section
set_option linter.unusedVariables false
set_option linter.unusedSimpArgs false
namespace Go.Proofs.YtpfenoioeajkmaaDoor.X
open Go.RowKit Go.Proofs.YtpfenoioeajkmaaDoorW.PrintWords Go.Proofs.YtpfenoioeajkmaaDoorW.PrintLast Go.Proofs.YtpfenoioeajkmaaDoorW.PrintMore Go.Proofs.YtpfenoioeajkmaaDoor.L
def fV (f : Fct) : List Value := [.int .i64 f.1, .int .i64 f.2.1, .int .i64 f.2.2.1, .int .i64 f.2.2.2]
def flatF : List Fct → List Value
  | [] => []
  | f :: l => fV f ++ flatF l
theorem flatF_app : ∀ (l m : List Fct), flatF (l ++ m) = flatF l ++ flatF m
  | [], m => rfl
  | f :: l, m => by rw [List.cons_append, flatF, flatF, flatF_app l m, List.append_assoc]
theorem flatF_one (f : Fct) : flatF [f] = fV f := List.append_nil _
theorem info34 : (Tryd.prog.info? 34).map (fun i => (i.zero, i.size, i.bytes)) = some (some (.agg #[.int .i64 0, .int .i64 0, .int .i64 0, .int .i64 0]), 4, 32) := by kernel_rfl
theorem four_new (w : World) (t : TypeId) (a b c d : Value) : ∀ (j : Nat) z, ([a, b, c, d] : List Value)[j]? = some z → (w.alloc (.cells #[a, b, c, d] t)).cell? ((⟨w.heap.size, 0, none⟩ : Addr).add j) = some z := fun j z hz => by
  have hj : j = 0 ∨ j = 1 ∨ j = 2 ∨ j = 3 := by
    have := (List.getElem?_eq_some_iff.1 hz).1
    simp at this
    omega
  rcases hj with rfl | rfl | rfl | rfl <;> simp at hz <;> simp [Addr.add, hz]
theorem own_growS {B : Nat} {u w w1 : World} {e sz n : Nat} {v : Value} {xs : List Value} (hb : Below B u w) (hs : w.ownsRow u.heap.size e sz v n xs) (hg : w.grownBy w1 v.ownBlock) (hB : B = u.heap.size := by rfl) : Below B u w1 := by
  subst hB
  refine hb.grown hg hb.size fun k hk => ?_
  obtain ⟨_, ⟨h, _⟩ | ⟨g, cap, cur, h, h2, _⟩⟩ := hs
  · rw [h] at hk
    simp [Value.ownBlock] at hk
  · rw [h] at hk
    simp [Value.ownBlock] at hk
    omega
def OwnF (B : Nat) (w : World) (v : Value) (l : List Fct) : Prop := w.ownsRow B 34 4 v l.length (flatF l)
set_option maxHeartbeats 16000000 in
set_option maxRecDepth 100000 in
theorem rfactors_calls (s : ByteArray) (hw : isW s = true) (h2 : 2 ≤ s.size) (w : World) :
    Calls Tryd.prog 60 #[.string s] w fun e w' => (∃ v, e = .returned v ∧ OwnF w.heap.size w' v (facs s)) ∧ Below w.heap.size w w' := by
  have hs24 := isW_le hw
  have HW := Lib.hid hw
  clear hw
  obtain ⟨h, hh⟩ : ∃ h, s.size / 2 = h := ⟨_, rfl⟩
  have hq : ((s.size : Int).tdiv 2) = (h : Int) := by rw [← hh]; exact Int.ofNat_tdiv _ 2
  have hq2 : ((s.size : Int) / 2) = (h : Int) := by rw [← hh]; rfl
  have h1 : 1 ≤ h := by omega
  have hhs : h ≤ s.size := by omega
  have HH := Lib.hid hh
  clear hh
  go_enter Tryd.func60, Tryd.ntmps60
  go_wp2_with fail
  have HB := Lib.hid (Below.refl w.heap.size w)
  have HO : Hid (OwnF w.heap.size w (.slice none 0 0) (fK s 0)) := Lib.hid (World.ownsRow_nil w w.heap.size 34 4)
  clear hq hq2
  go_loopw [14, 3] (fun i v wr => ∃ k : Nat, k ≤ s.size ∧ i = .int .i64 k ∧ Hid (OwnF w.heap.size wr v (fK s k)) ∧ Hid (Below w.heap.size w wr)) (fun i _ _ => s.size - (intOf i).toNat)
  case atStart => exact ⟨0, by omega, rfl, HO, HB⟩
  case round =>
    clear HO HB
    obtain ⟨k, hk, rfl, HO, HB⟩ := hrel
    by_cases hlt : k < s.size
    · go_wp2_with fail
      obtain ⟨wo, rfl⟩ : ∃ wo : World, wo = wr := ⟨_, rfl⟩
      go_loopw [6, 3] (fun i v wr => ∃ a : Nat, 1 ≤ a ∧ (a ≤ h ∨ a = 1) ∧ i = .int .i64 a ∧ Hid (OwnF w.heap.size wr v (fK s k ++ fA s k (a - 1))) ∧ Hid (Below w.heap.size w wr)) (fun i _ _ => h + 1 - (intOf i).toNat)
      case atStart => exact ⟨1, by omega, by omega, rfl, by rw [show (1 - 1 : Nat) = 0 by rfl, fA, List.append_nil]; exact HO, HB⟩
      case round =>
        clear HO HB
        obtain ⟨a, ha1, ha2, rfl, HO, HB⟩ := hrel
        by_cases hah : a < h
        · go_wp2_with fail
          obtain ⟨wp, rfl⟩ : ∃ wp : World, wp = wr := ⟨_, rfl⟩
          go_loopw [7, 3] (fun i v wr => ∃ b : Nat, 1 ≤ b ∧ b ≤ h - a + 1 ∧ i = .int .i64 b ∧ Hid (OwnF w.heap.size wr v (fK s k ++ fA s k (a - 1) ++ fB s k a (b - 1))) ∧ Hid (Below w.heap.size w wr)) (fun i _ _ => h + 1 - (intOf i).toNat)
          case atStart => exact ⟨1, by omega, by omega, rfl, by rw [show (1 - 1 : Nat) = 0 by rfl, fB, List.append_nil]; exact HO, HB⟩
          case round =>
            clear HO HB
            obtain ⟨b, hb1, hb2, rfl, HO, HB⟩ := hrel
            have hab : wrap64 ((a : Int) + (b : Int)) = ((a + b : Nat) : Int) := by unfold wrap64; omega
            have hac : a ≤ a + b := by omega
            have HQ := Lib.hid (And.intro hb1 hb2)
            generalize hcc : a + b = c at hab hac
            have HCC := Lib.hid hcc
            clear hcc hb1 hb2
            by_cases hbh : c ≤ h
            · have hfc : wrap64 ((h : Int) - a - b) = ((h - a - b : Nat) : Int) := by have := HQ.out; have := HCC.out; unfold wrap64; omega
              have HIF := Lib.hid (IsFactor_calls s k a b (h - a - b) h HW.out hlt ha1 HQ.out.1 HH.out (by have := HCC.out; omega))
              unfold encF at HIF
              dsimp only at HIF
              go_wp2_with fail
              obtain ⟨w5, B5, e5, f5, g5, b5, z5⟩ := blk_name (w := wr) (.cells #[.int .i64 k, .int .i64 a, .int .i64 b, .int .i64 ((h - a - b : Nat) : Int)] 34)
              have HO5 : Hid (OwnF w.heap.size w5 u3 _) := Lib.hid (pw_own_below HO.out b5)
              have HB5 := Lib.hid (HB.out.trans (b5.mono HB.out.size))
              rw [← e5, f5]
              refine (HIF.out _).mono ?_
              rintro e w6 ⟨rfl, hb6⟩
              have g6 := (hb6.block _ z5).trans g5
              have e0 := blk_at g6 0 rfl
              have e1 := blk_at g6 1 rfl
              have e2 := blk_at g6 2 rfl
              have e3 := blk_at g6 3 rfl
              have HO6 : Hid (OwnF w.heap.size w6 u3 _) := Lib.hid (pw_own_below HO5.out hb6)
              have HB6 := Lib.hid (HB5.out.trans (hb6.mono HB5.out.size))
              clear hb6 b5 e5 f5 g5 z5 g6 HB5 HO5 HO HB
              cases hf : fT (rotF s k) h a b with
              | true =>
                have HFT := Lib.hid hf
                clear hf
                obtain ⟨i0, hi0, hz0, hz1, hz2⟩ := info_parts info34
                have HI := Lib.hid hi0
                have HZ := Lib.hid (And.intro hz0 (And.intro hz1 hz2))
                clear hi0 hz0 hz1 hz2
                have hb7 := below_one (w := w6) (.cells #[.int .i64 k, .int .i64 a, .int .i64 b, .int .i64 ((h - a - b : Nat) : Int)] 34)
                have HO7 : Hid (w6.alloc (.cells #[.int .i64 k, .int .i64 a, .int .i64 b, .int .i64 ((h - a - b : Nat) : Int)] 34) |>.ownsRow w.heap.size 34 4 u3 _ _) := Lib.hid (pw_own_below HO6.out hb7)
                have HB7 := Lib.hid (HB6.out.trans (hb7.mono HB6.out.size))
                have hlen : (fK s k ++ fA s k (a - 1) ++ fB s k a (b - 1)).length ≤ 24 * (12 * 12) := Nat.le_trans (List.IsPrefix.length_le (List.IsPrefix.trans (List.prefix_append _ _) (yes_pre HFT.out rfl HH.out ha1 HQ.out.1 HCC.out hbh hah hlt))) (facs_len hs24)
                have HL := Lib.hid hlen
                clear hb7 hlen
                go_wp2_with (first | (at_builtin; go_loud (refine wpList_append_own_at _ rfl (.tmp 41) (.tmp 43) 65 rfl w.heap.size 34 i0 _ 4 32 Tryd.underlying65 HI.out HZ.out.1 HZ.out.2.1 HZ.out.2.2 rfl (by decide) u3 _ _ rfl HO7.out ⟨w6.heap.size, 0, none⟩ 1 1 [.int .i64 k, .int .i64 a, .int .i64 b, .int .i64 ((h - a - b : Nat) : Int)] rfl rfl (four_new _ _ _ _ _ _) (by simp [Value.oneCell']) (by have := HL.out; unfold maxLen; omega) (by have := HL.out; omega) HB7.out.size ?_); intro v1 w8 hown1 hgrow1 _ _; have HO8 := Lib.hid hown1; have HB8 := Lib.hid (own_growS HB7.out HO7.out hgrow1); clear hown1 hgrow1) | go_in)
                rw [wrap_succ (a := b) (by have := HQ.out; omega)]
                refine ⟨⟨b + 1, by omega, by have := HQ.out; have := HCC.out; omega, rfl, ?_, HB8⟩, by simp [intOf]; have := HQ.out; have := HCC.out; omega⟩
                rw [← yes_step HFT.out rfl HH.out HQ.out.1]
                refine Lib.hid ?_
                unfold OwnF
                rw [List.length_append, flatF_app, flatF_one]
                exact HO8.out
              | false =>
                have HFT := Lib.hid hf
                clear hf
                go_wp2_with fail
                rw [wrap_succ (a := b) (by have := HQ.out; omega)]
                refine ⟨⟨b + 1, by omega, by have := HQ.out; have := HCC.out; omega, rfl, ?_, HB6⟩, by simp [intOf]; have := HQ.out; have := HCC.out; omega⟩
                rw [← no_step HFT.out rfl HH.out HQ.out.1]
                exact HO6
            · go_wp2_with fail
              refine ⟨⟨a + 1, Nat.le_add_left _ _, .inl hah, by go_num, ?_, HB⟩, by simp [intOf]; omega⟩
              rw [← row_step HH.out ha1 HQ.out.1 HQ.out.2 HCC.out hbh hah]
              exact HO
        · go_wp2_with fail
          refine ⟨⟨k + 1, by omega, by go_num, ?_, HB⟩, by simp [intOf]; omega⟩
          rw [fK, HH.out, show h - 1 = a - 1 by omega]
          exact HO
    · obtain rfl : k = s.size := by omega
      go_wp2
      go_ret
      exact ⟨⟨_, rfl, HO.out⟩, HB.out⟩
end Go.Proofs.YtpfenoioeajkmaaDoor.X
end

section
set_option linter.unusedVariables false
set_option linter.unusedSimpArgs false
namespace Go.Proofs.YtpfenoioeajkmaaDoor.X
open Go.RowKit Go.Proofs.YtpfenoioeajkmaaDoorW.PrintWords Go.Proofs.YtpfenoioeajkmaaDoorW.PrintLast Go.Proofs.YtpfenoioeajkmaaDoorW.PrintMore Go.Proofs.YtpfenoioeajkmaaDoor.L
theorem own_len {B : Nat} {w : World} {v : Value} {l : List Fct} (h : OwnF B w v l) : ∃ A c, v = .slice A l.length c := by
  obtain ⟨_, ⟨h, h0⟩ | ⟨g, cap, cur, rfl, hg, hb, hn, _, hs, ht⟩⟩ := h
  · exact ⟨none, 0, by rw [h, h0]⟩
  · exact ⟨_, _, rfl⟩
theorem own_first {B : Nat} {w : World} {v : Value} {x : Fct} {l : List Fct} (h : OwnF B w v (x :: l)) :
    ∃ g cap, v = .slice (some ⟨g, 0, none⟩) (l.length + 1) cap ∧ w.cell? ⟨g, 0, none⟩ = some (.int .i64 x.1) ∧ w.cell? ⟨g, 1, none⟩ = some (.int .i64 x.2.1) ∧ w.cell? ⟨g, 2, none⟩ = some (.int .i64 x.2.2.1) ∧ w.cell? ⟨g, 3, none⟩ = some (.int .i64 x.2.2.2) := by
  obtain ⟨_, ⟨h, h0⟩ | ⟨g, cap, cur, rfl, hg, hb, hn, _, hs, ht⟩⟩ := h
  · cases h0
  · refine ⟨g, cap, rfl, ?_⟩
    have key : ∀ j u, j < 4 → (fV x)[j]? = some u → w.cell? ⟨g, j, none⟩ = some u := fun j u hj hu => by
      have e : (flatF (x :: l))[j]? = some u := by
        rw [flatF, List.getElem?_append_left (by simpa [fV] using hj)]
        exact hu
      rw [← ht, List.getElem?_take, if_pos (by simp; omega)] at e
      have e' : cur[j]? = some u := by simpa using e
      unfold World.cell?
      simp only [hb]
      simpa using e'
    exact ⟨key 0 _ (by omega) rfl, key 1 _ (by omega) rfl, key 2 _ (by omega) rfl, key 3 _ (by omega) rfl⟩
theorem four_set {W : World} {b : Nat} {t : TypeId} {x0 x1 x2 x3 y0 y1 y2 y3 : Value} (h : W.heap[b]? = some (.cells #[x0, x1, x2, x3] t)) :
    ((((W.setCell ⟨b, 0, none⟩ y0).setCell ⟨b, 1, none⟩ y1).setCell ⟨b, 2, none⟩ y2).setCell ⟨b, 3, none⟩ y3).heap[b]? = some (.cells #[y0, y1, y2, y3] t) := by
  have h1 := setCell_blk h 0 y0
  have h2 := setCell_blk h1 1 y1
  have h3 := setCell_blk h2 2 y2
  have h4 := setCell_blk h3 3 y3
  rw [h4]
  rfl
theorem four_below {W w : World} {B b : Nat} {k a c d : Value} (h : Below B w W) (hB : B ≤ b) : Below B w ((((W.setCell ⟨b, 0, none⟩ k).setCell ⟨b, 1, none⟩ a).setCell ⟨b, 2, none⟩ c).setCell ⟨b, 3, none⟩ d) :=
  (((h.setCell (p := ⟨b, 0, none⟩) hB _).setCell (p := ⟨b, 1, none⟩) hB _).setCell (p := ⟨b, 2, none⟩) hB _).setCell (p := ⟨b, 3, none⟩) hB _
set_option maxHeartbeats 4000000 in
set_option maxRecDepth 100000 in
theorem rFactors_calls (s : ByteArray) (hw : isW s = true) (h2 : 2 ≤ s.size) (w : World) :
    Calls Tryd.prog 38 #[.string s] w fun e w' => e = .returned (.int .i64 (facs s).length) ∧ Below w.heap.size w w' := by
  have HF := Lib.hid (rfactors_calls s hw h2)
  clear hw h2
  go_enter Tryd.func38, Tryd.ntmps38
  go_wp2_with fail
  refine (HF.out _).mono ?_
  rintro e w1 ⟨⟨v, rfl, ho⟩, hb1⟩
  obtain ⟨A, c, rfl⟩ := own_len ho
  clear ho
  have H1 := Lib.hid hb1
  clear hb1
  go_wp2
  go_ret
  exact ⟨rfl, H1.out⟩
set_option maxHeartbeats 4000000 in
set_option maxRecDepth 100000 in
theorem rFactor_none (s : ByteArray) (hw : isW s = true) (h2 : 2 ≤ s.size) (hf : facs s = []) (w : World) :
    Calls Tryd.prog 36 #[.string s] w fun e w' => e = .returned (.tuple #[encF (0, 0, 0, 0), .int .i64 4]) ∧ Below w.heap.size w w' := by
  have HF := Lib.hid (rfactors_calls s hw h2)
  have HL := Lib.hid hf
  clear hw h2 hf
  go_enter Tryd.func36, Tryd.ntmps36
  go_wp2_with fail
  refine (HF.out _).mono ?_
  rintro e w1 ⟨⟨v, rfl, ho⟩, hb1⟩
  rw [HL.out] at ho
  obtain ⟨A, c, rfl⟩ := own_len ho
  clear ho
  have g1 := (hb1.block w.heap.size (by simp)).trans (World.alloc_heap_new w _)
  have H1 := Lib.hid ((below_one _).trans (hb1.mono (by simp)))
  clear hb1
  have e0 := blk_at g1 0 rfl
  have e1 := blk_at g1 1 rfl
  have e2 := blk_at g1 2 rfl
  have e3 := blk_at g1 3 rfl
  have f0 := blk_free g1 0 (by decide)
  have f1 := blk_free g1 1 (by decide)
  have f2 := blk_free g1 2 (by decide)
  have f3 := blk_free g1 3 (by decide)
  rw [List.length_nil]
  go_wp2
  have n1 := four_set (y0 := .int .i64 0) (y1 := .int .i64 0) (y2 := .int .i64 0) (y3 := .int .i64 0) g1
  have n2 := four_below (k := .int .i64 0) (a := .int .i64 0) (c := .int .i64 0) (d := .int .i64 0) H1.out (Nat.le_refl w.heap.size)
  generalize ((((w1.setCell ⟨w.heap.size, 0, none⟩ (.int .i64 0)).setCell ⟨w.heap.size, 1, none⟩ (.int .i64 0)).setCell ⟨w.heap.size, 2, none⟩ (.int .i64 0)).setCell ⟨w.heap.size, 3, none⟩ (.int .i64 0)) = W5 at n1 n2 ⊢
  have k0 := blk_at n1 0 rfl
  have k1 := blk_at n1 1 rfl
  have k2 := blk_at n1 2 rfl
  have k3 := blk_at n1 3 rfl
  exact bodyPost_ret (v := .tuple #[.agg #[.int .i64 0, .int .i64 0, .int .i64 0, .int .i64 0], .int .i64 4]) (by simp [results, Tryd.f36, go_sem, k0, k1, k2, k3]) rfl ⟨rfl, n2⟩
set_option maxHeartbeats 4000000 in
set_option maxRecDepth 100000 in
theorem rFactor_some (s : ByteArray) (hw : isW s = true) (h2 : 2 ≤ s.size) (k a b c : Nat) (l : List Fct) (hf : facs s = (k, a, b, c) :: l) (w : World) :
    Calls Tryd.prog 36 #[.string s] w fun e w' => e = .returned (.tuple #[encF (k, a, b, c), .int .i64 0]) ∧ Below w.heap.size w w' := by
  have HF := Lib.hid (rfactors_calls s hw h2)
  have HL := Lib.hid hf
  clear hw h2 hf
  go_enter Tryd.func36, Tryd.ntmps36
  go_wp2_with fail
  refine (HF.out _).mono ?_
  rintro e w1 ⟨⟨v, rfl, ho⟩, hb1⟩
  rw [HL.out] at ho
  obtain ⟨g, cap, rfl, c0, c1, c2, c3⟩ := own_first ho
  dsimp only at c0 c1 c2 c3
  clear ho
  have g1 := (hb1.block w.heap.size (by simp)).trans (World.alloc_heap_new w _)
  have H1 := Lib.hid ((below_one _).trans (hb1.mono (by simp)))
  clear hb1
  have e0 := blk_at g1 0 rfl
  have e1 := blk_at g1 1 rfl
  have e2 := blk_at g1 2 rfl
  have e3 := blk_at g1 3 rfl
  have f0 := blk_free g1 0 (by decide)
  have f1 := blk_free g1 1 (by decide)
  have f2 := blk_free g1 2 (by decide)
  have f3 := blk_free g1 3 (by decide)
  have hl : ((((l.length + 1 : Nat) : Int)) == 0) = false := by simp; omega
  have hl2 : 0 < l.length + 1 := by omega
  go_wp2
  have n1 := four_set (y0 := .int .i64 k) (y1 := .int .i64 a) (y2 := .int .i64 b) (y3 := .int .i64 c) g1
  have n2 := four_below (k := .int .i64 k) (a := .int .i64 a) (c := .int .i64 b) (d := .int .i64 c) H1.out (Nat.le_refl w.heap.size)
  generalize ((((w1.setCell ⟨w.heap.size, 0, none⟩ (.int .i64 k)).setCell ⟨w.heap.size, 1, none⟩ (.int .i64 a)).setCell ⟨w.heap.size, 2, none⟩ (.int .i64 b)).setCell ⟨w.heap.size, 3, none⟩ (.int .i64 c)) = W5 at n1 n2 ⊢
  have k0 := blk_at n1 0 rfl
  have k1 := blk_at n1 1 rfl
  have k2 := blk_at n1 2 rfl
  have k3 := blk_at n1 3 rfl
  exact bodyPost_ret (v := .tuple #[.agg #[.int .i64 k, .int .i64 a, .int .i64 b, .int .i64 c], .int .i64 0]) (by simp [results, Tryd.f36, go_sem, k0, k1, k2, k3]) rfl ⟨rfl, n2⟩
end Go.Proofs.YtpfenoioeajkmaaDoor.X
end

section
set_option linter.unusedVariables false
set_option linter.unusedSimpArgs false
namespace Go.Proofs.YtpfenoioeajkmaaDoor.X
open Go.RowKit Go.Proofs.YtpfenoioeajkmaaDoorW.PrintWords Go.Proofs.YtpfenoioeajkmaaDoorW.PrintLast Go.Proofs.YtpfenoioeajkmaaDoorW.PrintMore Go.Proofs.YtpfenoioeajkmaaDoor.L
def vecV (a b c d : Int) : Value := .agg #[.int .i64 a, .int .i64 b, .int .i64 c, .int .i64 d]
set_option maxHeartbeats 4000000 in
set_option maxRecDepth 100000 in
theorem Vectors_err (s : ByteArray) (c : Int) (hc : (c != 0) = true) (hF : ∀ w, Calls Tryd.prog 32 #[.string s] w fun e w' => e = .returned (.tuple #[encF (0, 0, 0, 0), .int .i64 c]) ∧ Below w.heap.size w w') (w : World) :
    Calls Tryd.prog 35 #[.string s] w fun e w' => e = .returned (.tuple #[vecV 0 0 0 0, .int .i64 c]) ∧ Below w.heap.size w w' := by
  have HF := Lib.hid hF
  clear hF
  unfold encF at HF
  go_enter Tryd.func35, Tryd.ntmps35
  go_wp2_with fail
  refine (HF.out _).mono ?_
  rintro e w1 ⟨rfl, hb1⟩
  have g0 := World.alloc_heap_new w (.cells #[.int .i64 0, .int .i64 0, .int .i64 0, .int .i64 0] 40)
  have g1 := (hb1.block w.heap.size (by simp)).trans g0
  have H1 := Lib.hid ((below_one _).trans (hb1.mono (by simp)))
  clear hb1 g0
  have hB : w.heap.size < w1.heap.size := (Array.getElem?_eq_some_iff.1 g1).1
  have e0 := blk_at g1 0 rfl
  have e1 := blk_at g1 1 rfl
  have e2 := blk_at g1 2 rfl
  have e3 := blk_at g1 3 rfl
  have f0 := blk_free g1 0 (by decide)
  have f1 := blk_free g1 1 (by decide)
  have f2 := blk_free g1 2 (by decide)
  have f3 := blk_free g1 3 (by decide)
  go_wp2
  have n1 := four_set (y0 := .int .i64 0) (y1 := .int .i64 0) (y2 := .int .i64 0) (y3 := .int .i64 0) g1
  have n2 := four_below (k := .int .i64 0) (a := .int .i64 0) (c := .int .i64 0) (d := .int .i64 0) H1.out (Nat.le_refl w.heap.size)
  generalize ((((w1.setCell ⟨w.heap.size, 0, none⟩ (.int .i64 0)).setCell ⟨w.heap.size, 1, none⟩ (.int .i64 0)).setCell ⟨w.heap.size, 2, none⟩ (.int .i64 0)).setCell ⟨w.heap.size, 3, none⟩ (.int .i64 0)) = W5 at n1 n2 ⊢
  have n3 := (Below.heap_alloc W5 (.cells #[.int .i64 0, .int .i64 0, .int .i64 0, .int .i64 0] 34) _ (Array.getElem?_eq_some_iff.1 n1).1).trans n1
  have n4 := n2.alloc n2.size (.cells #[.int .i64 0, .int .i64 0, .int .i64 0, .int .i64 0] 34)
  generalize W5.alloc (.cells #[.int .i64 0, .int .i64 0, .int .i64 0, .int .i64 0] 34) = W6 at n3 n4 ⊢
  have k0 := blk_at n3 0 rfl
  have k1 := blk_at n3 1 rfl
  have k2 := blk_at n3 2 rfl
  have k3 := blk_at n3 3 rfl
  exact bodyPost_ret (v := .tuple #[.agg #[.int .i64 0, .int .i64 0, .int .i64 0, .int .i64 0], .int .i64 c]) (by simp [results, Tryd.f35, go_sem, k0, k1, k2, k3]) rfl ⟨rfl, n4⟩
set_option maxHeartbeats 4000000 in
set_option maxRecDepth 100000 in
theorem Vectors_some (s t : ByteArray) (k a b c : Nat) (x1 y1 x2 y2 : Int) (hs : s.size ≤ 24) (hk : k < s.size) (ht : rotF s k = t) (habc : a + b + c ≤ s.size) (hF : ∀ w, Calls Tryd.prog 32 #[.string s] w fun e w' => e = .returned (.tuple #[encF (k, a, b, c), .int .i64 0]) ∧ Below w.heap.size w w')
    (h1 : sumx (t.extract 0 (a + b)) (t.extract 0 (a + b)).size = x1) (h2 : sumy (t.extract 0 (a + b)) (t.extract 0 (a + b)).size = y1) (h3 : sumx (t.extract a (a + b + c)) (t.extract a (a + b + c)).size = x2) (h4 : sumy (t.extract a (a + b + c)) (t.extract a (a + b + c)).size = y2) (w : World) :
    Calls Tryd.prog 35 #[.string s] w fun e w' => e = .returned (.tuple #[vecV x1 y1 x2 y2, .int .i64 0]) ∧ Below w.heap.size w w' := by
  have hX : (t.extract 0 (a + b)).size ≤ 1000 := by rw [ByteArray.size_extract]; have := rot_size s (Nat.le_of_lt hk); rw [ht] at this; omega
  have hY : (t.extract a (a + b + c)).size ≤ 1000 := by rw [ByteArray.size_extract]; have := rot_size s (Nat.le_of_lt hk); rw [ht] at this; omega
  have HX := Lib.hid (fun w => walk_calls (t.extract 0 (a + b)) w hX)
  have HY := Lib.hid (fun w => walk_calls (t.extract a (a + b + c)) w hY)
  rw [h1, h2] at HX
  rw [h3, h4] at HY
  clear hX hY h1 h2 h3 h4
  have HF := Lib.hid hF
  clear hF
  unfold encF at HF
  dsimp only at HF
  go_enter Tryd.func35, Tryd.ntmps35
  go_wp2_with fail
  refine (HF.out _).mono ?_
  rintro e w1 ⟨rfl, hb1⟩
  have g0 := World.alloc_heap_new w (.cells #[.int .i64 0, .int .i64 0, .int .i64 0, .int .i64 0] 40)
  have g1 := (hb1.block w.heap.size (by simp)).trans g0
  have H1 := Lib.hid ((below_one _).trans (hb1.mono (by simp)))
  clear hb1 g0
  go_wp2_with fail
  obtain ⟨w5, B5, e5, f5, g5, b5, z5⟩ := blk_name (w := w1) (.cells #[.int .i64 k, .int .i64 a, .int .i64 b, .int .i64 c] 34)
  rw [← e5, f5]
  have h5 := (b5.block w.heap.size (Array.getElem?_eq_some_iff.1 g1).1).trans g1
  have H5 := Lib.hid (H1.out.trans (b5.mono H1.out.size))
  clear e5 f5 b5 z5 g1 H1
  have e0 := blk_at g5 0 rfl
  have e1 := blk_at g5 1 rfl
  have e2 := blk_at g5 2 rfl
  have e3 := blk_at g5 3 rfl
  have G5 := Lib.hid h5
  clear h5 g5
  have hkk : k ≤ s.size := Nat.le_of_lt hk
  have hk1 : ((s.size : Int) ≤ k) = False := by simp; exact hk
  have hk0 := not_neg k
  have hsz := not_big (n := s.size) (Nat.le_trans hs (by decide))
  have hts := rot_size s hkk
  have hE := @rotF.eq_1 s k
  rw [ht] at hts hE
  have hrt' : s.extract k s.size ++ s.extract 0 k = t := hE.symm
  have HT := Lib.hid ht
  have HTS := Lib.hid hts
  clear hE ht hts
  refine start_ (n := 10) (S := fun w' => w'.cell? ⟨B5, 0, none⟩ = some (.int .i64 k) ∧ w'.cell? ⟨B5, 1, none⟩ = some (.int .i64 a) ∧ w'.cell? ⟨B5, 2, none⟩ = some (.int .i64 b) ∧ w'.cell? ⟨B5, 3, none⟩ = some (.int .i64 c)) (ds := []) #[false, false, false, false, false, false, false, false, false, false] (by kernel_rfl) rfl rfl ⟨by simpa using e0, by simpa using e1, by simpa using e2, by simpa using e3⟩ (fun hHeld => ?_)
  refine pure_ (i := 0) (N := (some 19)) (v := ?_) (a' := ?_) #[true, false, false, false, false, false, false, false, false, false] rfl rfl (by kernel_rfl) (fun _ _ _ h => h) (Or.inl ⟨by rfl, ?_⟩) ?_ ?_
  rotate_left
  · intro w'; go_simp; first | done | with_reducible rfl
  rotate_left
  · simp only [Act.put, List.setIfInBounds_toArray, List.set_cons_zero, List.set_cons_succ, i64_w, i32_w]; rfl
  refine pure_ (i := 1) (N := (some 20)) (v := ?_) (a' := ?_) #[true, true, false, false, false, false, false, false, false, false] rfl rfl (by kernel_rfl) (fun _ _ _ h => h) (Or.inl ⟨by rfl, ?_⟩) ?_ ?_
  rotate_left
  · intro w'; go_simp; first | done | with_reducible rfl
  rotate_left
  · simp only [Act.put, List.setIfInBounds_toArray, List.set_cons_zero, List.set_cons_succ, i64_w, i32_w]; rfl
  refine take_ (i := 2) (N := (some 21)) (v := ?_) (a' := ?_) #[true, true, true, false, false, false, false, false, false, false] rfl rfl (by kernel_rfl) (fun _ _ _ h => h) (Or.inl ⟨by rfl, ?_⟩) hHeld ?_ ?_
  rotate_left
  · rintro w' ⟨s0, s1, s2, s3⟩; go_simp; first | done | with_reducible rfl
  rotate_left
  · simp only [Act.put, List.setIfInBounds_toArray, List.set_cons_zero, List.set_cons_succ, i64_w, i32_w]; rfl
  refine pure_ (i := 3) (N := (some 22)) (v := ?_) (a' := ?_) #[true, true, true, true, false, false, false, false, false, false] rfl rfl (by kernel_rfl) (fun _ _ _ h => h) (Or.inl ⟨by rfl, ?_⟩) ?_ ?_
  rotate_left
  · intro w'; go_simp; first | done | with_reducible rfl
  rotate_left
  · simp only [Act.put, List.setIfInBounds_toArray, List.set_cons_zero, List.set_cons_succ, i64_w, i32_w]; rfl
  refine pure_ (i := 4) (N := (some 23)) (v := ?_) (a' := ?_) #[true, true, true, true, true, false, false, false, false, false] rfl rfl (by kernel_rfl) (fun _ _ _ h => h) (Or.inl ⟨by rfl, ?_⟩) ?_ ?_
  rotate_left
  · intro w'; go_simp; first | done | with_reducible rfl
  rotate_left
  · simp only [Act.put, List.setIfInBounds_toArray, List.set_cons_zero, List.set_cons_succ, i64_w, i32_w]; rfl
  refine pure_ (i := 5) (N := (some 24)) (v := ?_) (a' := ?_) #[true, true, true, true, true, true, false, false, false, false] rfl rfl (by kernel_rfl) (fun _ _ _ h => h) (Or.inl ⟨by rfl, ?_⟩) ?_ ?_
  rotate_left
  · intro w'; go_simp; first | done | with_reducible rfl
  rotate_left
  · simp only [Act.put, List.setIfInBounds_toArray, List.set_cons_zero, List.set_cons_succ, i64_w, i32_w]; rfl
  refine take_ (i := 6) (N := (some 25)) (v := ?_) (a' := ?_) #[true, true, true, true, true, true, true, false, false, false] rfl rfl (by kernel_rfl) (fun _ _ _ h => h) (Or.inl ⟨by rfl, ?_⟩) hHeld ?_ ?_
  rotate_left
  · rintro w' ⟨s0, s1, s2, s3⟩; go_simp; first | done | with_reducible rfl
  rotate_left
  · simp only [Act.put, List.setIfInBounds_toArray, List.set_cons_zero, List.set_cons_succ, i64_w, i32_w]; rfl
  refine pure_ (i := 7) (N := (some 26)) (v := ?_) (a' := ?_) #[true, true, true, true, true, true, true, true, false, false] rfl rfl (by kernel_rfl) (fun _ _ _ h => h) (Or.inl ⟨by rfl, ?_⟩) ?_ ?_
  rotate_left
  · intro w'; go_simp; first | done | with_reducible rfl
  rotate_left
  · simp only [Act.put, List.setIfInBounds_toArray, List.set_cons_zero, List.set_cons_succ, i64_w, i32_w]; rfl
  refine pure_ (i := 8) (N := (some 27)) (v := ?_) (a' := ?_) #[true, true, true, true, true, true, true, true, true, false] rfl rfl (by kernel_rfl) (fun _ _ _ h => h) (Or.inl ⟨by rfl, ?_⟩) ?_ ?_
  rotate_left
  · intro w'; go_simp; first | done | with_reducible rfl
  rotate_left
  · simp only [Act.put, List.setIfInBounds_toArray, List.set_cons_zero, List.set_cons_succ, i64_w, i32_w]; rfl
  refine pure_ (i := 9) (N := (some 6)) (v := ?_) (a' := ?_) #[true, true, true, true, true, true, true, true, true, true] rfl rfl (by kernel_rfl) (fun _ _ _ h => h) (Or.inl ⟨by rfl, ?_⟩) ?_ ?_
  rotate_left
  · intro w'; go_simp; first | done | with_reducible rfl
  rotate_left
  · simp only [Act.put, List.setIfInBounds_toArray, List.set_cons_zero, List.set_cons_succ, i64_w, i32_w]; rfl
  refine done_ (by kernel_rfl) ?_
  clear hrt' hsz hk1 hk0
  go_wp2_with fail
  refine start_ (n := 9) (S := fun w' => w'.cell? ⟨B5, 0, none⟩ = some (.int .i64 k) ∧ w'.cell? ⟨B5, 1, none⟩ = some (.int .i64 a) ∧ w'.cell? ⟨B5, 2, none⟩ = some (.int .i64 b) ∧ w'.cell? ⟨B5, 3, none⟩ = some (.int .i64 c)) (ds := []) #[false, false, false, false, false, false, false, false, false] (by kernel_rfl) rfl rfl ⟨by simpa using e0, by simpa using e1, by simpa using e2, by simpa using e3⟩ (fun hHeld => ?_)
  refine pure_ (i := 0) (N := (some 28)) (v := ?_) (a' := ?_) #[true, false, false, false, false, false, false, false, false] rfl rfl (by kernel_rfl) (fun _ _ _ h => h) (Or.inl ⟨by rfl, ?_⟩) ?_ ?_
  rotate_left
  · intro w'; go_simp; first | done | with_reducible rfl
  rotate_left
  · simp only [Act.put, List.setIfInBounds_toArray, List.set_cons_zero, List.set_cons_succ, i64_w, i32_w]; rfl
  refine take_ (i := 1) (N := (some 29)) (v := ?_) (a' := ?_) #[true, true, false, false, false, false, false, false, false] rfl rfl (by kernel_rfl) (fun _ _ _ h => h) (Or.inl ⟨by rfl, ?_⟩) hHeld ?_ ?_
  rotate_left
  · rintro w' ⟨s0, s1, s2, s3⟩; go_simp; first | done | with_reducible rfl
  rotate_left
  · simp only [Act.put, List.setIfInBounds_toArray, List.set_cons_zero, List.set_cons_succ, i64_w, i32_w]; rfl
  refine pure_ (i := 2) (N := (some 30)) (v := ?_) (a' := ?_) #[true, true, true, false, false, false, false, false, false] rfl rfl (by kernel_rfl) (fun _ _ _ h => h) (Or.inl ⟨by rfl, ?_⟩) ?_ ?_
  rotate_left
  · intro w'; go_simp; first | done | with_reducible rfl
  rotate_left
  · simp only [Act.put, List.setIfInBounds_toArray, List.set_cons_zero, List.set_cons_succ, i64_w, i32_w]; rfl
  refine take_ (i := 3) (N := (some 31)) (v := ?_) (a' := ?_) #[true, true, true, true, false, false, false, false, false] rfl rfl (by kernel_rfl) (fun _ _ _ h => h) (Or.inl ⟨by rfl, ?_⟩) hHeld ?_ ?_
  rotate_left
  · rintro w' ⟨s0, s1, s2, s3⟩; go_simp; first | done | with_reducible rfl
  rotate_left
  · simp only [Act.put, List.setIfInBounds_toArray, List.set_cons_zero, List.set_cons_succ, i64_w, i32_w]; rfl
  refine pure_ (i := 4) (N := (some 32)) (v := ?_) (a' := ?_) #[true, true, true, true, true, false, false, false, false] rfl rfl (by kernel_rfl) (fun _ _ _ h => h) (Or.inl ⟨by rfl, ?_⟩) ?_ ?_
  rotate_left
  · intro w'; go_simp; first | done | with_reducible rfl
  rotate_left
  · simp only [Act.put, List.setIfInBounds_toArray, List.set_cons_zero, List.set_cons_succ, i64_w, i32_w]; rfl
  refine take_ (i := 5) (N := (some 33)) (v := ?_) (a' := ?_) #[true, true, true, true, true, true, false, false, false] rfl rfl (by kernel_rfl) (fun _ _ _ h => h) (Or.inl ⟨by rfl, ?_⟩) hHeld ?_ ?_
  rotate_left
  · rintro w' ⟨s0, s1, s2, s3⟩; go_simp; first | done | with_reducible rfl
  rotate_left
  · simp only [Act.put, List.setIfInBounds_toArray, List.set_cons_zero, List.set_cons_succ, i64_w, i32_w]; rfl
  refine pure_ (i := 6) (N := (some 7)) (v := ?_) (a' := ?_) #[true, true, true, true, true, true, true, false, false] rfl rfl (by kernel_rfl) (fun _ _ _ h => h) (Or.inl ⟨by rfl, ?_⟩) ?_ ?_
  rotate_left
  · intro w'; go_simp; first | done | with_reducible rfl
  rotate_left
  · simp only [Act.put, List.setIfInBounds_toArray, List.set_cons_zero, List.set_cons_succ, i64_w, i32_w]; rfl
  refine pure_ (i := 7) (N := (some 8)) (v := ?_) (a' := ?_) #[true, true, true, true, true, true, true, true, false] rfl rfl (by kernel_rfl) (fun _ _ _ h => h) (Or.inl ⟨by rfl, ?_⟩) ?_ ?_
  rotate_left
  · intro w'; go_simp; first | done | with_reducible rfl
  rotate_left
  · simp only [Act.put, List.setIfInBounds_toArray, List.set_cons_zero, List.set_cons_succ, i64_w, i32_w]; rfl
  refine pure_ (i := 8) (N := (some 9)) (v := ?_) (a' := ?_) #[true, true, true, true, true, true, true, true, true] rfl rfl (by kernel_rfl) (fun _ _ _ h => h) (Or.inl ⟨by rfl, ?_⟩) ?_ ?_
  rotate_left
  · intro w'; go_simp; first | done | with_reducible rfl
  rotate_left
  · simp only [Act.put, List.setIfInBounds_toArray, List.set_cons_zero, List.set_cons_succ, i64_w, i32_w]; rfl
  refine done_ (by kernel_rfl) ?_
  clear e0 e1 e2 e3
  go_wp2_with fail
  have HB6 := Lib.hid (H5.out.trans (((Below.refl w5.heap.size w5).drew.drew).mono H5.out.size))
  have G6 := Lib.hid ((((Below.refl w5.heap.size w5).drew.drew).block w.heap.size (Array.getElem?_eq_some_iff.1 G5.out).1).trans G5.out)
  generalize w5.drew.drew = w6 at HB6 G6 ⊢
  clear G5 H5
  have hab : wrap64 ((a : Int) + b) = ((a + b : Nat) : Int) := wrap_nat (by omega)
  have has : a + b ≤ t.size := by rw [HTS.out]; omega
  have has2 : a + b + c ≤ t.size := by rw [HTS.out]; omega
  have ha3 : a ≤ a + b + c := by omega
  have hsum : wrap64 (((a + b : Nat) : Int) + c) = ((a + b + c : Nat) : Int) := wrap_nat (n := a + b + c) (by omega)
  generalize a + b + c = f at *
  generalize a + b = d at *
  refine start_ (n := 18) (S := fun w' => True) (ds := [14,16]) #[false, false, false, false, false, false, false, false, false, false, false, false, false, false, false, false, false, false] (by kernel_rfl) rfl rfl trivial (fun hHeld => ?_)
  refine pure_ (i := 0) (N := (some 34)) (v := ?_) (a' := ?_) #[true, false, false, false, false, false, false, false, false, false, false, false, false, false, false, false, false, false] rfl rfl (by kernel_rfl) (fun _ _ _ h => h) (Or.inl ⟨by rfl, ?_⟩) ?_ ?_
  rotate_left
  · intro w'; go_simp; first | done | with_reducible rfl
  rotate_left
  · simp only [Act.put, List.setIfInBounds_toArray, List.set_cons_zero, List.set_cons_succ, i64_w, i32_w]; rfl
  refine pure_ (i := 1) (N := (some 35)) (v := ?_) (a' := ?_) #[true, true, false, false, false, false, false, false, false, false, false, false, false, false, false, false, false, false] rfl rfl (by kernel_rfl) (fun _ _ _ h => h) (Or.inl ⟨by rfl, ?_⟩) ?_ ?_
  rotate_left
  · intro w'; go_simp; first | done | with_reducible rfl
  rotate_left
  · simp only [Act.put, List.setIfInBounds_toArray, List.set_cons_zero, List.set_cons_succ, i64_w, i32_w]; rfl
  refine pure_ (i := 2) (N := (some 36)) (v := ?_) (a' := ?_) #[true, true, true, false, false, false, false, false, false, false, false, false, false, false, false, false, false, false] rfl rfl (by kernel_rfl) (fun _ _ _ h => h) (Or.inl ⟨by rfl, ?_⟩) ?_ ?_
  rotate_left
  · intro w'; go_simp; first | done | with_reducible rfl
  rotate_left
  · simp only [Act.put, List.setIfInBounds_toArray, List.set_cons_zero, List.set_cons_succ, i64_w, i32_w]; rfl
  refine pure_ (i := 3) (N := (some 37)) (v := ?_) (a' := ?_) #[true, true, true, true, false, false, false, false, false, false, false, false, false, false, false, false, false, false] rfl rfl (by kernel_rfl) (fun _ _ _ h => h) (Or.inl ⟨by rfl, ?_⟩) ?_ ?_
  rotate_left
  · intro w'; go_simp; first | done | with_reducible rfl
  rotate_left
  · simp only [Act.put, List.setIfInBounds_toArray, List.set_cons_zero, List.set_cons_succ, i64_w, i32_w]; rfl
  refine pure_ (i := 4) (N := (some 38)) (v := ?_) (a' := ?_) #[true, true, true, true, true, false, false, false, false, false, false, false, false, false, false, false, false, false] rfl rfl (by kernel_rfl) (fun _ _ _ h => h) (Or.inl ⟨by rfl, ?_⟩) ?_ ?_
  rotate_left
  · intro w'; go_simp; first | done | with_reducible rfl
  rotate_left
  · simp only [Act.put, List.setIfInBounds_toArray, List.set_cons_zero, List.set_cons_succ, i64_w, i32_w]; rfl
  refine pure_ (i := 6) (N := (some 40)) (v := ?_) (a' := ?_) #[true, true, true, true, true, false, true, false, false, false, false, false, false, false, false, false, false, false] rfl rfl (by kernel_rfl) (fun _ _ _ h => h) (Or.inl ⟨by rfl, ?_⟩) ?_ ?_
  rotate_left
  · intro w'; go_simp; first | done | with_reducible rfl
  rotate_left
  · simp only [Act.put, List.setIfInBounds_toArray, List.set_cons_zero, List.set_cons_succ, i64_w, i32_w]; rfl
  refine pure_ (i := 7) (N := (some 41)) (v := ?_) (a' := ?_) #[true, true, true, true, true, false, true, true, false, false, false, false, false, false, false, false, false, false] rfl rfl (by kernel_rfl) (fun _ _ _ h => h) (Or.inl ⟨by rfl, ?_⟩) ?_ ?_
  rotate_left
  · intro w'; go_simp; first | done | with_reducible rfl
  rotate_left
  · simp only [Act.put, List.setIfInBounds_toArray, List.set_cons_zero, List.set_cons_succ, i64_w, i32_w]; rfl
  refine pure_ (i := 8) (N := (some 42)) (v := ?_) (a' := ?_) #[true, true, true, true, true, false, true, true, true, false, false, false, false, false, false, false, false, false] rfl rfl (by kernel_rfl) (fun _ _ _ h => h) (Or.inl ⟨by rfl, ?_⟩) ?_ ?_
  rotate_left
  · intro w'; go_simp; first | done | with_reducible rfl
  rotate_left
  · simp only [Act.put, List.setIfInBounds_toArray, List.set_cons_zero, List.set_cons_succ, i64_w, i32_w]; rfl
  refine pure_ (i := 9) (N := (some 43)) (v := ?_) (a' := ?_) #[true, true, true, true, true, false, true, true, true, true, false, false, false, false, false, false, false, false] rfl rfl (by kernel_rfl) (fun _ _ _ h => h) (Or.inl ⟨by rfl, ?_⟩) ?_ ?_
  rotate_left
  · intro w'; go_simp; first | done | with_reducible rfl
  rotate_left
  · simp only [Act.put, List.setIfInBounds_toArray, List.set_cons_zero, List.set_cons_succ, i64_w, i32_w]; rfl
  refine pure_ (i := 10) (N := (some 44)) (v := ?_) (a' := ?_) #[true, true, true, true, true, false, true, true, true, true, true, false, false, false, false, false, false, false] rfl rfl (by kernel_rfl) (fun _ _ _ h => h) (Or.inl ⟨by rfl, ?_⟩) ?_ ?_
  rotate_left
  · intro w'; go_simp; first | done | with_reducible rfl
  rotate_left
  · simp only [Act.put, List.setIfInBounds_toArray, List.set_cons_zero, List.set_cons_succ, i64_w, i32_w]; rfl
  refine pure_ (i := 11) (N := (some 45)) (v := ?_) (a' := ?_) #[true, true, true, true, true, false, true, true, true, true, true, true, false, false, false, false, false, false] rfl rfl (by kernel_rfl) (fun _ _ _ h => h) (Or.inl ⟨by rfl, ?_⟩) ?_ ?_
  rotate_left
  · intro w'; go_simp; first | done | with_reducible rfl
  rotate_left
  · simp only [Act.put, List.setIfInBounds_toArray, List.set_cons_zero, List.set_cons_succ, i64_w, i32_w]; rfl
  refine pure_ (i := 12) (N := (some 46)) (v := ?_) (a' := ?_) #[true, true, true, true, true, false, true, true, true, true, true, true, true, false, false, false, false, false] rfl rfl (by kernel_rfl) (fun _ _ _ h => h) (Or.inl ⟨by rfl, ?_⟩) ?_ ?_
  rotate_left
  · intro w'; go_simp; first | done | with_reducible rfl
  rotate_left
  · simp only [Act.put, List.setIfInBounds_toArray, List.set_cons_zero, List.set_cons_succ, i64_w, i32_w]; rfl
  refine pure_ (i := 13) (N := (some 47)) (v := ?_) (a' := ?_) #[true, true, true, true, true, false, true, true, true, true, true, true, true, true, false, false, false, false] rfl rfl (by kernel_rfl) (fun _ _ _ h => h) (Or.inl ⟨by rfl, ?_⟩) ?_ ?_
  rotate_left
  · intro w'; go_simp; first | done | with_reducible rfl
  rotate_left
  · simp only [Act.put, List.setIfInBounds_toArray, List.set_cons_zero, List.set_cons_succ, i64_w, i32_w]; rfl
  refine one_ (i := 5) (N := (some 39)) #[true, true, true, true, true, true, true, true, true, true, true, true, true, true, false, false, false, false] rfl rfl (by kernel_rfl) (by decide) (fun K hK => ?_)
  refine goes_ Tryd.func59 (by kernel_rfl) rfl #[.string (t.extract 0 d)] (by rfl) rfl rfl (by (try simp only [List.map_toArray, List.map_cons, List.map_nil]); first | done | rfl) ?_
  refine (HX.out _).mono ?_
  rintro e w7 ⟨rfl, hb7⟩
  refine ⟨_, rfl, ?_⟩
  have HB7 := Lib.hid (HB6.out.drew.trans (hb7.mono HB6.out.drew.size))
  have G7 := Lib.hid ((hb7.block w.heap.size (Array.getElem?_eq_some_iff.1 (show w6.drew.heap[w.heap.size]? = _ from G6.out)).1).trans (show w6.drew.heap[w.heap.size]? = _ from G6.out))
  clear hb7
  refine hK.out _ _ trivial (fun hHeld => ?_)
  clear hK K
  refine norm_ (a' := ?_) ?_ ?_
  rotate_left
  · show Act.put _ (some 39) _ = _; simp only [Act.put, List.setIfInBounds_toArray, List.set_cons_zero, List.set_cons_succ, i64_w, i32_w]; rfl
  refine last_ (i := 14) (N := (some 48)) #[true, true, true, true, true, true, true, true, true, true, true, true, true, true, true, false, false, false] rfl rfl (by kernel_rfl) (by decide) (fun K hK => ?_)
  refine goes_ Tryd.func59 (by kernel_rfl) rfl #[.string (t.extract a f)] (by rfl) rfl rfl (by (try simp only [List.map_toArray, List.map_cons, List.map_nil]); first | done | rfl) ?_
  refine (HY.out _).mono ?_
  rintro e w8 ⟨rfl, hb8⟩
  refine ⟨_, rfl, ?_⟩
  have HB8 := Lib.hid (HB7.out.trans (hb8.mono HB7.out.size))
  have G8 := (hb8.block w.heap.size (Array.getElem?_eq_some_iff.1 G7.out).1).trans G7.out
  clear hb8
  have e0 := blk_at G8 0 rfl
  have e1 := blk_at G8 1 rfl
  have e2 := blk_at G8 2 rfl
  have e3 := blk_at G8 3 rfl
  have f0 := blk_free G8 0 (by decide)
  have f1 := blk_free G8 1 (by decide)
  have f2 := blk_free G8 2 (by decide)
  have f3 := blk_free G8 3 (by decide)
  unfold ptV
  refine hK.out _ _ ?_
  clear hK K
  refine norm_ (a' := ?_) ?_ ?_
  rotate_left
  · show Act.put _ (some 48) _ = _; simp only [Act.put, List.setIfInBounds_toArray, List.set_cons_zero, List.set_cons_succ, i64_w, i32_w]; rfl
  refine pure_ (i := 15) (N := (some 49)) (v := (.agg #[.int .i64 x1, .int .i64 y1, .int .i64 x2, .int .i64 y2])) (a' := ?_) #[true, true, true, true, true, true, true, true, true, true, true, true, true, true, true, true, false, false] rfl rfl (by kernel_rfl) (fun _ _ _ h => h) (Or.inl ⟨by rfl, ?_⟩) ?_ ?_
  · intro w'; go_simp; first | done | with_reducible rfl
  rotate_left
  · simp only [Act.put, List.setIfInBounds_toArray, List.set_cons_zero, List.set_cons_succ, i64_w, i32_w]; rfl
  refine last_ (i := 16) (N := none) #[true, true, true, true, true, true, true, true, true, true, true, true, true, true, true, true, true, false] rfl rfl (by kernel_rfl) (by decide) (fun K hK => ?_)
  refine skip_step (w1 := (((w8.setCell ⟨w.heap.size, 0, none⟩ (.int .i64 x1)).setCell ⟨w.heap.size, 1, none⟩ (.int .i64 y1)).setCell ⟨w.heap.size, 2, none⟩ (.int .i64 x2)).setCell ⟨w.heap.size, 3, none⟩ (.int .i64 y2)) (by rfl) (by go_simp) ?_
  refine hK.out _ _ ?_
  clear hK K
  refine norm_ (a' := ?_) ?_ ?_
  rotate_left
  · show Act.put _ none _ = _; simp only [Act.put, List.setIfInBounds_toArray, List.set_cons_zero, List.set_cons_succ, i64_w, i32_w]; rfl
  refine pure_ (i := 17) (N := (some 3)) (v := ?_) (a' := ?_) #[true, true, true, true, true, true, true, true, true, true, true, true, true, true, true, true, true, true] rfl rfl (by kernel_rfl) (fun _ _ _ h => h) (Or.inl ⟨by rfl, ?_⟩) ?_ ?_
  rotate_left
  · intro w'; go_simp; first | done | with_reducible rfl
  rotate_left
  · simp only [Act.put, List.setIfInBounds_toArray, List.set_cons_zero, List.set_cons_succ, i64_w, i32_w]; rfl
  refine done_ (by kernel_rfl) ?_
  go_wp2
  have n1 := four_set (y0 := .int .i64 x1) (y1 := .int .i64 y1) (y2 := .int .i64 x2) (y3 := .int .i64 y2) G8
  have n2 := four_below (k := .int .i64 x1) (a := .int .i64 y1) (c := .int .i64 x2) (d := .int .i64 y2) HB8.out (Nat.le_refl w.heap.size)
  generalize (((w8.setCell ⟨w.heap.size, 0, none⟩ (.int .i64 x1)).setCell ⟨w.heap.size, 1, none⟩ (.int .i64 y1)).setCell ⟨w.heap.size, 2, none⟩ (.int .i64 x2)).setCell ⟨w.heap.size, 3, none⟩ (.int .i64 y2) = W5 at n1 n2 ⊢
  have k0 := blk_at n1 0 rfl
  have k1 := blk_at n1 1 rfl
  have k2 := blk_at n1 2 rfl
  have k3 := blk_at n1 3 rfl
  exact bodyPost_ret (v := .tuple #[.agg #[.int .i64 x1, .int .i64 y1, .int .i64 x2, .int .i64 y2], .int .i64 0]) (by simp [results, Tryd.f35, go_sem, k0, k1, k2, k3]) rfl ⟨rfl, n2⟩
end Go.Proofs.YtpfenoioeajkmaaDoor.X
end

section
set_option linter.unusedVariables false
set_option linter.unusedSimpArgs false
namespace Go.Proofs.YtpfenoioeajkmaaDoor.X
open Go.RowKit Go.Proofs.YtpfenoioeajkmaaDoorW.PrintWords Go.Proofs.YtpfenoioeajkmaaDoorW.PrintLast Go.Proofs.YtpfenoioeajkmaaDoorW.PrintMore Go.Proofs.YtpfenoioeajkmaaDoor.L
set_option maxHeartbeats 4000000 in
set_option maxRecDepth 100000 in
theorem rVectors_err (s : ByteArray) (c : Int) (hc : (c != 0) = true) (hF : ∀ w, Calls Tryd.prog 36 #[.string s] w fun e w' => e = .returned (.tuple #[encF (0, 0, 0, 0), .int .i64 c]) ∧ Below w.heap.size w w') (w : World) :
    Calls Tryd.prog 37 #[.string s] w fun e w' => e = .returned (.tuple #[vecV 0 0 0 0, .int .i64 c]) ∧ Below w.heap.size w w' := by
  have HF := Lib.hid hF
  clear hF
  unfold encF at HF
  go_enter Tryd.func37, Tryd.ntmps37
  go_wp2_with fail
  refine (HF.out _).mono ?_
  rintro e w1 ⟨rfl, hb1⟩
  have g0 := World.alloc_heap_new w (.cells #[.int .i64 0, .int .i64 0, .int .i64 0, .int .i64 0] 40)
  have g1 := (hb1.block w.heap.size (by simp)).trans g0
  have H1 := Lib.hid ((below_one _).trans (hb1.mono (by simp)))
  clear hb1 g0
  have hB : w.heap.size < w1.heap.size := (Array.getElem?_eq_some_iff.1 g1).1
  have e0 := blk_at g1 0 rfl
  have e1 := blk_at g1 1 rfl
  have e2 := blk_at g1 2 rfl
  have e3 := blk_at g1 3 rfl
  have f0 := blk_free g1 0 (by decide)
  have f1 := blk_free g1 1 (by decide)
  have f2 := blk_free g1 2 (by decide)
  have f3 := blk_free g1 3 (by decide)
  go_wp2
  have n1 := four_set (y0 := .int .i64 0) (y1 := .int .i64 0) (y2 := .int .i64 0) (y3 := .int .i64 0) g1
  have n2 := four_below (k := .int .i64 0) (a := .int .i64 0) (c := .int .i64 0) (d := .int .i64 0) H1.out (Nat.le_refl w.heap.size)
  generalize ((((w1.setCell ⟨w.heap.size, 0, none⟩ (.int .i64 0)).setCell ⟨w.heap.size, 1, none⟩ (.int .i64 0)).setCell ⟨w.heap.size, 2, none⟩ (.int .i64 0)).setCell ⟨w.heap.size, 3, none⟩ (.int .i64 0)) = W5 at n1 n2 ⊢
  have n3 := (Below.heap_alloc W5 (.cells #[.int .i64 0, .int .i64 0, .int .i64 0, .int .i64 0] 34) _ (Array.getElem?_eq_some_iff.1 n1).1).trans n1
  have n4 := n2.alloc n2.size (.cells #[.int .i64 0, .int .i64 0, .int .i64 0, .int .i64 0] 34)
  generalize W5.alloc (.cells #[.int .i64 0, .int .i64 0, .int .i64 0, .int .i64 0] 34) = W6 at n3 n4 ⊢
  have k0 := blk_at n3 0 rfl
  have k1 := blk_at n3 1 rfl
  have k2 := blk_at n3 2 rfl
  have k3 := blk_at n3 3 rfl
  exact bodyPost_ret (v := .tuple #[.agg #[.int .i64 0, .int .i64 0, .int .i64 0, .int .i64 0], .int .i64 c]) (by simp [results, Tryd.f37, go_sem, k0, k1, k2, k3]) rfl ⟨rfl, n4⟩
set_option maxHeartbeats 4000000 in
set_option maxRecDepth 100000 in
theorem rVectors_some (s t : ByteArray) (k a b c : Nat) (x1 y1 x2 y2 : Int) (hs : s.size ≤ 24) (hk : k < s.size) (ht : rotF s k = t) (habc : a + b + c = s.size / 2) (hF : ∀ w, Calls Tryd.prog 36 #[.string s] w fun e w' => e = .returned (.tuple #[encF (k, a, b, c), .int .i64 0]) ∧ Below w.heap.size w w')
    (h1 : sumx (t.extract 0 (a + b)) (t.extract 0 (a + b)).size = x1) (h2 : rsumy (t.extract 0 (a + b)) (t.extract 0 (a + b)).size = y1) (h3 : sumx (t.extract a (a + b + c)) (t.extract a (a + b + c)).size = x2) (h4 : rsumy (t.extract a (a + b + c)) (t.extract a (a + b + c)).size = y2) (w : World) :
    Calls Tryd.prog 37 #[.string s] w fun e w' => e = .returned (.tuple #[vecV x1 y1 x2 y2, .int .i64 0]) ∧ Below w.heap.size w w' := by
  have hX : (t.extract 0 (a + b)).size ≤ 1000 := by rw [ByteArray.size_extract]; have := rot_size s (Nat.le_of_lt hk); rw [ht] at this; omega
  have hY : (t.extract a (a + b + c)).size ≤ 1000 := by rw [ByteArray.size_extract]; have := rot_size s (Nat.le_of_lt hk); rw [ht] at this; omega
  have HX := Lib.hid (fun w => Sum_calls (t.extract 0 (a + b)) w hX)
  have HY := Lib.hid (fun w => Sum_calls (t.extract a (a + b + c)) w hY)
  rw [h1, h2] at HX
  rw [h3, h4] at HY
  clear hX hY h1 h2 h3 h4
  have HF := Lib.hid hF
  clear hF
  unfold encF at HF
  dsimp only at HF
  go_enter Tryd.func37, Tryd.ntmps37
  go_wp2_with fail
  refine (HF.out _).mono ?_
  rintro e w1 ⟨rfl, hb1⟩
  have g0 := World.alloc_heap_new w (.cells #[.int .i64 0, .int .i64 0, .int .i64 0, .int .i64 0] 40)
  have g1 := (hb1.block w.heap.size (by simp)).trans g0
  have H1 := Lib.hid ((below_one _).trans (hb1.mono (by simp)))
  clear hb1 g0
  go_wp2_with fail
  obtain ⟨w5, B5, e5, f5, g5, b5, z5⟩ := blk_name (w := w1) (.cells #[.int .i64 k, .int .i64 a, .int .i64 b, .int .i64 c] 34)
  rw [← e5, f5]
  have h5 := (b5.block w.heap.size (Array.getElem?_eq_some_iff.1 g1).1).trans g1
  have H5 := Lib.hid (H1.out.trans (b5.mono H1.out.size))
  clear e5 f5 b5 z5 g1 H1
  have e0 := blk_at g5 0 rfl
  have e1 := blk_at g5 1 rfl
  have e2 := blk_at g5 2 rfl
  have e3 := blk_at g5 3 rfl
  have G5 := Lib.hid h5
  clear h5 g5
  have hkk : k ≤ s.size := Nat.le_of_lt hk
  have hk1 : ((s.size : Int) ≤ k) = False := by simp; exact hk
  have hk0 := not_neg k
  have hsz := not_big (n := s.size) (Nat.le_trans hs (by decide))
  have hts := rot_size s hkk
  have hE := @rotF.eq_1 s k
  rw [ht] at hts hE
  have hrt' : s.extract k s.size ++ s.extract 0 k = t := hE.symm
  have HT := Lib.hid ht
  have HTS := Lib.hid hts
  clear hE ht hts
  refine start_ (n := 10) (S := fun w' => w'.cell? ⟨B5, 0, none⟩ = some (.int .i64 k) ∧ w'.cell? ⟨B5, 1, none⟩ = some (.int .i64 a) ∧ w'.cell? ⟨B5, 2, none⟩ = some (.int .i64 b) ∧ w'.cell? ⟨B5, 3, none⟩ = some (.int .i64 c)) (ds := []) #[false, false, false, false, false, false, false, false, false, false] (by kernel_rfl) rfl rfl ⟨by simpa using e0, by simpa using e1, by simpa using e2, by simpa using e3⟩ (fun hHeld => ?_)
  refine pure_ (i := 0) (N := (some 16)) (v := ?_) (a' := ?_) #[true, false, false, false, false, false, false, false, false, false] rfl rfl (by kernel_rfl) (fun _ _ _ h => h) (Or.inl ⟨by rfl, ?_⟩) ?_ ?_
  rotate_left
  · intro w'; go_simp; first | done | with_reducible rfl
  rotate_left
  · simp only [Act.put, List.setIfInBounds_toArray, List.set_cons_zero, List.set_cons_succ, i64_w, i32_w]; rfl
  refine pure_ (i := 1) (N := (some 17)) (v := ?_) (a' := ?_) #[true, true, false, false, false, false, false, false, false, false] rfl rfl (by kernel_rfl) (fun _ _ _ h => h) (Or.inl ⟨by rfl, ?_⟩) ?_ ?_
  rotate_left
  · intro w'; go_simp; first | done | with_reducible rfl
  rotate_left
  · simp only [Act.put, List.setIfInBounds_toArray, List.set_cons_zero, List.set_cons_succ, i64_w, i32_w]; rfl
  refine take_ (i := 2) (N := (some 18)) (v := ?_) (a' := ?_) #[true, true, true, false, false, false, false, false, false, false] rfl rfl (by kernel_rfl) (fun _ _ _ h => h) (Or.inl ⟨by rfl, ?_⟩) hHeld ?_ ?_
  rotate_left
  · rintro w' ⟨s0, s1, s2, s3⟩; go_simp; first | done | with_reducible rfl
  rotate_left
  · simp only [Act.put, List.setIfInBounds_toArray, List.set_cons_zero, List.set_cons_succ, i64_w, i32_w]; rfl
  refine pure_ (i := 3) (N := (some 19)) (v := ?_) (a' := ?_) #[true, true, true, true, false, false, false, false, false, false] rfl rfl (by kernel_rfl) (fun _ _ _ h => h) (Or.inl ⟨by rfl, ?_⟩) ?_ ?_
  rotate_left
  · intro w'; go_simp; first | done | with_reducible rfl
  rotate_left
  · simp only [Act.put, List.setIfInBounds_toArray, List.set_cons_zero, List.set_cons_succ, i64_w, i32_w]; rfl
  refine pure_ (i := 4) (N := (some 20)) (v := ?_) (a' := ?_) #[true, true, true, true, true, false, false, false, false, false] rfl rfl (by kernel_rfl) (fun _ _ _ h => h) (Or.inl ⟨by rfl, ?_⟩) ?_ ?_
  rotate_left
  · intro w'; go_simp; first | done | with_reducible rfl
  rotate_left
  · simp only [Act.put, List.setIfInBounds_toArray, List.set_cons_zero, List.set_cons_succ, i64_w, i32_w]; rfl
  refine pure_ (i := 5) (N := (some 21)) (v := ?_) (a' := ?_) #[true, true, true, true, true, true, false, false, false, false] rfl rfl (by kernel_rfl) (fun _ _ _ h => h) (Or.inl ⟨by rfl, ?_⟩) ?_ ?_
  rotate_left
  · intro w'; go_simp; first | done | with_reducible rfl
  rotate_left
  · simp only [Act.put, List.setIfInBounds_toArray, List.set_cons_zero, List.set_cons_succ, i64_w, i32_w]; rfl
  refine take_ (i := 6) (N := (some 22)) (v := ?_) (a' := ?_) #[true, true, true, true, true, true, true, false, false, false] rfl rfl (by kernel_rfl) (fun _ _ _ h => h) (Or.inl ⟨by rfl, ?_⟩) hHeld ?_ ?_
  rotate_left
  · rintro w' ⟨s0, s1, s2, s3⟩; go_simp; first | done | with_reducible rfl
  rotate_left
  · simp only [Act.put, List.setIfInBounds_toArray, List.set_cons_zero, List.set_cons_succ, i64_w, i32_w]; rfl
  refine pure_ (i := 7) (N := (some 23)) (v := ?_) (a' := ?_) #[true, true, true, true, true, true, true, true, false, false] rfl rfl (by kernel_rfl) (fun _ _ _ h => h) (Or.inl ⟨by rfl, ?_⟩) ?_ ?_
  rotate_left
  · intro w'; go_simp; first | done | with_reducible rfl
  rotate_left
  · simp only [Act.put, List.setIfInBounds_toArray, List.set_cons_zero, List.set_cons_succ, i64_w, i32_w]; rfl
  refine pure_ (i := 8) (N := (some 24)) (v := ?_) (a' := ?_) #[true, true, true, true, true, true, true, true, true, false] rfl rfl (by kernel_rfl) (fun _ _ _ h => h) (Or.inl ⟨by rfl, ?_⟩) ?_ ?_
  rotate_left
  · intro w'; go_simp; first | done | with_reducible rfl
  rotate_left
  · simp only [Act.put, List.setIfInBounds_toArray, List.set_cons_zero, List.set_cons_succ, i64_w, i32_w]; rfl
  refine pure_ (i := 9) (N := (some 6)) (v := ?_) (a' := ?_) #[true, true, true, true, true, true, true, true, true, true] rfl rfl (by kernel_rfl) (fun _ _ _ h => h) (Or.inl ⟨by rfl, ?_⟩) ?_ ?_
  rotate_left
  · intro w'; go_simp; first | done | with_reducible rfl
  rotate_left
  · simp only [Act.put, List.setIfInBounds_toArray, List.set_cons_zero, List.set_cons_succ, i64_w, i32_w]; rfl
  refine done_ (by kernel_rfl) ?_
  clear hrt' hsz hk1 hk0
  go_wp2_with fail
  have HB6 := Lib.hid (H5.out.trans (((Below.refl w5.heap.size w5).drew).mono H5.out.size))
  have G6 := Lib.hid ((((Below.refl w5.heap.size w5).drew).block w.heap.size (Array.getElem?_eq_some_iff.1 G5.out).1).trans G5.out)
  have d0 : w5.drew.cell? ⟨B5, 0, none⟩ = some (.int .i64 k) := e0
  have d1 : w5.drew.cell? ⟨B5, 1, none⟩ = some (.int .i64 a) := e1
  have d2 : w5.drew.cell? ⟨B5, 2, none⟩ = some (.int .i64 b) := e2
  have d3 : w5.drew.cell? ⟨B5, 3, none⟩ = some (.int .i64 c) := e3
  clear e0 e1 e2 e3
  generalize w5.drew = w6 at HB6 G6 d0 d1 d2 d3 ⊢
  clear G5 H5
  have hab : wrap64 ((a : Int) + b) = ((a + b : Nat) : Int) := wrap_nat (by omega)
  have has : a + b ≤ t.size := by rw [HTS.out]; omega
  have has2 : a + b + c ≤ t.size := by rw [HTS.out]; omega
  have ha3 : a ≤ a + b + c := by omega
  have hq : ((t.size : Int).tdiv 2) = ((a + b + c : Nat) : Int) := by rw [HTS.out, habc]; exact Int.ofNat_tdiv _ 2
  have hq2 : ((t.size : Int) / 2) = ((a + b + c : Nat) : Int) := by have := HTS.out; omega
  have hwf : wrap64 ((a + b + c : Nat) : Int) = ((a + b + c : Nat) : Int) := by unfold wrap64; omega
  clear habc
  generalize a + b + c = f at *
  generalize a + b = d at *
  refine start_ (n := 19) (S := fun w' => w'.cell? ⟨B5, 0, none⟩ = some (.int .i64 k) ∧ w'.cell? ⟨B5, 1, none⟩ = some (.int .i64 a) ∧ w'.cell? ⟨B5, 2, none⟩ = some (.int .i64 b) ∧ w'.cell? ⟨B5, 3, none⟩ = some (.int .i64 c)) (ds := [15,17]) #[false, false, false, false, false, false, false, false, false, false, false, false, false, false, false, false, false, false, false] (by kernel_rfl) rfl rfl ⟨by simpa using d0, by simpa using d1, by simpa using d2, by simpa using d3⟩ (fun hHeld => ?_)
  refine pure_ (i := 0) (N := (some 25)) (v := ?_) (a' := ?_) #[true, false, false, false, false, false, false, false, false, false, false, false, false, false, false, false, false, false, false] rfl rfl (by kernel_rfl) (fun _ _ _ h => h) (Or.inl ⟨by rfl, ?_⟩) ?_ ?_
  rotate_left
  · intro w'; go_simp; first | done | with_reducible rfl
  rotate_left
  · simp only [Act.put, List.setIfInBounds_toArray, List.set_cons_zero, List.set_cons_succ, i64_w, i32_w]; rfl
  refine pure_ (i := 1) (N := (some 26)) (v := ?_) (a' := ?_) #[true, true, false, false, false, false, false, false, false, false, false, false, false, false, false, false, false, false, false] rfl rfl (by kernel_rfl) (fun _ _ _ h => h) (Or.inl ⟨by rfl, ?_⟩) ?_ ?_
  rotate_left
  · intro w'; go_simp; first | done | with_reducible rfl
  rotate_left
  · simp only [Act.put, List.setIfInBounds_toArray, List.set_cons_zero, List.set_cons_succ, i64_w, i32_w]; rfl
  refine take_ (i := 2) (N := (some 27)) (v := ?_) (a' := ?_) #[true, true, true, false, false, false, false, false, false, false, false, false, false, false, false, false, false, false, false] rfl rfl (by kernel_rfl) (fun _ _ _ h => h) (Or.inl ⟨by rfl, ?_⟩) hHeld ?_ ?_
  rotate_left
  · rintro w' ⟨s0, s1, s2, s3⟩; go_simp; first | done | with_reducible rfl
  rotate_left
  · simp only [Act.put, List.setIfInBounds_toArray, List.set_cons_zero, List.set_cons_succ, i64_w, i32_w]; rfl
  refine pure_ (i := 3) (N := (some 28)) (v := ?_) (a' := ?_) #[true, true, true, true, false, false, false, false, false, false, false, false, false, false, false, false, false, false, false] rfl rfl (by kernel_rfl) (fun _ _ _ h => h) (Or.inl ⟨by rfl, ?_⟩) ?_ ?_
  rotate_left
  · intro w'; go_simp; first | done | with_reducible rfl
  rotate_left
  · simp only [Act.put, List.setIfInBounds_toArray, List.set_cons_zero, List.set_cons_succ, i64_w, i32_w]; rfl
  refine take_ (i := 4) (N := (some 29)) (v := ?_) (a' := ?_) #[true, true, true, true, true, false, false, false, false, false, false, false, false, false, false, false, false, false, false] rfl rfl (by kernel_rfl) (fun _ _ _ h => h) (Or.inl ⟨by rfl, ?_⟩) hHeld ?_ ?_
  rotate_left
  · rintro w' ⟨s0, s1, s2, s3⟩; go_simp; first | done | with_reducible rfl
  rotate_left
  · simp only [Act.put, List.setIfInBounds_toArray, List.set_cons_zero, List.set_cons_succ, i64_w, i32_w]; rfl
  refine pure_ (i := 5) (N := (some 30)) (v := ?_) (a' := ?_) #[true, true, true, true, true, true, false, false, false, false, false, false, false, false, false, false, false, false, false] rfl rfl (by kernel_rfl) (fun _ _ _ h => h) (Or.inl ⟨by rfl, ?_⟩) ?_ ?_
  rotate_left
  · intro w'; go_simp; first | done | with_reducible rfl
  rotate_left
  · simp only [Act.put, List.setIfInBounds_toArray, List.set_cons_zero, List.set_cons_succ, i64_w, i32_w]; rfl
  refine pure_ (i := 6) (N := (some 31)) (v := ?_) (a' := ?_) #[true, true, true, true, true, true, true, false, false, false, false, false, false, false, false, false, false, false, false] rfl rfl (by kernel_rfl) (fun _ _ _ h => h) (Or.inl ⟨by rfl, ?_⟩) ?_ ?_
  rotate_left
  · intro w'; go_simp; first | done | with_reducible rfl
  rotate_left
  · simp only [Act.put, List.setIfInBounds_toArray, List.set_cons_zero, List.set_cons_succ, i64_w, i32_w]; rfl
  refine pure_ (i := 8) (N := (some 33)) (v := ?_) (a' := ?_) #[true, true, true, true, true, true, true, false, true, false, false, false, false, false, false, false, false, false, false] rfl rfl (by kernel_rfl) (fun _ _ _ h => h) (Or.inl ⟨by rfl, ?_⟩) ?_ ?_
  rotate_left
  · intro w'; go_simp; first | done | with_reducible rfl
  rotate_left
  · simp only [Act.put, List.setIfInBounds_toArray, List.set_cons_zero, List.set_cons_succ, i64_w, i32_w]; rfl
  refine pure_ (i := 9) (N := (some 34)) (v := ?_) (a' := ?_) #[true, true, true, true, true, true, true, false, true, true, false, false, false, false, false, false, false, false, false] rfl rfl (by kernel_rfl) (fun _ _ _ h => h) (Or.inl ⟨by rfl, ?_⟩) ?_ ?_
  rotate_left
  · intro w'; go_simp; first | done | with_reducible rfl
  rotate_left
  · simp only [Act.put, List.setIfInBounds_toArray, List.set_cons_zero, List.set_cons_succ, i64_w, i32_w]; rfl
  refine take_ (i := 10) (N := (some 35)) (v := ?_) (a' := ?_) #[true, true, true, true, true, true, true, false, true, true, true, false, false, false, false, false, false, false, false] rfl rfl (by kernel_rfl) (fun _ _ _ h => h) (Or.inl ⟨by rfl, ?_⟩) hHeld ?_ ?_
  rotate_left
  · rintro w' ⟨s0, s1, s2, s3⟩; go_simp; first | done | with_reducible rfl
  rotate_left
  · simp only [Act.put, List.setIfInBounds_toArray, List.set_cons_zero, List.set_cons_succ, i64_w, i32_w]; rfl
  refine pure_ (i := 11) (N := (some 36)) (v := ?_) (a' := ?_) #[true, true, true, true, true, true, true, false, true, true, true, true, false, false, false, false, false, false, false] rfl rfl (by kernel_rfl) (fun _ _ _ h => h) (Or.inl ⟨by rfl, ?_⟩) ?_ ?_
  rotate_left
  · intro w'; go_simp; first | done | with_reducible rfl
  rotate_left
  · simp only [Act.put, List.setIfInBounds_toArray, List.set_cons_zero, List.set_cons_succ, i64_w, i32_w]; rfl
  refine pure_ (i := 12) (N := (some 37)) (v := ?_) (a' := ?_) #[true, true, true, true, true, true, true, false, true, true, true, true, true, false, false, false, false, false, false] rfl rfl (by kernel_rfl) (fun _ _ _ h => h) (Or.inl ⟨by rfl, ?_⟩) ?_ ?_
  rotate_left
  · intro w'; go_simp; first | done | with_reducible rfl
  rotate_left
  · simp only [Act.put, List.setIfInBounds_toArray, List.set_cons_zero, List.set_cons_succ, i64_w, i32_w]; rfl
  refine pure_ (i := 13) (N := (some 38)) (v := ?_) (a' := ?_) #[true, true, true, true, true, true, true, false, true, true, true, true, true, true, false, false, false, false, false] rfl rfl (by kernel_rfl) (fun _ _ _ h => h) (Or.inl ⟨by rfl, ?_⟩) ?_ ?_
  rotate_left
  · intro w'; go_simp; first | done | with_reducible rfl
  rotate_left
  · simp only [Act.put, List.setIfInBounds_toArray, List.set_cons_zero, List.set_cons_succ, i64_w, i32_w]; rfl
  refine pure_ (i := 14) (N := (some 39)) (v := ?_) (a' := ?_) #[true, true, true, true, true, true, true, false, true, true, true, true, true, true, true, false, false, false, false] rfl rfl (by kernel_rfl) (fun _ _ _ h => h) (Or.inl ⟨by rfl, ?_⟩) ?_ ?_
  rotate_left
  · intro w'; go_simp; first | done | with_reducible rfl
  rotate_left
  · simp only [Act.put, List.setIfInBounds_toArray, List.set_cons_zero, List.set_cons_succ, i64_w, i32_w]; rfl
  refine one_ (i := 7) (N := (some 32)) #[true, true, true, true, true, true, true, true, true, true, true, true, true, true, true, false, false, false, false] rfl rfl (by kernel_rfl) (by decide) (fun K hK => ?_)
  refine goes_ Tryd.func21 (by kernel_rfl) rfl #[.string (t.extract 0 d)] (by rfl) rfl rfl (by (try simp only [List.map_toArray, List.map_cons, List.map_nil]); first | done | rfl) ?_
  refine (HX.out _).mono ?_
  rintro e w7 ⟨rfl, hb7⟩
  refine ⟨_, rfl, ?_⟩
  have HB7 := Lib.hid (HB6.out.drew.trans (hb7.mono HB6.out.drew.size))
  have G7 := Lib.hid ((hb7.block w.heap.size (Array.getElem?_eq_some_iff.1 (show w6.drew.heap[w.heap.size]? = _ from G6.out)).1).trans (show w6.drew.heap[w.heap.size]? = _ from G6.out))
  have HD7 := Lib.hid (cells_later ⟨d0, d1, d2, d3⟩ ((Below.refl w6.heap.size w6).drew.trans hb7))
  clear hb7
  refine hK.out _ _ HD7.out (fun hHeld => ?_)
  clear hK K
  refine norm_ (a' := ?_) ?_ ?_
  rotate_left
  · show Act.put _ (some 32) _ = _; simp only [Act.put, List.setIfInBounds_toArray, List.set_cons_zero, List.set_cons_succ, i64_w, i32_w]; rfl
  refine last_ (i := 15) (N := (some 40)) #[true, true, true, true, true, true, true, true, true, true, true, true, true, true, true, true, false, false, false] rfl rfl (by kernel_rfl) (by decide) (fun K hK => ?_)
  refine goes_ Tryd.func21 (by kernel_rfl) rfl #[.string (t.extract a f)] (by rfl) rfl rfl (by (try simp only [List.map_toArray, List.map_cons, List.map_nil]); first | done | rfl) ?_
  refine (HY.out _).mono ?_
  rintro e w8 ⟨rfl, hb8⟩
  refine ⟨_, rfl, ?_⟩
  have HB8 := Lib.hid (HB7.out.trans (hb8.mono HB7.out.size))
  have G8 := (hb8.block w.heap.size (Array.getElem?_eq_some_iff.1 G7.out).1).trans G7.out
  clear hb8
  have e0 := blk_at G8 0 rfl
  have e1 := blk_at G8 1 rfl
  have e2 := blk_at G8 2 rfl
  have e3 := blk_at G8 3 rfl
  have f0 := blk_free G8 0 (by decide)
  have f1 := blk_free G8 1 (by decide)
  have f2 := blk_free G8 2 (by decide)
  have f3 := blk_free G8 3 (by decide)
  unfold ptV
  refine hK.out _ _ ?_
  clear hK K
  refine norm_ (a' := ?_) ?_ ?_
  rotate_left
  · show Act.put _ (some 40) _ = _; simp only [Act.put, List.setIfInBounds_toArray, List.set_cons_zero, List.set_cons_succ, i64_w, i32_w]; rfl
  refine pure_ (i := 16) (N := (some 41)) (v := (.agg #[.int .i64 x1, .int .i64 y1, .int .i64 x2, .int .i64 y2])) (a' := ?_) #[true, true, true, true, true, true, true, true, true, true, true, true, true, true, true, true, true, false, false] rfl rfl (by kernel_rfl) (fun _ _ _ h => h) (Or.inl ⟨by rfl, ?_⟩) ?_ ?_
  · intro w'; go_simp; first | done | with_reducible rfl
  rotate_left
  · simp only [Act.put, List.setIfInBounds_toArray, List.set_cons_zero, List.set_cons_succ, i64_w, i32_w]; rfl
  refine last_ (i := 17) (N := none) #[true, true, true, true, true, true, true, true, true, true, true, true, true, true, true, true, true, true, false] rfl rfl (by kernel_rfl) (by decide) (fun K hK => ?_)
  refine skip_step (w1 := (((w8.setCell ⟨w.heap.size, 0, none⟩ (.int .i64 x1)).setCell ⟨w.heap.size, 1, none⟩ (.int .i64 y1)).setCell ⟨w.heap.size, 2, none⟩ (.int .i64 x2)).setCell ⟨w.heap.size, 3, none⟩ (.int .i64 y2)) (by rfl) (by go_simp) ?_
  refine hK.out _ _ ?_
  clear hK K
  refine norm_ (a' := ?_) ?_ ?_
  rotate_left
  · show Act.put _ none _ = _; simp only [Act.put, List.setIfInBounds_toArray, List.set_cons_zero, List.set_cons_succ, i64_w, i32_w]; rfl
  refine pure_ (i := 18) (N := (some 3)) (v := ?_) (a' := ?_) #[true, true, true, true, true, true, true, true, true, true, true, true, true, true, true, true, true, true, true] rfl rfl (by kernel_rfl) (fun _ _ _ h => h) (Or.inl ⟨by rfl, ?_⟩) ?_ ?_
  rotate_left
  · intro w'; go_simp; first | done | with_reducible rfl
  rotate_left
  · simp only [Act.put, List.setIfInBounds_toArray, List.set_cons_zero, List.set_cons_succ, i64_w, i32_w]; rfl
  refine done_ (by kernel_rfl) ?_
  go_wp2
  have n1 := four_set (y0 := .int .i64 x1) (y1 := .int .i64 y1) (y2 := .int .i64 x2) (y3 := .int .i64 y2) G8
  have n2 := four_below (k := .int .i64 x1) (a := .int .i64 y1) (c := .int .i64 x2) (d := .int .i64 y2) HB8.out (Nat.le_refl w.heap.size)
  generalize (((w8.setCell ⟨w.heap.size, 0, none⟩ (.int .i64 x1)).setCell ⟨w.heap.size, 1, none⟩ (.int .i64 y1)).setCell ⟨w.heap.size, 2, none⟩ (.int .i64 x2)).setCell ⟨w.heap.size, 3, none⟩ (.int .i64 y2) = W5 at n1 n2 ⊢
  have k0 := blk_at n1 0 rfl
  have k1 := blk_at n1 1 rfl
  have k2 := blk_at n1 2 rfl
  have k3 := blk_at n1 3 rfl
  exact bodyPost_ret (v := .tuple #[.agg #[.int .i64 x1, .int .i64 y1, .int .i64 x2, .int .i64 y2], .int .i64 0]) (by simp [results, Tryd.f37, go_sem, k0, k1, k2, k3]) rfl ⟨rfl, n2⟩
end Go.Proofs.YtpfenoioeajkmaaDoor.X
end

section
set_option linter.unusedVariables false
set_option linter.unusedSimpArgs false
namespace Go.Proofs.YtpfenoioeajkmaaDoor.X
open Go.RowKit Go.Proofs.YtpfenoioeajkmaaDoorW.PrintWords Go.Proofs.YtpfenoioeajkmaaDoorW.PrintLast Go.Proofs.YtpfenoioeajkmaaDoorW.PrintMore Go.Proofs.YtpfenoioeajkmaaDoor.L
theorem four_eq34 (a b c d : Int) (w : World) : (Op.equalIn 10000 34 (.agg #[.int .i64 a, .int .i64 b, .int .i64 c, .int .i64 d]) (.agg #[.int .i64 a, .int .i64 b, .int .i64 c, .int .i64 d])).run Tryd.prog w = .ok true w := by
  have u3 := Tryd.underlying3
  have a3 := Tryd.isAgg3
  have z3 := Tryd.sizeOf3
  rw [show (10000 : Nat) = 9999 + 1 from rfl, Op.equalIn]
  simp only [Sem.run_bind, run_underlying Tryd.underlying34, Result.andThen_ok]
  simp only [Std.Legacy.Range.forIn_eq_forIn_range', Std.Legacy.Range.size, Nat.sub_zero, Nat.add_sub_cancel, Nat.div_one, List.range'_succ, List.range'_zero, List.forIn_cons, List.forIn_nil]
  go_simp
theorem pair_eq29' (a b : Int) (w : World) : (Op.equalIn 9999 29 (.agg #[.int .i64 a, .int .i64 b]) (.agg #[.int .i64 a, .int .i64 b])).run Tryd.prog w = .ok true w := by
  have u3 := Tryd.underlying3
  have a3 := Tryd.isAgg3
  have z3 := Tryd.sizeOf3
  rw [show (9999 : Nat) = 9998 + 1 from rfl, Op.equalIn]
  simp only [Sem.run_bind, run_underlying Tryd.underlying29, Result.andThen_ok]
  simp only [Std.Legacy.Range.forIn_eq_forIn_range', Std.Legacy.Range.size, Nat.sub_zero, Nat.add_sub_cancel, Nat.div_one, List.range'_succ, List.range'_zero, List.forIn_cons, List.forIn_nil]
  go_simp
theorem four_eq40 (a b c d : Int) (w : World) : (Op.equalIn 10000 40 (.agg #[.int .i64 a, .int .i64 b, .int .i64 c, .int .i64 d]) (.agg #[.int .i64 a, .int .i64 b, .int .i64 c, .int .i64 d])).run Tryd.prog w = .ok true w := by
  have u3 := Tryd.underlying3
  have u29 := Tryd.underlying29
  have a3 := Tryd.isAgg3
  have z3 := Tryd.sizeOf3
  have a29 := Tryd.isAgg29
  have z29 := Tryd.sizeOf29
  have h1 := fun w => pair_eq29' a b w
  have h2 := fun w => pair_eq29' c d w
  rw [show (10000 : Nat) = 9999 + 1 from rfl, Op.equalIn]
  simp only [Sem.run_bind, run_underlying Tryd.underlying40, Result.andThen_ok]
  simp only [Std.Legacy.Range.forIn_eq_forIn_range', Std.Legacy.Range.size, Nat.sub_zero, Nat.add_sub_cancel, Nat.div_one, List.range'_succ, List.range'_zero, List.forIn_cons, List.forIn_nil]
  go_simp
structure Kept (B : Nat) (o : Obj) (w : World) : Prop where
  h : w.heap[B]? = some o
theorem Kept.lt {B : Nat} {o : Obj} {w : World} (h : Kept B o w) : B < w.heap.size := (Array.getElem?_eq_some_iff.1 h.h).1
theorem Kept.later {B : Nat} {o : Obj} {w w' : World} (h : Kept B o w) (hb : Below w.heap.size w w') : Kept B o w' := ⟨(hb.block B h.lt).trans h.h⟩
set_option maxHeartbeats 8000000 in
set_option maxRecDepth 100000 in
theorem Factors_law_no (a s : ByteArray) (w : World) (ha : a.size ≤ 140737488351232) (hs : s.size ≤ 1000) (ht : ∀ w, Calls Tryd.prog 18 #[.string a] w fun e w' => e = .returned (.string s) ∧ Below w.heap.size w w') (h : isO s = false) (h' : isO a = false) :
    Calls Tryd.prog 8 #[.string a] w fun e w' => e = .returned (.bool true) ∧ Below w.heap.size w w' := by
  have HT := Lib.hid ht
  have HA := Lib.hid (Factor_no s hs h)
  have HB := Lib.hid (Factors_no s hs h)
  have HC := Lib.hid (Vectors_err s 2 (by decide) (Factor_no s hs h))
  have HI := Lib.hid (ris_calls a ha)
  rw [h'] at HI
  clear ht h hs h' ha
  unfold encF at HA
  unfold vecV at HC
  go_enter Tryd.func8, Tryd.ntmps8
  go_wp2_with fail
  refine (HT.out _).mono ?_
  rintro e w1 ⟨rfl, hb1⟩
  have H1 := Lib.hid ((Below.refl w.heap.size w).trans (hb1.mono (Below.refl w.heap.size w).size))
  clear hb1
  go_wp2_with fail
  refine (HA.out _).mono ?_
  rintro e w2 ⟨rfl, hb2⟩
  have H2 := Lib.hid (H1.out.trans (hb2.mono H1.out.size))
  clear hb2
  go_wp2_with fail
  obtain ⟨w3, B3, e3, f3, g3, b3, z3⟩ := blk_name (w := w2) (.cells #[.int .i64 0, .int .i64 0, .int .i64 0, .int .i64 0] 34)
  rw [← e3, f3]
  have H3 := Lib.hid (H2.out.trans (b3.mono H2.out.size))
  have k3 : Kept B3 _ w3 := ⟨g3⟩
  clear e3 f3 g3 z3
  clear b3
  refine (HT.out _).mono ?_
  rintro e w4 ⟨rfl, hb4⟩
  have H4 := Lib.hid (H3.out.trans (hb4.mono H3.out.size))
  have k4 := k3.later hb4
  clear hb4 k3
  go_wp2_with fail
  refine (HB.out _).mono ?_
  rintro e w5 ⟨rfl, hb5⟩
  have H5 := Lib.hid (H4.out.trans (hb5.mono H4.out.size))
  have k5 := k4.later hb5
  clear hb5 k4
  go_wp2_with fail
  refine (HT.out _).mono ?_
  rintro e w6 ⟨rfl, hb6⟩
  have H6 := Lib.hid (H5.out.trans (hb6.mono H5.out.size))
  have k6 := k5.later hb6
  clear hb6 k5
  go_wp2_with fail
  refine (HC.out _).mono ?_
  rintro e w7 ⟨rfl, hb7⟩
  have H7 := Lib.hid (H6.out.trans (hb7.mono H6.out.size))
  have k7 := k6.later hb7
  clear hb7 k6
  go_wp2_with fail
  obtain ⟨w8, B8, e8, f8, g8, b8, z8⟩ := blk_name (w := w7) (.cells #[.int .i64 0, .int .i64 0, .int .i64 0, .int .i64 0] 40)
  rw [← e8, f8]
  have H8 := Lib.hid (H7.out.trans (b8.mono H7.out.size))
  have k8 : Kept B8 _ w8 := ⟨g8⟩
  clear e8 f8 g8 z8
  have j8 := k7.later b8
  clear b8 k7
  refine (HI.out _).mono ?_
  rintro e w9 ⟨rfl, hb9⟩
  have H9 := Lib.hid (H8.out.trans (hb9.mono H8.out.size))
  have k9 := (k8.later hb9).h
  have j9 := (j8.later hb9).h
  clear hb9 k8 j8
  have e0 := blk_at k9 0 rfl
  have e1 := blk_at k9 1 rfl
  have e2 := blk_at k9 2 rfl
  have e3 := blk_at k9 3 rfl
  have f0 := blk_at j9 0 rfl
  have f1 := blk_at j9 1 rfl
  have f2 := blk_at j9 2 rfl
  have f3 := blk_at j9 3 rfl
  clear k9 j9
  have hm34 : Tryd.prog.eqGuardType Tryd.prog.depth 34 = false := by kernel_rfl
  have hm40 : Tryd.prog.eqGuardType Tryd.prog.depth 40 = false := by kernel_rfl
  have q34 := four_eq34 0 0 0 0
  have q40 := four_eq40 0 0 0 0
  go_wp2_with fail
  refine (awake_ok _).mono ?_
  rintro e w10 ⟨rfl, hb10⟩
  have H10 := Lib.hid (H9.out.trans (hb10.mono H9.out.size))
  clear hb10
  clear e0 e1 e2 e3 f0 f1 f2 f3
  go_wp2
  go_ret
  exact ⟨rfl, H10.out⟩
set_option maxHeartbeats 8000000 in
set_option maxRecDepth 100000 in
theorem Factors_law_yes (s : ByteArray) (w : World) (h : isO s = true) (k a b c : Nat) (E x1 y1 x2 y2 : Int)
    (h1 : ∀ w, Calls Tryd.prog 32 #[.string s] w fun e w' => e = .returned (.tuple #[encF (k, a, b, c), .int .i64 E]) ∧ Below w.heap.size w w')
    (h2 : ∀ w, Calls Tryd.prog 36 #[.string s] w fun e w' => e = .returned (.tuple #[encF (k, a, b, c), .int .i64 E]) ∧ Below w.heap.size w w')
    (h3 : ∀ w, Calls Tryd.prog 35 #[.string s] w fun e w' => e = .returned (.tuple #[vecV x1 y1 x2 y2, .int .i64 E]) ∧ Below w.heap.size w w')
    (h4 : ∀ w, Calls Tryd.prog 37 #[.string s] w fun e w' => e = .returned (.tuple #[vecV x1 y1 x2 y2, .int .i64 E]) ∧ Below w.heap.size w w')
    (h5 : ∀ w, Calls Tryd.prog 38 #[.string s] w fun e w' => e = .returned (.int .i64 (facs s).length) ∧ Below w.heap.size w w') :
    Calls Tryd.prog 8 #[.string s] w fun e w' => e = .returned (.bool true) ∧ Below w.heap.size w w' := by
  have hs24 := isW_le (isO_W h)
  have HT := Lib.hid (text_ok (isO_W h))
  have HA := Lib.hid h1
  have HB := Lib.hid (Factors_yes s h)
  have HC := Lib.hid h3
  have HI := Lib.hid (ris_calls s (by omega))
  have HD := Lib.hid h2
  have HE := Lib.hid h4
  have HF := Lib.hid h5
  rw [h] at HI
  generalize (((facs s).length : Nat) : Int) = M at HB HF
  clear h h1 h2 h3 h4 h5 hs24
  unfold encF at HA HD
  unfold vecV at HC HE
  dsimp only at HA HD
  go_enter Tryd.func8, Tryd.ntmps8
  go_wp2_with fail
  refine (HT.out _).mono ?_
  rintro e w1 ⟨rfl, hb1⟩
  have H1 := Lib.hid ((Below.refl w.heap.size w).trans (hb1.mono (Below.refl w.heap.size w).size))
  clear hb1
  go_wp2_with fail
  refine (HA.out _).mono ?_
  rintro e w2 ⟨rfl, hb2⟩
  have H2 := Lib.hid (H1.out.trans (hb2.mono H1.out.size))
  clear hb2
  go_wp2_with fail
  obtain ⟨w3, B3, e3, f3, g3, b3, z3⟩ := blk_name (w := w2) (.cells #[.int .i64 k, .int .i64 a, .int .i64 b, .int .i64 c] 34)
  rw [← e3, f3]
  have H3 := Lib.hid (H2.out.trans (b3.mono H2.out.size))
  have k3 : Kept B3 _ w3 := ⟨g3⟩
  clear e3 f3 g3 z3
  clear b3
  refine (HT.out _).mono ?_
  rintro e w4 ⟨rfl, hb4⟩
  have H4 := Lib.hid (H3.out.trans (hb4.mono H3.out.size))
  have k4 := k3.later hb4
  clear hb4 k3
  go_wp2_with fail
  refine (HB.out _).mono ?_
  rintro e w5 ⟨rfl, hb5⟩
  have H5 := Lib.hid (H4.out.trans (hb5.mono H4.out.size))
  have k5 := k4.later hb5
  clear hb5 k4
  go_wp2_with fail
  refine (HT.out _).mono ?_
  rintro e w6 ⟨rfl, hb6⟩
  have H6 := Lib.hid (H5.out.trans (hb6.mono H5.out.size))
  have k6 := k5.later hb6
  clear hb6 k5
  go_wp2_with fail
  refine (HC.out _).mono ?_
  rintro e w7 ⟨rfl, hb7⟩
  have H7 := Lib.hid (H6.out.trans (hb7.mono H6.out.size))
  have k7 := k6.later hb7
  clear hb7 k6
  go_wp2_with fail
  obtain ⟨w8, B8, e8, f8, g8, b8, z8⟩ := blk_name (w := w7) (.cells #[.int .i64 x1, .int .i64 y1, .int .i64 x2, .int .i64 y2] 40)
  rw [← e8, f8]
  have H8 := Lib.hid (H7.out.trans (b8.mono H7.out.size))
  have k8 : Kept B8 _ w8 := ⟨g8⟩
  clear e8 f8 g8 z8
  have j8 := k7.later b8
  clear b8 k7
  refine (HI.out _).mono ?_
  rintro e w9 ⟨rfl, hb9⟩
  have H9 := Lib.hid (H8.out.trans (hb9.mono H8.out.size))
  have k9 := k8.later hb9
  have j9 := j8.later hb9
  clear hb9 k8 j8
  go_wp2_with fail
  refine (HD.out _).mono ?_
  rintro e w10 ⟨rfl, hb10⟩
  have H10 := Lib.hid (H9.out.trans (hb10.mono H9.out.size))
  have k10 := k9.later hb10
  have j10 := j9.later hb10
  clear hb10 k9 j9
  go_wp2_with fail
  obtain ⟨w11, B11, e11, f11, g11, b11, z11⟩ := blk_name (w := w10) (.cells #[.int .i64 k, .int .i64 a, .int .i64 b, .int .i64 c] 34)
  rw [← e11, f11]
  have H11 := Lib.hid (H10.out.trans (b11.mono H10.out.size))
  have k11 : Kept B11 _ w11 := ⟨g11⟩
  clear e11 f11 g11 z11
  have i11 := k11
  have k11 := k10.later b11
  have j11 := j10.later b11
  clear b11 k10 j10
  refine (HE.out _).mono ?_
  rintro e w12 ⟨rfl, hb12⟩
  have H12 := Lib.hid (H11.out.trans (hb12.mono H11.out.size))
  have i12 := i11.later hb12
  have k12 := k11.later hb12
  have j12 := j11.later hb12
  clear hb12 k11 j11 i11
  have hm34 : Tryd.prog.eqGuardType Tryd.prog.depth 34 = false := by kernel_rfl
  have hm40 : Tryd.prog.eqGuardType Tryd.prog.depth 40 = false := by kernel_rfl
  have q34 := four_eq34 k a b c
  have q40 := four_eq40 x1 y1 x2 y2
  have e0 := blk_at j12.h 0 rfl
  have e1 := blk_at j12.h 1 rfl
  have e2 := blk_at j12.h 2 rfl
  have e3 := blk_at j12.h 3 rfl
  have c0 := blk_at i12.h 0 rfl
  have c1 := blk_at i12.h 1 rfl
  have c2 := blk_at i12.h 2 rfl
  have c3 := blk_at i12.h 3 rfl
  have l3 := j12.lt
  have l11 := i12.lt
  go_wp2_with fail
  obtain ⟨w13, B13, e13, f13, g13, b13, z13⟩ := blk_name (w := w12) (.cells #[.int .i64 x1, .int .i64 y1, .int .i64 x2, .int .i64 y2] 40)
  rw [← e13, f13]
  have H13 := Lib.hid (H12.out.trans (b13.mono H12.out.size))
  have k13 : Kept B13 _ w13 := ⟨g13⟩
  clear e13 f13 g13 z13
  have j13 := k12.later b13
  clear b13 e0 e1 e2 e3 c0 c1 c2 c3 l3 l11 q34 hm34 i12 k12 j12
  refine (HF.out _).mono ?_
  rintro e w14 ⟨rfl, hb14⟩
  have H14 := Lib.hid (H13.out.trans (hb14.mono H13.out.size))
  have j14 := j13.later hb14
  have k14 := k13.later hb14
  clear hb14 j13 k13
  have e0 := blk_at k14.h 0 rfl
  have e1 := blk_at k14.h 1 rfl
  have e2 := blk_at k14.h 2 rfl
  have e3 := blk_at k14.h 3 rfl
  have c0 := blk_at j14.h 0 rfl
  have c1 := blk_at j14.h 1 rfl
  have c2 := blk_at j14.h 2 rfl
  have c3 := blk_at j14.h 3 rfl
  go_wp2_with fail
  refine (awake_ok _).mono ?_
  rintro e w15 ⟨rfl, hb15⟩
  have H15 := Lib.hid (H14.out.trans (hb15.mono H14.out.size))
  clear hb15 e0 e1 e2 e3 c0 c1 c2 c3 k14 j14
  go_wp2
  go_ret
  exact ⟨rfl, H15.out⟩
theorem cut_sumy {t : ByteArray} (h : isW t = true) (i j : Nat) (hj : j ≤ t.size) : rsumy (t.extract i j) (t.extract i j).size = sumy (t.extract i j) (t.extract i j).size :=
  rsumy_eq (cut_W h i j hj) _ (Nat.le_refl _)
theorem isO_4 {s : ByteArray} (h : isO s = true) : 4 ≤ s.size := by
  unfold isO at h
  simp only [Bool.and_eq_true, decide_eq_true_eq] at h
  omega
theorem MouldsFactors.calls (s : ByteArray) (w : World) (hs : s.size ≤ 140737488351232) :
    Calls Tryd.prog 8 #[.string s] w fun e w' => e = .returned (.bool true) ∧ Below w.heap.size w w' := by
  cases h : isO s with
  | false => exact Factors_law_no s (txt s) w hs (by have := txt_le s; omega) (text_any s) (by rw [txt_O]; exact h) h
  | true =>
    have hw := isO_W h
    have h24 := isW_le hw
    have h4 := isO_4 h
    cases hf : facs s with
    | nil =>
      exact Factors_law_yes s w h 0 0 0 0 4 0 0 0 0 (Factor_none h hf) (rFactor_none s hw (by omega) hf) (Vectors_err s 4 (by decide) (Factor_none h hf)) (rVectors_err s 4 (by decide) (rFactor_none s hw (by omega) hf)) (rFactors_calls s hw (by omega))
    | cons x l =>
      obtain ⟨k, a, b, h1, h2, h3, h4, h5, h6, rfl⟩ := mem_facs (s := s) (x := x) (by rw [hf]; exact List.mem_cons_self)
      have hsz := rot_size s (Nat.le_of_lt h1)
      have hrw := rot_W hw (Nat.le_of_lt h1)
      exact Factors_law_yes s w h k a b (s.size / 2 - a - b) 0 _ _ _ _ (Factor_some h hf) (rFactor_some s hw (by omega) k a b _ l hf)
        (Vectors_some s _ k a b (s.size / 2 - a - b) _ _ _ _ h24 h1 rfl (by omega) (Factor_some h hf) rfl (cut_sumy hrw 0 (a + b) (by omega)).symm rfl (cut_sumy hrw a _ (by omega)).symm)
        (rVectors_some s _ k a b (s.size / 2 - a - b) _ _ _ _ h24 h1 rfl (by omega) (rFactor_some s hw (by omega) k a b _ l hf) rfl rfl rfl rfl) (rFactors_calls s hw (by omega))
end Go.Proofs.YtpfenoioeajkmaaDoor.X
end
