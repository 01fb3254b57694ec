/- Texts of this claim, merged by a program (wip/tools/shake.py); what nothing names is left out. -/
import Derived.RangeFuncFrom
import Derived.Test.YtpfenoioeajkmaaDoorSaa
section
set_option linter.unusedVariables false
set_option linter.unusedSimpArgs false
namespace Go.Proofs.YtpfenoioeajkmaaDoor.X
open Go.RowKit Go.Proofs.YtpfenoioeajkmaaDoorW.PrintWords Go.Proofs.YtpfenoioeajkmaaDoorW.PrintLast Go.Proofs.YtpfenoioeajkmaaDoorW.PrintMore Go.Proofs.YtpfenoioeajkmaaDoor.L
abbrev Fct := Nat × Nat × Nat × Nat
def encF (f : Fct) : Value := .agg #[.int .i64 f.1, .int .i64 f.2.1, .int .i64 f.2.2.1, .int .i64 f.2.2.2]
def fT (t : ByteArray) (h a b : Nat) : Bool := decide (t.extract h t.size = backF (t.extract 0 a) ++ backF (t.extract a (a + b)) ++ backF (t.extract (a + b) h))
def fB (s : ByteArray) (k a : Nat) : Nat → List Fct
  | 0 => []
  | m + 1 => fB s k a m ++ if fT (rotF s k) (s.size / 2) a (m + 1) then [(k, a, m + 1, s.size / 2 - a - (m + 1))] else []
def fA (s : ByteArray) (k : Nat) : Nat → List Fct
  | 0 => []
  | m + 1 => fA s k m ++ fB s k (m + 1) (s.size / 2 - (m + 1))
def fK (s : ByteArray) : Nat → List Fct
  | 0 => []
  | k + 1 => fK s k ++ fA s k (s.size / 2 - 1)
def facs (s : ByteArray) : List Fct := fK s s.size
theorem fB_pre (s : ByteArray) (k a : Nat) : ∀ {m m' : Nat}, m ≤ m' → fB s k a m <+: fB s k a m'
  | m, 0, h => by obtain rfl : m = 0 := by omega
                  exact List.prefix_refl _
  | m, m' + 1, h => by
    by_cases e : m = m' + 1
    · rw [e]; exact List.prefix_refl _
    · exact (fB_pre s k a (by omega)).trans (List.prefix_append _ _)
theorem fA_pre (s : ByteArray) (k : Nat) : ∀ {m m' : Nat}, m ≤ m' → fA s k m <+: fA s k m'
  | m, 0, h => by obtain rfl : m = 0 := by omega
                  exact List.prefix_refl _
  | m, m' + 1, h => by
    by_cases e : m = m' + 1
    · rw [e]; exact List.prefix_refl _
    · exact (fA_pre s k (by omega)).trans (List.prefix_append _ _)
theorem fK_pre (s : ByteArray) : ∀ {m m' : Nat}, m ≤ m' → fK s m <+: fK s m'
  | m, 0, h => by obtain rfl : m = 0 := by omega
                  exact List.prefix_refl _
  | m, m' + 1, h => by
    by_cases e : m = m' + 1
    · rw [e]; exact List.prefix_refl _
    · exact (fK_pre s (by omega)).trans (List.prefix_append _ _)
theorem pre_app {α : Type} (l : List α) {x y : List α} (h : x <+: y) : l ++ x <+: l ++ y := by
  obtain ⟨z, rfl⟩ := h
  exact ⟨z, by rw [List.append_assoc]⟩
theorem all_pre {s : ByteArray} {k m b : Nat} (hk : k < s.size) (hm : m + 1 ≤ s.size / 2 - 1) (hb : b ≤ s.size / 2 - (m + 1)) : fK s k ++ fA s k m ++ fB s k (m + 1) b <+: facs s := by
  have h1 : fA s k m ++ fB s k (m + 1) b <+: fA s k (m + 1) := pre_app _ (fB_pre s k (m + 1) hb)
  have h2 : fK s k ++ (fA s k m ++ fB s k (m + 1) b) <+: fK s (k + 1) := pre_app _ (h1.trans (fA_pre s k hm))
  rw [List.append_assoc]
  exact h2.trans (fK_pre s (by omega))
theorem fB_step (s : ByteArray) (k a : Nat) {b : Nat} (hb : 1 ≤ b) : fB s k a b = fB s k a (b - 1) ++ if fT (rotF s k) (s.size / 2) a b then [(k, a, b, s.size / 2 - a - b)] else [] := by
  obtain ⟨m, rfl⟩ : ∃ m, b = m + 1 := ⟨b - 1, by omega⟩
  rfl
theorem fA_step (s : ByteArray) (k : Nat) {a : Nat} (ha : 1 ≤ a) : fA s k a = fA s k (a - 1) ++ fB s k a (s.size / 2 - a) := by
  obtain ⟨m, rfl⟩ : ∃ m, a = m + 1 := ⟨a - 1, by omega⟩
  rfl
theorem yes_step {s t : ByteArray} {k a b h : Nat} (hf : fT t h a b = true) (hrt : rotF s k = t) (hh : s.size / 2 = h) (hb : 1 ≤ b) :
    fK s k ++ fA s k (a - 1) ++ fB s k a (b - 1) ++ [(k, a, b, h - a - b)] = fK s k ++ fA s k (a - 1) ++ fB s k a (b + 1 - 1) := by
  rw [show b + 1 - 1 = b by omega, fB_step s k a hb, hrt, hh, if_pos hf, List.append_assoc]
theorem no_step {s t : ByteArray} {k a b h : Nat} (hf : fT t h a b = false) (hrt : rotF s k = t) (hh : s.size / 2 = h) (hb : 1 ≤ b) :
    fK s k ++ fA s k (a - 1) ++ fB s k a (b - 1) = fK s k ++ fA s k (a - 1) ++ fB s k a (b + 1 - 1) := by
  rw [show b + 1 - 1 = b by omega, fB_step s k a hb, hrt, hh, hf, if_neg (by decide), List.append_nil]
theorem row_step {s : ByteArray} {k a b c h : Nat} (hh : s.size / 2 = h) (ha : 1 ≤ a) (hb : 1 ≤ b) (hb2 : b ≤ h - a + 1) (hc : a + b = c) (hn : ¬ c ≤ h) (hah : a < h) :
    fK s k ++ fA s k (a - 1) ++ fB s k a (b - 1) = fK s k ++ fA s k (a + 1 - 1) := by
  rw [show a + 1 - 1 = a by omega, fA_step s k ha, hh, show b - 1 = h - a by omega, List.append_assoc]
theorem yes_pre {s t : ByteArray} {k a b c h : Nat} (hf : fT t h a b = true) (hrt : rotF s k = t) (hh : s.size / 2 = h) (ha : 1 ≤ a) (hb : 1 ≤ b) (hc : a + b = c) (hn : c ≤ h) (hah : a < h) (hk : k < s.size) :
    fK s k ++ fA s k (a - 1) ++ fB s k a (b - 1) ++ [(k, a, b, h - a - b)] <+: facs s := by
  rw [yes_step hf hrt hh hb, show b + 1 - 1 = b by omega]
  obtain ⟨m, rfl⟩ : ∃ m, a = m + 1 := ⟨a - 1, by omega⟩
  rw [show m + 1 - 1 = m by omega]
  exact all_pre hk (by rw [hh]; omega) (by rw [hh]; omega)
theorem yes_len {s t : ByteArray} {k a b c h : Nat} (hf : fT t h a b = true) (hrt : rotF s k = t) (hh : s.size / 2 = h) (ha : 1 ≤ a) (hb : 1 ≤ b) (hc : a + b = c) (hn : c ≤ h) (hah : a < h) (hk : k < s.size) :
    (fK s k ++ fA s k (a - 1) ++ fB s k a (b - 1)).length < (facs s).length := by
  have := (yes_pre hf hrt hh ha hb hc hn hah hk).length_le
  rw [List.length_append] at this
  simp only [List.length_singleton] at this
  omega
theorem wrap_succ {a : Nat} (h : a ≤ 100) : wrap64 ((a : Int) + 1) = ((a + 1 : Nat) : Int) := by unfold wrap64; omega
theorem beq_lists {a b : ByteArray} {r : Bool} (h : decide (a = b) = r) : (a.toList = b.toList) = (r = true) := by
  rw [ByteArray.toList_eq, ByteArray.toList_eq]
  cases r with
  | true =>
    have := of_decide_eq_true h
    simp [this]
  | false =>
    simp only [Bool.false_eq_true, eq_iff_iff, iff_false]
    intro q
    have e : a = b := by
      cases a
      cases b
      simp only [ByteArray.mk.injEq]
      exact Array.toList_inj.1 q
    exact of_decide_eq_false h e
theorem grown_of_below {W W' : World} (h : Below W.heap.size W W') : W.grownBy W' none := ⟨h.os, h.tape, h.output, h.size, fun k hk _ => h.block k hk⟩
def KpF (Bn : Nat) (s : ByteArray) (A B : World) : Prop := (A.cell? ⟨Bn, 0, none⟩ = some (.string s) → B.cell? ⟨Bn, 0, none⟩ = some (.string s)) ∧ KeepsWalks A B
theorem rot_size (s : ByteArray) {k : Nat} (hk : k ≤ s.size) : (rotF s k).size = s.size := by
  unfold rotF
  rw [ByteArray.size_append, ByteArray.size_extract, ByteArray.size_extract]
  omega
theorem bt_app (a b : ByteArray) (i : Nat) (hi : i < (a ++ b).size) : bt (a ++ b) (i : Int) = if i < a.size then bt a (i : Int) else bt b ((i - a.size : Nat) : Int) := by
  rw [← bt_at (a ++ b) (i : Int) (by simpa using hi)]
  by_cases h : i < a.size
  · rw [if_pos h, ← bt_at a (i : Int) (by simpa using h)]
    have : (a ++ b)[i]'hi = a[i]'h := ByteArray.getElem_append_left h
    show (((a ++ b)[i]'hi).toNat : Int) = ((a[i]'h).toNat : Int)
    rw [this]
  · have hb : i - a.size < b.size := by rw [ByteArray.size_append] at hi; omega
    rw [if_neg h, ← bt_at b ((i - a.size : Nat) : Int) (by simpa using hb)]
    have : (a ++ b)[i]'hi = b[i - a.size]'hb := ByteArray.getElem_append_right (by omega)
    show (((a ++ b)[i]'hi).toNat : Int) = ((b[i - a.size]'hb).toNat : Int)
    rw [this]
theorem rot_bt (s : ByteArray) {k : Nat} (hk : k ≤ s.size) (i : Nat) (hi : i < s.size) : bt (rotF s k) i = bt s (if i < s.size - k then k + i else i - (s.size - k) : Nat) := by
  have h := rot_size s hk
  unfold rotF at h ⊢
  have h1 : (s.extract k s.size).size = s.size - k := by rw [ByteArray.size_extract]; omega
  rw [bt_app _ _ i (by rw [h]; exact hi), h1]
  by_cases hlt : i < s.size - k
  · rw [if_pos hlt, if_pos hlt, bt_cut s k s.size i (by omega) (Nat.le_refl _)]
  · rw [if_neg hlt, if_neg hlt, bt_cut s 0 k (i - (s.size - k)) (by omega) hk, Nat.zero_add]
theorem rot_W {s : ByteArray} (h : isW s = true) {k : Nat} (hk : k ≤ s.size) : isW (rotF s k) = true := by
  have hs := rot_size s hk
  rw [isW_iff] at h ⊢
  refine ⟨by rw [hs]; exact h.1, fun i hi => ?_⟩
  rw [hs] at hi
  rw [rot_bt s hk i hi]
  refine h.2 _ ?_
  split <;> omega
theorem back_W' {s : ByteArray} (h : isW s = true) (w : World) : Calls Tryd.prog 53 #[.string s] w fun e w' => e = .returned (.string (backF s)) ∧ Below w.heap.size w w' := moulds_back.calls s _ w (back_f h)
set_option maxHeartbeats 8000000 in
set_option maxRecDepth 100000 in
theorem factors1_in (n l Bn : Nat) (s : ByteArray) (hw : isW s = true) (J Jx : List Fct → World → Prop) (W : World) (hJ : AbidesFrom W.heap.size J)
    (hY : ∀ pre x W1, J pre W1 → pre.length < (facs s).length → YieldAt Fence.wide (n - 1) Tryd.prog l #[encF x] W1 fun e W' => (e = .returned (.bool true) ∧ J (pre ++ [x]) W' ∧ KpF Bn s W1 W') ∨ (e = .returned (.bool false) ∧ Jx (pre ++ [x]) W'))
    (hc : W.cell? ⟨Bn, 0, none⟩ = some (.string s)) (h0 : J [] W) :
    Calls Tryd.prog 77 #[.func (.yield l) #[] #[], .pointer (some ⟨Bn, 0, none⟩)] W fun e W' => (∃ v, e = .returned v) ∧ ((∃ xs, xs = facs s ∧ J xs W') ∨ (∃ pre, pre <+: facs s ∧ Jx pre W')) := by
  have hs24 := isW_le hw
  have hBnW : Bn < W.heap.size := World.block_lt_of_cell? _ _ hc
  have HW := Lib.hid hw
  have HA := Lib.hid (ascii_of ((isW_iff s).1 hw).2)
  have HJ := Lib.hid hJ
  have HY := Lib.hid hY
  clear hw hJ hY
  go_enter Tryd.func77, Tryd.ntmps77
  go_wp2_with fail
  have hit : (W.iter s 0).heap[W.heap.size]? = some (.stringIter s 0) := World.iter_heap W s 0
  have hbl : Below W.heap.size W (W.iter s 0) := (Below.refl _ _).alloc (Nat.le_refl _) _
  have hc1 : (W.iter s 0).cell? ⟨Bn, 0, none⟩ = some (.string s) := (hbl.cell (p := ⟨Bn, 0, none⟩) (World.block_lt_of_cell? _ _ hc)).trans hc
  have h01 := HJ.out [] W (W.iter s 0) none h0 (grown_of_below hbl) (fun r e => by cases e)
  have hsz1 := hbl.size
  generalize W.iter s 0 = w1 at hit hbl hc1 h01 hsz1 ⊢
  have HI := Lib.hid hit
  have HJ0 := Lib.hid h01
  have HC := Lib.hid hc1
  have HZ := Lib.hid hsz1
  generalize hB : W.heap.size = B at *
  clear hit hbl hc1 h01 hc h0 hsz1
  have hq : ((s.size : Int).tdiv 2) = ((s.size / 2 : Nat) : Int) := Int.ofNat_tdiv _ 2
  have hq2 : ((s.size : Int) / 2) = ((s.size / 2 : Nat) : Int) := by omega
  have hhs : s.size / 2 ≤ s.size := by omega
  generalize hh : s.size / 2 = h at *
  have HH := Lib.hid hh
  clear hh
  (try simp only [hq])
  (try simp only [hq2])
  clear hq hq2
  go_loopw [4] (fun _ wr => ∃ k : Nat, k ≤ s.size ∧ Hid (wr.heap[B]? = some (.stringIter s k)) ∧ Hid (wr.cell? ⟨Bn, 0, none⟩ = some (.string s)) ∧ Hid (J (fK s k) wr) ∧ Hid (B ≤ wr.heap.size)) (fun _ wr => match wr.heap[B]? with | some (.stringIter _ p) => s.size - p | _ => 0)
  case atStart => exact ⟨0, by omega, HI, HC, HJ0, HZ⟩
  case round =>
    clear HI HC HJ0 HZ
    obtain ⟨k, hk, HI, HC, HJ0, HZ⟩ := hrel
    have HI0 := HI
    by_cases hlt : k < s.size
    · have hnx := fun ty => run_next_at (P := Tryd.prog) HI.out hlt (ascii_at HA.out hlt) ty
      have hit2 : (putObj wr B (.stringIter s (k + 1))).heap[B]? = some (.stringIter s (k + 1)) := putObj_at HI.out
      have hg2 : wr.grownBy (putObj wr B (.stringIter s (k + 1))) (some B) := Go.grownBy_putObj' wr B (.stringIter s (k + 1))
      have hc2 := cell_grown hg2 HC.out (by simp; omega)
      have hJ2 := HJ.out _ _ _ _ HJ0.out hg2 (fun r e => by cases e; exact ⟨Nat.le_refl _, _, HI.out, rfl⟩)
      have HSZ := Lib.hid (show B ≤ (putObj wr B (.stringIter s (k + 1))).heap.size from Nat.le_trans HZ.out hg2.size)
      go_wp2_with fail
      clear hnx
      generalize putObj wr B (.stringIter s (k + 1)) = w2 at hit2 hc2 hJ2 HSZ ⊢
      clear hg2
      have HI2 := Lib.hid hit2
      have HC2 := Lib.hid hc2
      have HJ2 := Lib.hid hJ2
      clear hit2 hJ2 HI HC HJ0 HZ
      generalize hrt : rotF s k = t at *
      have hrt' : s.extract k s.size ++ s.extract 0 k = t := hrt
      have hts : t.size = s.size := by rw [← hrt]; exact rot_size s hk
      have htw : isW t = true := by rw [← hrt]; exact rot_W HW.out hk
      have HT := Lib.hid htw
      have HRT := Lib.hid hrt
      clear hrt htw
      have hsk : ¬ ((k : Int) < 0) := by omega
      have hsz : (9223372036854775807 < s.size) = False := by simp; omega
      refine start_ (n := 8) (S := fun w' => w'.cell? ⟨Bn, 0, none⟩ = some (.string s) ∧ True) (ds := []) #[false, false, false, false, false, false, false, false] (by kernel_rfl) rfl rfl ⟨hc2, trivial⟩ (fun hHeld => ?_)
      refine take_ (i := 0) (N := (some 16)) (v := ?_) (a' := ?_) #[true, false, false, false, false, false, false, false] rfl rfl (by kernel_rfl) (fun _ _ _ h => h) (Or.inl ⟨by rfl, ?_⟩) hHeld ?_ ?_
      rotate_left
      · rintro w' ⟨s0, s1⟩; go_simp; first | done | with_reducible rfl
      rotate_left
      · simp only [Act.put, List.setIfInBounds_toArray, List.set_cons_zero, List.set_cons_succ, i64_w, i32_w]; rfl
      refine pure_ (i := 1) (N := (some 17)) (v := ?_) (a' := ?_) #[true, true, false, false, false, false, false, false] rfl rfl (by kernel_rfl) (fun _ _ _ h => h) (Or.inl ⟨by rfl, ?_⟩) ?_ ?_
      rotate_left
      · intro w'; go_simp; first | done | with_reducible rfl
      rotate_left
      · simp only [Act.put, List.setIfInBounds_toArray, List.set_cons_zero, List.set_cons_succ, i64_w, i32_w]; rfl
      refine pure_ (i := 2) (N := (some 18)) (v := ?_) (a' := ?_) #[true, true, true, false, false, false, false, false] rfl rfl (by kernel_rfl) (fun _ _ _ h => h) (Or.inl ⟨by rfl, ?_⟩) ?_ ?_
      rotate_left
      · intro w'; go_simp; first | done | with_reducible rfl
      rotate_left
      · simp only [Act.put, List.setIfInBounds_toArray, List.set_cons_zero, List.set_cons_succ, i64_w, i32_w]; rfl
      refine take_ (i := 3) (N := (some 19)) (v := ?_) (a' := ?_) #[true, true, true, true, false, false, false, false] rfl rfl (by kernel_rfl) (fun _ _ _ h => h) (Or.inl ⟨by rfl, ?_⟩) hHeld ?_ ?_
      rotate_left
      · rintro w' ⟨s0, s1⟩; go_simp; first | done | with_reducible rfl
      rotate_left
      · simp only [Act.put, List.setIfInBounds_toArray, List.set_cons_zero, List.set_cons_succ, i64_w, i32_w]; rfl
      refine pure_ (i := 4) (N := (some 20)) (v := ?_) (a' := ?_) #[true, true, true, true, true, false, false, false] rfl rfl (by kernel_rfl) (fun _ _ _ h => h) (Or.inl ⟨by rfl, ?_⟩) ?_ ?_
      rotate_left
      · intro w'; go_simp; first | done | with_reducible rfl
      rotate_left
      · simp only [Act.put, List.setIfInBounds_toArray, List.set_cons_zero, List.set_cons_succ, i64_w, i32_w]; rfl
      refine pure_ (i := 5) (N := (some 21)) (v := ?_) (a' := ?_) #[true, true, true, true, true, true, false, false] rfl rfl (by kernel_rfl) (fun _ _ _ h => h) (Or.inl ⟨by rfl, ?_⟩) ?_ ?_
      rotate_left
      · intro w'; go_simp; first | done | with_reducible rfl
      rotate_left
      · simp only [Act.put, List.setIfInBounds_toArray, List.set_cons_zero, List.set_cons_succ, i64_w, i32_w]; rfl
      refine pure_ (i := 6) (N := (some 22)) (v := ?_) (a' := ?_) #[true, true, true, true, true, true, true, false] rfl rfl (by kernel_rfl) (fun _ _ _ h => h) (Or.inl ⟨by rfl, ?_⟩) ?_ ?_
      rotate_left
      · intro w'; go_simp; first | done | with_reducible rfl
      rotate_left
      · simp only [Act.put, List.setIfInBounds_toArray, List.set_cons_zero, List.set_cons_succ, i64_w, i32_w]; rfl
      refine pure_ (i := 7) (N := (some 5)) (v := ?_) (a' := ?_) #[true, true, true, true, true, true, true, true] rfl rfl (by kernel_rfl) (fun _ _ _ h => h) (Or.inl ⟨by rfl, ?_⟩) ?_ ?_
      rotate_left
      · intro w'; go_simp; first | done | with_reducible rfl
      rotate_left
      · simp only [Act.put, List.setIfInBounds_toArray, List.set_cons_zero, List.set_cons_succ, i64_w, i32_w]; rfl
      refine done_ (by kernel_rfl) ?_
      clear hHeld hrt' hsk hc2 hsz
      have HTS := Lib.hid hts
      have HJ2 := Lib.hid (HJ.out _ _ _ _ HJ2.out (grown_of_below (Below.refl w2.heap.size w2).drew) (fun r e => by cases e))
      go_wp2_with fail
      go_loopw [6] (fun v wr => ∃ a : Nat, 1 ≤ a ∧ (a ≤ h ∨ a = 1) ∧ v = .int .i64 a ∧ Hid (wr.heap[B]? = some (.stringIter s (k + 1))) ∧ Hid (wr.cell? ⟨Bn, 0, none⟩ = some (.string s)) ∧ Hid (J (fK s k ++ fA s k (a - 1)) wr) ∧ Hid (B ≤ wr.heap.size)) (fun v _ => h + 1 - (intOf v).toNat)
      case atStart => exact ⟨1, by omega, by omega, rfl, HI2, HC2, by rw [show (1 - 1 : Nat) = 0 by rfl, fA, List.append_nil]; exact HJ2, HSZ⟩
      case round =>
        clear HI2 HC2 HJ2 HSZ
        obtain ⟨a, ha1, ha2, rfl, HI2, HC2, HJ2, HSZ⟩ := hrel
        by_cases hah : a < h
        · go_wp2_with fail
          go_loopw [7] (fun v wr => ∃ b : Nat, 1 ≤ b ∧ b ≤ h - a + 1 ∧ v = .int .i64 b ∧ Hid (wr.heap[B]? = some (.stringIter s (k + 1))) ∧ Hid (wr.cell? ⟨Bn, 0, none⟩ = some (.string s)) ∧ Hid (J (fK s k ++ fA s k (a - 1) ++ fB s k a (b - 1)) wr) ∧ Hid (B ≤ wr.heap.size)) (fun v _ => h + 1 - (intOf v).toNat)
          case atStart => exact ⟨1, by omega, by omega, rfl, HI2, HC2, by rw [show (1 - 1 : Nat) = 0 by rfl, fB, List.append_nil]; exact HJ2, HSZ⟩
          case round =>
            clear HI2 HC2 HJ2 HSZ
            obtain ⟨b, hb1, hb2, rfl, HI2, HC2, HJ2, HSZ⟩ := hrel
            have hab : wrap64 ((a : Int) + (b : Int)) = ((a + b : Nat) : Int) := by unfold wrap64; omega
            have hac : a ≤ a + b := by omega
            have HQ := Lib.hid (And.intro hb1 hb2)
            generalize hcc : a + b = c at hab hac
            have HCC := Lib.hid hcc
            have has : a ≤ s.size := Nat.le_trans (Nat.le_of_lt hah) hhs
            clear hcc hb1 hb2
            by_cases hbh : c ≤ h
            · have hcs : c ≤ s.size := Nat.le_trans hbh hhs
              go_wp2_with fail
              generalize hX : backF (t.extract 0 a) = X
              generalize hY : backF (t.extract a c) = Y
              generalize hZ : backF (t.extract c h) = Z
              have hXs : X.size ≤ 24 := by rw [← hX, back_size, ByteArray.size_extract]; omega
              have hYs : Y.size ≤ 24 := by rw [← hY, back_size, ByteArray.size_extract]; omega
              have hZs : Z.size ≤ 24 := by rw [← hZ, back_size, ByteArray.size_extract]; omega
              have hz1 : (9223372036854775807 < X.size + Y.size) = False := by simp; omega
              have hz2 : (9223372036854775807 < X.size + Y.size + Z.size) = False := by simp; omega
              have HX := Lib.hid hX
              have HYY := Lib.hid hY
              have HZZ := Lib.hid hZ
              clear hX hY hZ hXs hYs hZs
              have hts := HTS.out
              have hfc : wrap64 (wrap64 ((h : Int) - a) - b) = ((h - a - b : Nat) : Int) := by have := HQ.out; have := HCC.out; unfold wrap64; omega
              refine istart_ (n := 38) n #[false, false, false, false, false, false, false, false, false, false, false, false, false, false, false, false, false, false, false, false, false, false, false, false, false, false, false, false, false, false, false, false, false, false, false, false, false, false] (by kernel_rfl) rfl rfl ?_
              refine ipure_ (i := 0) (N := (some 35)) (v := ?_) (a' := ?_) #[true, false, false, false, false, false, false, false, false, false, false, false, false, false, false, false, false, false, false, false, false, false, false, false, false, false, false, false, false, false, false, false, false, false, false, false, false, false] rfl rfl (by kernel_rfl) (fun _ _ _ h => h) ⟨Or.inl ⟨by rfl, ?_⟩, fun _ => rfl⟩ ?_ ?_
              rotate_left
              · intro w'; go_simp; first | done | with_reducible rfl
              rotate_left
              · simp only [Act.put, List.setIfInBounds_toArray, List.set_cons_zero, List.set_cons_succ, i64_w, i32_w]; rfl
              refine ipure_ (i := 1) (N := (some 36)) (v := ?_) (a' := ?_) #[true, true, false, false, false, false, false, false, false, false, false, false, false, false, false, false, false, false, false, false, false, false, false, false, false, false, false, false, false, false, false, false, false, false, false, false, false, false] rfl rfl (by kernel_rfl) (fun _ _ _ h => h) ⟨Or.inl ⟨by rfl, ?_⟩, fun _ => rfl⟩ ?_ ?_
              rotate_left
              · intro w'; go_simp; first | done | with_reducible rfl
              rotate_left
              · simp only [Act.put, List.setIfInBounds_toArray, List.set_cons_zero, List.set_cons_succ, i64_w, i32_w]; rfl
              refine ipure_ (i := 2) (N := (some 37)) (v := ?_) (a' := ?_) #[true, true, true, false, false, false, false, false, false, false, false, false, false, false, false, false, false, false, false, false, false, false, false, false, false, false, false, false, false, false, false, false, false, false, false, false, false, false] rfl rfl (by kernel_rfl) (fun _ _ _ h => h) ⟨Or.inl ⟨by rfl, ?_⟩, fun _ => rfl⟩ ?_ ?_
              rotate_left
              · intro w'; go_simp; first | done | with_reducible rfl
              rotate_left
              · simp only [Act.put, List.setIfInBounds_toArray, List.set_cons_zero, List.set_cons_succ, i64_w, i32_w]; rfl
              refine ipure_ (i := 3) (N := (some 38)) (v := ?_) (a' := ?_) #[true, true, true, true, false, false, false, false, false, false, false, false, false, false, false, false, false, false, false, false, false, false, false, false, false, false, false, false, false, false, false, false, false, false, false, false, false, false] rfl rfl (by kernel_rfl) (fun _ _ _ h => h) ⟨Or.inl ⟨by rfl, ?_⟩, fun _ => rfl⟩ ?_ ?_
              rotate_left
              · intro w'; go_simp; first | done | with_reducible rfl
              rotate_left
              · simp only [Act.put, List.setIfInBounds_toArray, List.set_cons_zero, List.set_cons_succ, i64_w, i32_w]; rfl
              refine ipure_ (i := 4) (N := (some 39)) (v := ?_) (a' := ?_) #[true, true, true, true, true, false, false, false, false, false, false, false, false, false, false, false, false, false, false, false, false, false, false, false, false, false, false, false, false, false, false, false, false, false, false, false, false, false] rfl rfl (by kernel_rfl) (fun _ _ _ h => h) ⟨Or.inl ⟨by rfl, ?_⟩, fun _ => rfl⟩ ?_ ?_
              rotate_left
              · intro w'; go_simp; first | done | with_reducible rfl
              rotate_left
              · simp only [Act.put, List.setIfInBounds_toArray, List.set_cons_zero, List.set_cons_succ, i64_w, i32_w]; rfl
              refine ipure_ (i := 5) (N := (some 40)) (v := ?_) (a' := ?_) #[true, true, true, true, true, true, false, false, false, false, false, false, false, false, false, false, false, false, false, false, false, false, false, false, false, false, false, false, false, false, false, false, false, false, false, false, false, false] rfl rfl (by kernel_rfl) (fun _ _ _ h => h) ⟨Or.inl ⟨by rfl, ?_⟩, fun _ => rfl⟩ ?_ ?_
              rotate_left
              · intro w'; go_simp; first | done | with_reducible rfl
              rotate_left
              · simp only [Act.put, List.setIfInBounds_toArray, List.set_cons_zero, List.set_cons_succ, i64_w, i32_w]; rfl
              refine ipure_ (i := 7) (N := (some 42)) (v := ?_) (a' := ?_) #[true, true, true, true, true, true, false, true, false, false, false, false, false, false, false, false, false, false, false, false, false, false, false, false, false, false, false, false, false, false, false, false, false, false, false, false, false, false] rfl rfl (by kernel_rfl) (fun _ _ _ h => h) ⟨Or.inl ⟨by rfl, ?_⟩, fun _ => rfl⟩ ?_ ?_
              rotate_left
              · intro w'; go_simp; first | done | with_reducible rfl
              rotate_left
              · simp only [Act.put, List.setIfInBounds_toArray, List.set_cons_zero, List.set_cons_succ, i64_w, i32_w]; rfl
              refine ipure_ (i := 8) (N := (some 43)) (v := ?_) (a' := ?_) #[true, true, true, true, true, true, false, true, true, false, false, false, false, false, false, false, false, false, false, false, false, false, false, false, false, false, false, false, false, false, false, false, false, false, false, false, false, false] rfl rfl (by kernel_rfl) (fun _ _ _ h => h) ⟨Or.inl ⟨by rfl, ?_⟩, fun _ => rfl⟩ ?_ ?_
              rotate_left
              · intro w'; go_simp; first | done | with_reducible rfl
              rotate_left
              · simp only [Act.put, List.setIfInBounds_toArray, List.set_cons_zero, List.set_cons_succ, i64_w, i32_w]; rfl
              refine ipure_ (i := 9) (N := (some 44)) (v := ?_) (a' := ?_) #[true, true, true, true, true, true, false, true, true, true, false, false, false, false, false, false, false, false, false, false, false, false, false, false, false, false, false, false, false, false, false, false, false, false, false, false, false, false] rfl rfl (by kernel_rfl) (fun _ _ _ h => h) ⟨Or.inl ⟨by rfl, ?_⟩, fun _ => rfl⟩ ?_ ?_
              rotate_left
              · intro w'; go_simp; first | done | with_reducible rfl
              rotate_left
              · simp only [Act.put, List.setIfInBounds_toArray, List.set_cons_zero, List.set_cons_succ, i64_w, i32_w]; rfl
              refine ipure_ (i := 10) (N := (some 45)) (v := ?_) (a' := ?_) #[true, true, true, true, true, true, false, true, true, true, true, false, false, false, false, false, false, false, false, false, false, false, false, false, false, false, false, false, false, false, false, false, false, false, false, false, false, false] rfl rfl (by kernel_rfl) (fun _ _ _ h => h) ⟨Or.inl ⟨by rfl, ?_⟩, fun _ => rfl⟩ ?_ ?_
              rotate_left
              · intro w'; go_simp; first | done | with_reducible rfl
              rotate_left
              · simp only [Act.put, List.setIfInBounds_toArray, List.set_cons_zero, List.set_cons_succ, i64_w, i32_w]; rfl
              refine ipure_ (i := 11) (N := (some 46)) (v := ?_) (a' := ?_) #[true, true, true, true, true, true, false, true, true, true, true, true, false, false, false, false, false, false, false, false, false, false, false, false, false, false, false, false, false, false, false, false, false, false, false, false, false, false] rfl rfl (by kernel_rfl) (fun _ _ _ h => h) ⟨Or.inl ⟨by rfl, ?_⟩, fun _ => rfl⟩ ?_ ?_
              rotate_left
              · intro w'; go_simp; first | done | with_reducible rfl
              rotate_left
              · simp only [Act.put, List.setIfInBounds_toArray, List.set_cons_zero, List.set_cons_succ, i64_w, i32_w]; rfl
              refine ipure_ (i := 12) (N := (some 47)) (v := ?_) (a' := ?_) #[true, true, true, true, true, true, false, true, true, true, true, true, true, false, false, false, false, false, false, false, false, false, false, false, false, false, false, false, false, false, false, false, false, false, false, false, false, false] rfl rfl (by kernel_rfl) (fun _ _ _ h => h) ⟨Or.inl ⟨by rfl, ?_⟩, fun _ => rfl⟩ ?_ ?_
              rotate_left
              · intro w'; go_simp; first | done | with_reducible rfl
              rotate_left
              · simp only [Act.put, List.setIfInBounds_toArray, List.set_cons_zero, List.set_cons_succ, i64_w, i32_w]; rfl
              refine ipure_ (i := 15) (N := (some 50)) (v := ?_) (a' := ?_) #[true, true, true, true, true, true, false, true, true, true, true, true, true, false, false, true, false, false, false, false, false, false, false, false, false, false, false, false, false, false, false, false, false, false, false, false, false, false] rfl rfl (by kernel_rfl) (fun _ _ _ h => h) ⟨Or.inl ⟨by rfl, ?_⟩, fun _ => rfl⟩ ?_ ?_
              rotate_left
              · intro w'; go_simp; first | done | with_reducible rfl
              rotate_left
              · simp only [Act.put, List.setIfInBounds_toArray, List.set_cons_zero, List.set_cons_succ, i64_w, i32_w]; rfl
              refine ipure_ (i := 16) (N := (some 51)) (v := ?_) (a' := ?_) #[true, true, true, true, true, true, false, true, true, true, true, true, true, false, false, true, true, false, false, false, false, false, false, false, false, false, false, false, false, false, false, false, false, false, false, false, false, false] rfl rfl (by kernel_rfl) (fun _ _ _ h => h) ⟨Or.inl ⟨by rfl, ?_⟩, fun _ => rfl⟩ ?_ ?_
              rotate_left
              · intro w'; go_simp; first | done | with_reducible rfl
              rotate_left
              · simp only [Act.put, List.setIfInBounds_toArray, List.set_cons_zero, List.set_cons_succ, i64_w, i32_w]; rfl
              refine ipure_ (i := 17) (N := (some 52)) (v := ?_) (a' := ?_) #[true, true, true, true, true, true, false, true, true, true, true, true, true, false, false, true, true, true, false, false, false, false, false, false, false, false, false, false, false, false, false, false, false, false, false, false, false, false] rfl rfl (by kernel_rfl) (fun _ _ _ h => h) ⟨Or.inl ⟨by rfl, ?_⟩, fun _ => rfl⟩ ?_ ?_
              rotate_left
              · intro w'; go_simp; first | done | with_reducible rfl
              rotate_left
              · simp only [Act.put, List.setIfInBounds_toArray, List.set_cons_zero, List.set_cons_succ, i64_w, i32_w]; rfl
              refine ipure_ (i := 18) (N := (some 53)) (v := ?_) (a' := ?_) #[true, true, true, true, true, true, false, true, true, true, true, true, true, false, false, true, true, true, true, false, false, false, false, false, false, false, false, false, false, false, false, false, false, false, false, false, false, false] rfl rfl (by kernel_rfl) (fun _ _ _ h => h) ⟨Or.inl ⟨by rfl, ?_⟩, fun _ => rfl⟩ ?_ ?_
              rotate_left
              · intro w'; go_simp; first | done | with_reducible rfl
              rotate_left
              · simp only [Act.put, List.setIfInBounds_toArray, List.set_cons_zero, List.set_cons_succ, i64_w, i32_w]; rfl
              refine ipure_ (i := 19) (N := (some 54)) (v := ?_) (a' := ?_) #[true, true, true, true, true, true, false, true, true, true, true, true, true, false, false, true, true, true, true, true, false, false, false, false, false, false, false, false, false, false, false, false, false, false, false, false, false, false] rfl rfl (by kernel_rfl) (fun _ _ _ h => h) ⟨Or.inl ⟨by rfl, ?_⟩, fun _ => rfl⟩ ?_ ?_
              rotate_left
              · intro w'; go_simp; first | done | with_reducible rfl
              rotate_left
              · simp only [Act.put, List.setIfInBounds_toArray, List.set_cons_zero, List.set_cons_succ, i64_w, i32_w]; rfl
              refine ipure_ (i := 20) (N := (some 55)) (v := ?_) (a' := ?_) #[true, true, true, true, true, true, false, true, true, true, true, true, true, false, false, true, true, true, true, true, true, false, false, false, false, false, false, false, false, false, false, false, false, false, false, false, false, false] rfl rfl (by kernel_rfl) (fun _ _ _ h => h) ⟨Or.inl ⟨by rfl, ?_⟩, fun _ => rfl⟩ ?_ ?_
              rotate_left
              · intro w'; go_simp; first | done | with_reducible rfl
              rotate_left
              · simp only [Act.put, List.setIfInBounds_toArray, List.set_cons_zero, List.set_cons_succ, i64_w, i32_w]; rfl
              refine ilast_ (i := 6) (N := (some 41)) #[true, true, true, true, true, true, true, true, true, true, true, true, true, false, false, true, true, true, true, true, true, false, false, false, false, false, false, false, false, false, false, false, false, false, false, false, false, false] rfl rfl (by kernel_rfl) (fun K hK => ?_)
              refine igoes_ Tryd.func53 (by kernel_rfl) rfl #[.string (t.extract 0 a)] (by rfl) rfl rfl (by (try simp only [List.map_toArray, List.map_cons, List.map_nil]); first | done | rfl) ?_
              refine (back_W' (cut_W HT.out 0 a (by omega)) _).mono ?_
              rintro e w3 ⟨rfl, hb3⟩
              refine ⟨_, rfl, ?_⟩
              rw [HX.out]
              refine hK.out _ _ ?_
              clear hK K
              refine inorm_ (a' := ?_) ?_ ?_
              rotate_left
              · show Act.put _ (some 41) _ = _; simp only [Act.put, List.setIfInBounds_toArray, List.set_cons_zero, List.set_cons_succ, i64_w, i32_w]; rfl
              refine ilast_ (i := 13) (N := (some 48)) #[true, true, true, true, true, true, true, true, true, true, true, true, true, true, false, true, true, true, true, true, true, false, false, false, false, false, false, false, false, false, false, false, false, false, false, false, false, false] rfl rfl (by kernel_rfl) (fun K hK => ?_)
              refine igoes_ Tryd.func53 (by kernel_rfl) rfl #[.string (t.extract a c)] (by rfl) rfl rfl (by (try simp only [List.map_toArray, List.map_cons, List.map_nil]); first | done | rfl) ?_
              refine (back_W' (cut_W HT.out a c (by rw [hts]; exact hcs)) _).mono ?_
              rintro e w4 ⟨rfl, hb4⟩
              refine ⟨_, rfl, ?_⟩
              rw [HYY.out]
              refine hK.out _ _ ?_
              clear hK K
              refine inorm_ (a' := ?_) ?_ ?_
              rotate_left
              · show Act.put _ (some 48) _ = _; simp only [Act.put, List.setIfInBounds_toArray, List.set_cons_zero, List.set_cons_succ, i64_w, i32_w]; rfl
              refine ipure_ (i := 14) (N := (some 49)) (v := ?_) (a' := ?_) #[true, true, true, true, true, true, true, true, true, true, true, true, true, true, true, true, true, true, true, true, true, false, false, false, false, false, false, false, false, false, false, false, false, false, false, false, false, false] rfl rfl (by kernel_rfl) (fun _ _ _ h => h) ⟨Or.inl ⟨by rfl, ?_⟩, fun _ => rfl⟩ ?_ ?_
              rotate_left
              · intro w'; go_simp; first | done | with_reducible rfl
              rotate_left
              · simp only [Act.put, List.setIfInBounds_toArray, List.set_cons_zero, List.set_cons_succ, i64_w, i32_w]; rfl
              refine ilast_ (i := 21) (N := (some 56)) #[true, true, true, true, true, true, true, true, true, true, true, true, true, true, true, true, true, true, true, true, true, true, false, false, false, false, false, false, false, false, false, false, false, false, false, false, false, false] rfl rfl (by kernel_rfl) (fun K hK => ?_)
              refine igoes_ Tryd.func53 (by kernel_rfl) rfl #[.string (t.extract c h)] (by rfl) rfl rfl (by (try simp only [List.map_toArray, List.map_cons, List.map_nil]); first | done | rfl) ?_
              refine (back_W' (cut_W HT.out c h (by rw [hts]; exact hhs)) _).mono ?_
              rintro e w5 ⟨rfl, hb5⟩
              refine ⟨_, rfl, ?_⟩
              rw [HZZ.out]
              refine hK.out _ _ ?_
              clear hK K
              refine inorm_ (a' := ?_) ?_ ?_
              rotate_left
              · show Act.put _ (some 56) _ = _; simp only [Act.put, List.setIfInBounds_toArray, List.set_cons_zero, List.set_cons_succ, i64_w, i32_w]; rfl
              refine ipure_ (i := 22) (N := (some 57)) (v := ?_) (a' := ?_) #[true, true, true, true, true, true, true, true, true, true, true, true, true, true, true, true, true, true, true, true, true, true, true, false, false, false, false, false, false, false, false, false, false, false, false, false, false, false] rfl rfl (by kernel_rfl) (fun _ _ _ h => h) ⟨Or.inl ⟨by rfl, ?_⟩, fun _ => rfl⟩ ?_ ?_
              rotate_left
              · intro w'; go_simp; first | done | with_reducible rfl
              rotate_left
              · simp only [Act.put, List.setIfInBounds_toArray, List.set_cons_zero, List.set_cons_succ, i64_w, i32_w]; rfl
              have hbt : Below wr.heap.size wr w5 := (Below.refl wr.heap.size wr).drew.trans (hb3.trans ((hb4.mono hb3.size).trans (hb5.mono (Nat.le_trans hb3.size hb4.size))))
              have hBl : B < wr.heap.size := (Array.getElem?_eq_some_iff.1 HI2.out).1
              have HI5 := Lib.hid ((hbt.block B hBl).trans HI2.out)
              have HC5 := Lib.hid ((hbt.cell (p := ⟨Bn, 0, none⟩) (World.block_lt_of_cell? _ _ HC2.out)).trans HC2.out)
              have HJ5 := Lib.hid (HJ.out _ _ _ none HJ2.out (grown_of_below hbt) (fun r e => by cases e))
              have HZ5 := Lib.hid (Nat.le_trans HSZ.out hbt.size)
              have hfT : decide (t.extract h s.size = X ++ Y ++ Z) = fT t h a b := by
                unfold fT
                rw [HCC.out, HX.out, HYY.out, HZZ.out, hts]
              clear hbt hb3 hb4 hb5 hBl HI2 HC2 HJ2 HSZ
              have hwb := wrap_succ (a := b) (by have := HQ.out; omega)
              cases hf : fT t h a b with
              | true =>
                rw [hf] at hfT
                have hfL := beq_lists hfT
                have HFT := Lib.hid hf
                refine ipure_ (i := 23) (N := (some 58)) (v := (.bool true)) (a' := ?_) #[true, true, true, true, true, true, true, true, true, true, true, true, true, true, true, true, true, true, true, true, true, true, true, true, false, false, false, false, false, false, false, false, false, false, false, false, false, false] rfl rfl (by kernel_rfl) (fun _ _ _ h => h) ⟨Or.inl ⟨by rfl, ?_⟩, fun _ => rfl⟩ ?_ ?_
                · intro w'; go_simp; first | done | with_reducible rfl
                rotate_left
                · simp only [Act.put, List.setIfInBounds_toArray, List.set_cons_zero, List.set_cons_succ, i64_w, i32_w]; rfl
                refine ipure_ (i := 24) (N := (some 59)) (v := ?_) (a' := ?_) #[true, true, true, true, true, true, true, true, true, true, true, true, true, true, true, true, true, true, true, true, true, true, true, true, true, false, false, false, false, false, false, false, false, false, false, false, false, false] rfl rfl (by kernel_rfl) (fun _ _ _ h => h) ⟨Or.inl ⟨by rfl, ?_⟩, fun _ => rfl⟩ ?_ ?_
                rotate_left
                · intro w'; go_simp; first | done | with_reducible rfl
                rotate_left
                · simp only [Act.put, List.setIfInBounds_toArray, List.set_cons_zero, List.set_cons_succ, i64_w, i32_w]; rfl
                refine ipure_ (i := 25) (N := (some 60)) (v := ?_) (a' := ?_) #[true, true, true, true, true, true, true, true, true, true, true, true, true, true, true, true, true, true, true, true, true, true, true, true, true, true, false, false, false, false, false, false, false, false, false, false, false, false] rfl rfl (by kernel_rfl) (fun _ _ _ h => h) ⟨Or.inl ⟨by rfl, ?_⟩, fun _ => rfl⟩ ?_ ?_
                rotate_left
                · intro w'; go_simp; first | done | with_reducible rfl
                rotate_left
                · simp only [Act.put, List.setIfInBounds_toArray, List.set_cons_zero, List.set_cons_succ, i64_w, i32_w]; rfl
                refine ipure_ (i := 26) (N := (some 61)) (v := ?_) (a' := ?_) #[true, true, true, true, true, true, true, true, true, true, true, true, true, true, true, true, true, true, true, true, true, true, true, true, true, true, true, false, false, false, false, false, false, false, false, false, false, false] rfl rfl (by kernel_rfl) (fun _ _ _ h => h) ⟨Or.inl ⟨by rfl, ?_⟩, fun _ => rfl⟩ ?_ ?_
                rotate_left
                · intro w'; go_simp; first | done | with_reducible rfl
                rotate_left
                · simp only [Act.put, List.setIfInBounds_toArray, List.set_cons_zero, List.set_cons_succ, i64_w, i32_w]; rfl
                refine ipure_ (i := 27) (N := (some 62)) (v := ?_) (a' := ?_) #[true, true, true, true, true, true, true, true, true, true, true, true, true, true, true, true, true, true, true, true, true, true, true, true, true, true, true, true, false, false, false, false, false, false, false, false, false, false] rfl rfl (by kernel_rfl) (fun _ _ _ h => h) ⟨Or.inl ⟨by rfl, ?_⟩, fun _ => rfl⟩ ?_ ?_
                rotate_left
                · intro w'; go_simp; first | done | with_reducible rfl
                rotate_left
                · simp only [Act.put, List.setIfInBounds_toArray, List.set_cons_zero, List.set_cons_succ, i64_w, i32_w]; rfl
                refine ipure_ (i := 28) (N := (some 63)) (v := ?_) (a' := ?_) #[true, true, true, true, true, true, true, true, true, true, true, true, true, true, true, true, true, true, true, true, true, true, true, true, true, true, true, true, true, false, false, false, false, false, false, false, false, false] rfl rfl (by kernel_rfl) (fun _ _ _ h => h) ⟨Or.inl ⟨by rfl, ?_⟩, fun _ => rfl⟩ ?_ ?_
                rotate_left
                · intro w'; go_simp; first | done | with_reducible rfl
                rotate_left
                · simp only [Act.put, List.setIfInBounds_toArray, List.set_cons_zero, List.set_cons_succ, i64_w, i32_w]; rfl
                refine ipure_ (i := 29) (N := (some 64)) (v := ?_) (a' := ?_) #[true, true, true, true, true, true, true, true, true, true, true, true, true, true, true, true, true, true, true, true, true, true, true, true, true, true, true, true, true, true, false, false, false, false, false, false, false, false] rfl rfl (by kernel_rfl) (fun _ _ _ h => h) ⟨Or.inl ⟨by rfl, ?_⟩, fun _ => rfl⟩ ?_ ?_
                rotate_left
                · intro w'; go_simp; first | done | with_reducible rfl
                rotate_left
                · simp only [Act.put, List.setIfInBounds_toArray, List.set_cons_zero, List.set_cons_succ, i64_w, i32_w]; rfl
                refine ipure_ (i := 30) (N := (some 65)) (v := ?_) (a' := ?_) #[true, true, true, true, true, true, true, true, true, true, true, true, true, true, true, true, true, true, true, true, true, true, true, true, true, true, true, true, true, true, true, false, false, false, false, false, false, false] rfl rfl (by kernel_rfl) (fun _ _ _ h => h) ⟨Or.inl ⟨by rfl, ?_⟩, fun _ => rfl⟩ ?_ ?_
                rotate_left
                · intro w'; go_simp; first | done | with_reducible rfl
                rotate_left
                · simp only [Act.put, List.setIfInBounds_toArray, List.set_cons_zero, List.set_cons_succ, i64_w, i32_w]; rfl
                refine ipure_ (i := 31) (N := (some 66)) (v := ?_) (a' := ?_) #[true, true, true, true, true, true, true, true, true, true, true, true, true, true, true, true, true, true, true, true, true, true, true, true, true, true, true, true, true, true, true, true, false, false, false, false, false, false] rfl rfl (by kernel_rfl) (fun _ _ _ h => h) ⟨Or.inl ⟨by rfl, ?_⟩, fun _ => rfl⟩ ?_ ?_
                rotate_left
                · intro w'; go_simp; first | done | with_reducible rfl
                rotate_left
                · simp only [Act.put, List.setIfInBounds_toArray, List.set_cons_zero, List.set_cons_succ, i64_w, i32_w]; rfl
                refine ipure_ (i := 32) (N := (some 67)) (v := ?_) (a' := ?_) #[true, true, true, true, true, true, true, true, true, true, true, true, true, true, true, true, true, true, true, true, true, true, true, true, true, true, true, true, true, true, true, true, true, false, false, false, false, false] rfl rfl (by kernel_rfl) (fun _ _ _ h => h) ⟨Or.inl ⟨by rfl, ?_⟩, fun _ => rfl⟩ ?_ ?_
                rotate_left
                · intro w'; go_simp; first | done | with_reducible rfl
                rotate_left
                · simp only [Act.put, List.setIfInBounds_toArray, List.set_cons_zero, List.set_cons_succ, i64_w, i32_w]; rfl
                refine ipure_ (i := 33) (N := (some 68)) (v := ?_) (a' := ?_) #[true, true, true, true, true, true, true, true, true, true, true, true, true, true, true, true, true, true, true, true, true, true, true, true, true, true, true, true, true, true, true, true, true, true, false, false, false, false] rfl rfl (by kernel_rfl) (fun _ _ _ h => h) ⟨Or.inl ⟨by rfl, ?_⟩, fun _ => rfl⟩ ?_ ?_
                rotate_left
                · intro w'; go_simp; first | done | with_reducible rfl
                rotate_left
                · simp only [Act.put, List.setIfInBounds_toArray, List.set_cons_zero, List.set_cons_succ, i64_w, i32_w]; rfl
                refine ipure_ (i := 34) (N := (some 69)) (v := ?_) (a' := ?_) #[true, true, true, true, true, true, true, true, true, true, true, true, true, true, true, true, true, true, true, true, true, true, true, true, true, true, true, true, true, true, true, true, true, true, true, false, false, false] rfl rfl (by kernel_rfl) (fun _ _ _ h => h) ⟨Or.inl ⟨by rfl, ?_⟩, fun _ => rfl⟩ ?_ ?_
                rotate_left
                · intro w'; go_simp; first | done | with_reducible rfl
                rotate_left
                · simp only [Act.put, List.setIfInBounds_toArray, List.set_cons_zero, List.set_cons_succ, i64_w, i32_w]; rfl
                refine ilast_ (i := 35) (N := (some 70)) #[true, true, true, true, true, true, true, true, true, true, true, true, true, true, true, true, true, true, true, true, true, true, true, true, true, true, true, true, true, true, true, true, true, true, true, true, false, false] rfl rfl (by kernel_rfl) (fun K hK => ?_)
                refine iround_ (l := l) #[encF (k, a, b, h - a - b)] (by rfl) rfl rfl rfl (by (try simp only [List.map_toArray, List.map_cons, List.map_nil]); first | done | rfl) ?_
                refine (HY.out _ (k, a, b, h - a - b) w5 HJ5.out (yes_len HFT.out HRT.out HH.out ha1 HQ.out.1 HCC.out hbh hah hlt)).mono ?_
                rintro e W6 (⟨rfl, hJ6, hK6⟩ | ⟨rfl, hJx6⟩)
                · refine ⟨_, rfl, ?_⟩
                  have HI6 := Lib.hid (hK6.2.same B _ HI5.out rfl)
                  have HC6 := Lib.hid (hK6.1 HC5.out)
                  have HJ6 := Lib.hid hJ6
                  have HZ6 := Lib.hid (Nat.le_trans HZ5.out hK6.2.size)
                  clear hJ6 hK6
                  refine hK.out _ _ ?_
                  clear hK K
                  refine inorm_ (a' := ?_) ?_ ?_
                  rotate_left
                  · show Act.put _ (some 70) _ = _; simp only [Act.put, List.setIfInBounds_toArray, List.set_cons_zero, List.set_cons_succ, i64_w, i32_w]; rfl
                  refine ipure_ (i := 36) (N := (some 71)) (v := ?_) (a' := ?_) #[true, true, true, true, true, true, true, true, true, true, true, true, true, true, true, true, true, true, true, true, true, true, true, true, true, true, true, true, true, true, true, true, true, true, true, true, true, false] rfl rfl (by kernel_rfl) (fun _ _ _ h => h) ⟨Or.inl ⟨by rfl, ?_⟩, fun _ => rfl⟩ ?_ ?_
                  rotate_left
                  · intro w'; go_simp; first | done | with_reducible rfl
                  rotate_left
                  · simp only [Act.put, List.setIfInBounds_toArray, List.set_cons_zero, List.set_cons_succ, i64_w, i32_w]; rfl
                  refine ipure_ (i := 37) (N := (some 72)) (v := ?_) (a' := ?_) #[true, true, true, true, true, true, true, true, true, true, true, true, true, true, true, true, true, true, true, true, true, true, true, true, true, true, true, true, true, true, true, true, true, true, true, true, true, true] rfl rfl (by kernel_rfl) (fun _ _ _ h => h) ⟨Or.inl ⟨by rfl, ?_⟩, fun _ => rfl⟩ ?_ ?_
                  rotate_left
                  · intro w'; go_simp; first | done | with_reducible rfl
                  rotate_left
                  · simp only [Act.put, List.setIfInBounds_toArray, List.set_cons_zero, List.set_cons_succ, i64_w, i32_w]; rfl
                  refine idone_ (by kernel_rfl) ?_
                  go_wp2_with fail
                  rw [hwb]
                  refine ⟨⟨b + 1, by omega, by have := HQ.out; have := HCC.out; omega, rfl, HI6, HC6, ?_, HZ6⟩, by simp [intOf]; have := HQ.out; have := HCC.out; omega⟩
                  rw [← yes_step HFT.out HRT.out HH.out HQ.out.1]
                  exact HJ6
                · refine ⟨_, rfl, ?_⟩
                  have HJ6 := Lib.hid hJx6
                  clear hJx6
                  refine hK.out _ _ ?_
                  clear hK K
                  refine inorm_ (a' := ?_) ?_ ?_
                  rotate_left
                  · show Act.put _ (some 70) _ = _; simp only [Act.put, List.setIfInBounds_toArray, List.set_cons_zero, List.set_cons_succ, i64_w, i32_w]; rfl
                  refine ipure_ (i := 36) (N := (some 71)) (v := ?_) (a' := ?_) #[true, true, true, true, true, true, true, true, true, true, true, true, true, true, true, true, true, true, true, true, true, true, true, true, true, true, true, true, true, true, true, true, true, true, true, true, true, false] rfl rfl (by kernel_rfl) (fun _ _ _ h => h) ⟨Or.inl ⟨by rfl, ?_⟩, fun _ => rfl⟩ ?_ ?_
                  rotate_left
                  · intro w'; go_simp; first | done | with_reducible rfl
                  rotate_left
                  · simp only [Act.put, List.setIfInBounds_toArray, List.set_cons_zero, List.set_cons_succ, i64_w, i32_w]; rfl
                  refine ipure_ (i := 37) (N := (some 72)) (v := ?_) (a' := ?_) #[true, true, true, true, true, true, true, true, true, true, true, true, true, true, true, true, true, true, true, true, true, true, true, true, true, true, true, true, true, true, true, true, true, true, true, true, true, true] rfl rfl (by kernel_rfl) (fun _ _ _ h => h) ⟨Or.inl ⟨by rfl, ?_⟩, fun _ => rfl⟩ ?_ ?_
                  rotate_left
                  · intro w'; go_simp; first | done | with_reducible rfl
                  rotate_left
                  · simp only [Act.put, List.setIfInBounds_toArray, List.set_cons_zero, List.set_cons_succ, i64_w, i32_w]; rfl
                  refine idone_ (by kernel_rfl) ?_
                  go_wp2_with fail
                  refine bodyPost_ret (results_none rfl _ _ _) rfl ?_
                  exact ⟨⟨_, rfl⟩, .inr ⟨_, yes_pre HFT.out HRT.out HH.out ha1 HQ.out.1 HCC.out hbh hah hlt, HJ6.out⟩⟩
              | false =>
                rw [hf] at hfT
                have hfL := beq_lists hfT
                have HFT := Lib.hid hf
                refine ipure_ (i := 23) (N := (some 58)) (v := (.bool false)) (a' := ?_) #[true, true, true, true, true, true, true, true, true, true, true, true, true, true, true, true, true, true, true, true, true, true, true, true, false, false, false, false, false, false, false, false, false, false, false, false, false, false] rfl rfl (by kernel_rfl) (fun _ _ _ h => h) ⟨Or.inl ⟨by rfl, ?_⟩, fun _ => rfl⟩ ?_ ?_
                · intro w'; go_simp; first | done | with_reducible rfl
                rotate_left
                · simp only [Act.put, List.setIfInBounds_toArray, List.set_cons_zero, List.set_cons_succ, i64_w, i32_w]; rfl
                refine ipure_ (i := 24) (N := (some 59)) (v := ?_) (a' := ?_) #[true, true, true, true, true, true, true, true, true, true, true, true, true, true, true, true, true, true, true, true, true, true, true, true, true, false, false, false, false, false, false, false, false, false, false, false, false, false] rfl rfl (by kernel_rfl) (fun _ _ _ h => h) ⟨Or.inl ⟨by rfl, ?_⟩, fun _ => rfl⟩ ?_ ?_
                rotate_left
                · intro w'; go_simp; first | done | with_reducible rfl
                rotate_left
                · simp only [Act.put, List.setIfInBounds_toArray, List.set_cons_zero, List.set_cons_succ, i64_w, i32_w]; rfl
                refine ipure_ (i := 25) (N := (some 60)) (v := undef) (a' := ?_) #[true, true, true, true, true, true, true, true, true, true, true, true, true, true, true, true, true, true, true, true, true, true, true, true, true, true, false, false, false, false, false, false, false, false, false, false, false, false] rfl rfl (by kernel_rfl) (fun _ _ _ h => h) ⟨Or.inr ⟨by rfl, rfl⟩, fun _ => rfl⟩ ?_ ?_
                rotate_left
                · simp only [Act.put, List.setIfInBounds_toArray, List.set_cons_zero, List.set_cons_succ, i64_w, i32_w]; rfl
                refine ipure_ (i := 26) (N := (some 61)) (v := undef) (a' := ?_) #[true, true, true, true, true, true, true, true, true, true, true, true, true, true, true, true, true, true, true, true, true, true, true, true, true, true, true, false, false, false, false, false, false, false, false, false, false, false] rfl rfl (by kernel_rfl) (fun _ _ _ h => h) ⟨Or.inr ⟨by rfl, rfl⟩, fun _ => rfl⟩ ?_ ?_
                rotate_left
                · simp only [Act.put, List.setIfInBounds_toArray, List.set_cons_zero, List.set_cons_succ, i64_w, i32_w]; rfl
                refine ipure_ (i := 27) (N := (some 62)) (v := undef) (a' := ?_) #[true, true, true, true, true, true, true, true, true, true, true, true, true, true, true, true, true, true, true, true, true, true, true, true, true, true, true, true, false, false, false, false, false, false, false, false, false, false] rfl rfl (by kernel_rfl) (fun _ _ _ h => h) ⟨Or.inr ⟨by rfl, rfl⟩, fun _ => rfl⟩ ?_ ?_
                rotate_left
                · simp only [Act.put, List.setIfInBounds_toArray, List.set_cons_zero, List.set_cons_succ, i64_w, i32_w]; rfl
                refine ipure_ (i := 28) (N := (some 63)) (v := undef) (a' := ?_) #[true, true, true, true, true, true, true, true, true, true, true, true, true, true, true, true, true, true, true, true, true, true, true, true, true, true, true, true, true, false, false, false, false, false, false, false, false, false] rfl rfl (by kernel_rfl) (fun _ _ _ h => h) ⟨Or.inr ⟨by rfl, rfl⟩, fun _ => rfl⟩ ?_ ?_
                rotate_left
                · simp only [Act.put, List.setIfInBounds_toArray, List.set_cons_zero, List.set_cons_succ, i64_w, i32_w]; rfl
                refine ipure_ (i := 29) (N := (some 64)) (v := undef) (a' := ?_) #[true, true, true, true, true, true, true, true, true, true, true, true, true, true, true, true, true, true, true, true, true, true, true, true, true, true, true, true, true, true, false, false, false, false, false, false, false, false] rfl rfl (by kernel_rfl) (fun _ _ _ h => h) ⟨Or.inr ⟨by rfl, rfl⟩, fun _ => rfl⟩ ?_ ?_
                rotate_left
                · simp only [Act.put, List.setIfInBounds_toArray, List.set_cons_zero, List.set_cons_succ, i64_w, i32_w]; rfl
                refine ipure_ (i := 30) (N := (some 65)) (v := undef) (a' := ?_) #[true, true, true, true, true, true, true, true, true, true, true, true, true, true, true, true, true, true, true, true, true, true, true, true, true, true, true, true, true, true, true, false, false, false, false, false, false, false] rfl rfl (by kernel_rfl) (fun _ _ _ h => h) ⟨Or.inr ⟨by rfl, rfl⟩, fun _ => rfl⟩ ?_ ?_
                rotate_left
                · simp only [Act.put, List.setIfInBounds_toArray, List.set_cons_zero, List.set_cons_succ, i64_w, i32_w]; rfl
                refine ipure_ (i := 31) (N := (some 66)) (v := undef) (a' := ?_) #[true, true, true, true, true, true, true, true, true, true, true, true, true, true, true, true, true, true, true, true, true, true, true, true, true, true, true, true, true, true, true, true, false, false, false, false, false, false] rfl rfl (by kernel_rfl) (fun _ _ _ h => h) ⟨Or.inr ⟨by rfl, rfl⟩, fun _ => rfl⟩ ?_ ?_
                rotate_left
                · simp only [Act.put, List.setIfInBounds_toArray, List.set_cons_zero, List.set_cons_succ, i64_w, i32_w]; rfl
                refine ipure_ (i := 32) (N := (some 67)) (v := undef) (a' := ?_) #[true, true, true, true, true, true, true, true, true, true, true, true, true, true, true, true, true, true, true, true, true, true, true, true, true, true, true, true, true, true, true, true, true, false, false, false, false, false] rfl rfl (by kernel_rfl) (fun _ _ _ h => h) ⟨Or.inr ⟨by rfl, rfl⟩, fun _ => rfl⟩ ?_ ?_
                rotate_left
                · simp only [Act.put, List.setIfInBounds_toArray, List.set_cons_zero, List.set_cons_succ, i64_w, i32_w]; rfl
                refine ipure_ (i := 33) (N := (some 68)) (v := undef) (a' := ?_) #[true, true, true, true, true, true, true, true, true, true, true, true, true, true, true, true, true, true, true, true, true, true, true, true, true, true, true, true, true, true, true, true, true, true, false, false, false, false] rfl rfl (by kernel_rfl) (fun _ _ _ h => h) ⟨Or.inr ⟨by rfl, rfl⟩, fun _ => rfl⟩ ?_ ?_
                rotate_left
                · simp only [Act.put, List.setIfInBounds_toArray, List.set_cons_zero, List.set_cons_succ, i64_w, i32_w]; rfl
                refine ipure_ (i := 34) (N := (some 69)) (v := undef) (a' := ?_) #[true, true, true, true, true, true, true, true, true, true, true, true, true, true, true, true, true, true, true, true, true, true, true, true, true, true, true, true, true, true, true, true, true, true, true, false, false, false] rfl rfl (by kernel_rfl) (fun _ _ _ h => h) ⟨Or.inr ⟨by rfl, rfl⟩, fun _ => rfl⟩ ?_ ?_
                rotate_left
                · simp only [Act.put, List.setIfInBounds_toArray, List.set_cons_zero, List.set_cons_succ, i64_w, i32_w]; rfl
                refine ipure_ (i := 35) (N := (some 70)) (v := undef) (a' := ?_) #[true, true, true, true, true, true, true, true, true, true, true, true, true, true, true, true, true, true, true, true, true, true, true, true, true, true, true, true, true, true, true, true, true, true, true, true, false, false] rfl rfl (by kernel_rfl) (fun _ _ _ h => h) ⟨Or.inr ⟨by rfl, rfl⟩, fun _ => rfl⟩ ?_ ?_
                rotate_left
                · simp only [Act.put, List.setIfInBounds_toArray, List.set_cons_zero, List.set_cons_succ, i64_w, i32_w]; rfl
                refine ipure_ (i := 36) (N := (some 71)) (v := undef) (a' := ?_) #[true, true, true, true, true, true, true, true, true, true, true, true, true, true, true, true, true, true, true, true, true, true, true, true, true, true, true, true, true, true, true, true, true, true, true, true, true, false] rfl rfl (by kernel_rfl) (fun _ _ _ h => h) ⟨Or.inr ⟨by rfl, rfl⟩, fun _ => rfl⟩ ?_ ?_
                rotate_left
                · simp only [Act.put, List.setIfInBounds_toArray, List.set_cons_zero, List.set_cons_succ, i64_w, i32_w]; rfl
                refine ipure_ (i := 37) (N := (some 72)) (v := ?_) (a' := ?_) #[true, true, true, true, true, true, true, true, true, true, true, true, true, true, true, true, true, true, true, true, true, true, true, true, true, true, true, true, true, true, true, true, true, true, true, true, true, true] rfl rfl (by kernel_rfl) (fun _ _ _ h => h) ⟨Or.inl ⟨by rfl, ?_⟩, fun _ => rfl⟩ ?_ ?_
                rotate_left
                · intro w'; go_simp; first | done | with_reducible rfl
                rotate_left
                · simp only [Act.put, List.setIfInBounds_toArray, List.set_cons_zero, List.set_cons_succ, i64_w, i32_w]; rfl
                refine idone_ (by kernel_rfl) ?_
                go_wp2_with fail
                rw [hwb]
                refine ⟨⟨b + 1, by omega, by have := HQ.out; have := HCC.out; omega, rfl, HI5, HC5, ?_, HZ5⟩, by simp [intOf]; have := HQ.out; have := HCC.out; omega⟩
                rw [← no_step HFT.out HRT.out HH.out HQ.out.1]
                exact HJ5
            · skip
              go_wp2_with fail
              refine ⟨⟨a + 1, Nat.le_add_left _ _, .inl hah, by go_num, HI2, HC2, ?_, HSZ⟩, by simp [intOf]; omega⟩
              rw [← row_step HH.out ha1 HQ.out.1 HQ.out.2 HCC.out hbh hah]
              exact HJ2
        · go_wp2_with fail
          refine ⟨⟨k + 1, by omega, HI2, HC2, ?_, HSZ⟩, ?_⟩
          · rw [fK, HH.out, show h - 1 = a - 1 by omega]
            exact HJ2
          · show (match _ with | some (Obj.stringIter _ p) => s.size - p | _ => 0) < (match _ with | some (Obj.stringIter _ p) => s.size - p | _ => 0)
            rw [HI2.out, HI0.out]
            show s.size - (k + 1) < s.size - k
            omega
    · obtain rfl : k = s.size := by omega
      have hnx := fun ty => run_next_over (P := Tryd.prog) HI.out hlt ty
      go_wp2
      go_end0
      exact ⟨⟨_, rfl⟩, .inl ⟨_, rfl, HJ0.out⟩⟩
end Go.Proofs.YtpfenoioeajkmaaDoor.X
end

section
set_option linter.unusedVariables false
set_option linter.unusedSimpArgs false
namespace Go.Proofs.YtpfenoioeajkmaaDoor.X
open Go.RowKit Go.Proofs.YtpfenoioeajkmaaDoorW.PrintWords Go.Proofs.YtpfenoioeajkmaaDoorW.PrintLast Go.Proofs.YtpfenoioeajkmaaDoorW.PrintMore Go.Proofs.YtpfenoioeajkmaaDoor.L
theorem calls_marks {P : Program} {f : FuncId} {fn : Func} {c : Code} {args : Array Value} {w : World} {R : Ending → World → Prop} (n : Nat) (hf : P.funcs[f]? = some fn) (hb : fn.body = some c)
    (h : c.wp P (bodyPostM Fence.wide n P fn R) { tmps := args ++ Array.replicate (fn.ntmps - args.size) undef, defers := [] } w) : Calls P f args w R :=
  (callsIn_wide (n := n)).1 (callsIn_of_wp_marks hf hb trivial ((wpIn_wide (n := n)).2 h))
attribute [local go_sem] Oper.semAt_some
theorem cell_new_l (W : World) (v : Value) (t : TypeId) : (W.alloc (.cells #[v] t)).cell? ⟨W.heap.size, 0, none⟩ = some v ∧ (W.alloc (.cells #[v] t)).frozen? ⟨W.heap.size, 0, none⟩ = false := ⟨by simp, by simp⟩
theorem cell_alloc_l {W : World} {a : Addr} {v : Value} (o : Obj) (h : W.cell? a = some v) : (W.alloc o).cell? a = some v := cell_kept h (World.grownBy_alloc W o none) (fun r e => by cases e)
theorem kpF_t {Bn : Nat} {s : ByteArray} {A B C : World} (h : KpF Bn s A B) (k : KpF Bn s B C) : KpF Bn s A C := ⟨fun q => k.1 (h.1 q), h.2.trans k.2⟩
theorem kpF_b {Bn : Nat} {s : ByteArray} {w : World} (W : World) (l : Nat) (o o' : Obj) (hl : w.heap.size ≤ l) (h : W.heap[l]? = some o) (hc : o.isCells = false) (hw : o.isWalk = false) : KpF Bn s W (W.putObj l o') :=
  ⟨fun q => cell_kept q (Go.grownBy_putObj' W l o') (fun r e => by cases e; exact ⟨_, h, hc⟩), walksK_b (w := w) W l o o' hl h hc hw⟩
theorem facs_stops (n Bn : Nat) (s : ByteArray) (hw : isW s = true) (w : World) (hc : w.cell? ⟨Bn, 0, none⟩ = some (.string s)) :
    SeqStopsK Fence.wide n Tryd.prog 77 #[.pointer (some ⟨Bn, 0, none⟩)] (fun x => #[encF x]) (KpF Bn s) (fun xs => xs = facs s) (fun pre => pre <+: facs s) (facs s).length w :=
  fun l J Jx W hW hJ hJx hY h0 => callsIn_wide.2 (factors1_in n l Bn s hw J Jx W hJ hY ((hW.cell (p := ⟨Bn, 0, none⟩) (World.block_lt_of_cell? _ _ hc)).trans hc) h0)
set_option maxHeartbeats 2000000 in
set_option maxRecDepth 100000 in
theorem factors_calls (s : ByteArray) (w : World) : Calls Tryd.prog 58 #[.string s] w fun e w' => e = .returned (.func (.func 77) #[] #[.pointer (some ⟨w.heap.size, 0, none⟩)]) ∧ w' = w.alloc (.cells #[.string s] 9) := by
  go_enter Tryd.func58, Tryd.ntmps58
  go_wp2
  go_ret
  exact ⟨rfl, rfl⟩
theorem Is_any {s : ByteArray} (hs : s.size ≤ 1000) (w : World) : Calls Tryd.prog 49 #[.string s] w fun e w' => e = .returned (.bool (isO s)) ∧ Below w.heap.size w w' := moulds_Is.calls s _ w (Is_f hs)
end Go.Proofs.YtpfenoioeajkmaaDoor.X
end

section
set_option linter.unusedVariables false
set_option linter.unusedSimpArgs false
namespace Go.Proofs.YtpfenoioeajkmaaDoor.X
open Go.RowKit Go.Proofs.YtpfenoioeajkmaaDoorW.PrintWords Go.Proofs.YtpfenoioeajkmaaDoorW.PrintLast Go.Proofs.YtpfenoioeajkmaaDoorW.PrintMore Go.Proofs.YtpfenoioeajkmaaDoor.L
attribute [local go_sem] Oper.semAt_some
theorem blk_at {W : World} {b : Nat} {cs : Array Value} {t : TypeId} (h : W.heap[b]? = some (.cells cs t)) (i : Nat) {v : Value} (hv : cs[i]? = some v) : W.cell? ⟨b, i, none⟩ = some v := by
  simp [World.cell?, h, hv]
theorem blk_free {W : World} {b : Nat} {cs : Array Value} {t : TypeId} (h : W.heap[b]? = some (.cells cs t)) (i : Nat) (hi : i < cs.size) : W.frozen? ⟨b, i, none⟩ = false := by
  simp [World.frozen?, h]
theorem own_blk {β : Type} {B b : Nat} {o : Obj} (hb : b < B) : OwnFrom B (fun (_ : β) W => W.heap[b]? = some o) :=
  fun s A C row hs hg hr => (hg.block b (Array.getElem?_eq_some_iff.1 hs).1 (fun e => by have := (hr b e.symm).1; omega)).trans hs
theorem setCell_blk {W : World} {b : Nat} {cs : Array Value} {t : TypeId} (h : W.heap[b]? = some (.cells cs t)) (i : Nat) (v : Value) : (W.setCell ⟨b, i, none⟩ v).heap[b]? = some (.cells (cs.setIfInBounds i v) t) := by
  obtain ⟨hlt, hk⟩ := Array.getElem?_eq_some_iff.1 h
  show (W.heap.modify b _)[b]? = _
  rw [Array.getElem?_eq_getElem (by rw [Array.size_modify]; exact hlt), Array.getElem_modify_self, hk]
  rfl
def zero4 : Obj := .cells #[.int .i64 0, .int .i64 0, .int .i64 0, .int .i64 0] 34
def four (x : Fct) : Obj := .cells #[.int .i64 x.1, .int .i64 x.2.1, .int .i64 x.2.2.1, .int .i64 x.2.2.2] 34
theorem five_set {W : World} {b : Nat} {k a c d e : Int} (h : W.heap[b]? = some zero4) (h' : W.heap[b + 1]? = some (.cells #[.int .i64 0] 22)) :
    (((((W.setCell ⟨b, 0, none⟩ (.int .i64 k)).setCell ⟨b, 1, none⟩ (.int .i64 a)).setCell ⟨b, 2, none⟩ (.int .i64 c)).setCell ⟨b, 3, none⟩ (.int .i64 d)).setCell ⟨b + 1, 0, none⟩ (.int .i64 e)).heap[b]? = some (.cells #[.int .i64 k, .int .i64 a, .int .i64 c, .int .i64 d] 34) ∧
    (((((W.setCell ⟨b, 0, none⟩ (.int .i64 k)).setCell ⟨b, 1, none⟩ (.int .i64 a)).setCell ⟨b, 2, none⟩ (.int .i64 c)).setCell ⟨b, 3, none⟩ (.int .i64 d)).setCell ⟨b + 1, 0, none⟩ (.int .i64 e)).heap[b + 1]? = some (.cells #[.int .i64 e] 22) := by
  constructor
  · rw [Below.heap_setCell _ _ _ _ (by simp)]
    exact setCell_blk (setCell_blk (setCell_blk (setCell_blk h 0 _) 1 _) 2 _) 3 _
  · refine setCell_blk (cs := #[.int .i64 0]) ?_ 0 _
    rw [Below.heap_setCell _ _ _ _ (by simp), Below.heap_setCell _ _ _ _ (by simp), Below.heap_setCell _ _ _ _ (by simp), Below.heap_setCell _ _ _ _ (by simp)]
    exact h'
theorem five_below {W w : World} {B b : Nat} {k a c d e : Value} (h : Below B w W) (hB : B ≤ b) :
    Below B w (((((W.setCell ⟨b, 0, none⟩ k).setCell ⟨b, 1, none⟩ a).setCell ⟨b, 2, none⟩ c).setCell ⟨b, 3, none⟩ d).setCell ⟨b + 1, 0, none⟩ e) :=
  ((((h.setCell (p := ⟨b, 0, none⟩) hB _).setCell (p := ⟨b, 1, none⟩) hB _).setCell (p := ⟨b, 2, none⟩) hB _).setCell (p := ⟨b, 3, none⟩) hB _).setCell (p := ⟨b + 1, 0, none⟩) (Nat.le_succ_of_le hB) _
theorem five_keeps (W : World) (b : Nat) (k a c d e : Value) : KeepsOthers W (((((W.setCell ⟨b, 0, none⟩ k).setCell ⟨b, 1, none⟩ a).setCell ⟨b, 2, none⟩ c).setCell ⟨b, 3, none⟩ d).setCell ⟨b + 1, 0, none⟩ e) :=
  ((((KeepsOthers.setCell _ _ _).trans (KeepsOthers.setCell _ _ _)).trans (KeepsOthers.setCell _ _ _)).trans (KeepsOthers.setCell _ _ _)).trans (KeepsOthers.setCell _ _ _)
set_option maxHeartbeats 4000000 in
set_option maxRecDepth 100000 in
theorem Factor_yes (s : ByteArray) (h : isO s = true) (w : World) :
    Calls Tryd.prog 32 #[.string s] w fun e w' => e = .returned (.tuple #[encF ((facs s).headD (0, 0, 0, 0)), .int .i64 (if facs s = [] then 4 else 0)]) ∧ Below w.heap.size w w' := by
  have hw := isO_W h
  have hs24 := isW_le hw
  have HO := Lib.hid (fun w => Is_any (s := s) (by omega) w)
  have HH := Lib.hid h
  have HWD := Lib.hid hw
  clear h hw
  generalize hE : (if facs s = [] then (4 : Int) else 0) = E
  have HE := Lib.hid hE
  clear hE
  refine calls_marks 3 Tryd.func32 rfl ?_
  simp only [Tryd.ntmps32, List.size_toArray, List.length_cons, List.length_nil, Nat.reduceAdd, Nat.reduceSub, Array.replicate_succ, Array.replicate_zero, List.push_toArray, List.append_toArray, List.nil_append, List.cons_append]
  go_wp2_with fail
  refine (HO.out _).mono ?_
  rintro e w1 ⟨rfl, hb1⟩
  rw [HH.out]
  have HB := Lib.hid hb1
  clear hb1
  go_wp2_with fail
  refine (factors_calls s _).mono ?_
  rintro e w2 ⟨rfl, rfl⟩
  go_wp2_with fail
  have hk1 : w1.heap[w.heap.size]? = some zero4 := by
    have := HB.out.block w.heap.size (by simp; omega)
    rw [this]
    exact (Below.heap_alloc _ _ _ (by simp)).trans (World.alloc_heap_new w _)
  have hk2 : w1.heap[w.heap.size + 1]? = some (.cells #[.int .i64 0] 22) := by
    have := HB.out.block (w.heap.size + 1) (by simp)
    rw [this]
    have := World.alloc_heap_new (w.alloc zero4) (.cells #[.int .i64 0] 22)
    rwa [World.size_alloc] at this
  have hB1 : Below w.heap.size w w1 := (((Below.refl _ w).alloc (Nat.le_refl _) _).alloc (by simp) _).trans (HB.out.mono (by simp; omega))
  have hsz1 : w.heap.size + 2 ≤ w1.heap.size := by
    have := HB.out.size
    simpa using this
  clear HB
  have c1 := cell_new_l w1 (.string s) 9
  have hk3 := (Below.heap_alloc w1 (.cells #[.string s] 9) _ (by omega)).trans hk1
  have hk4 := (Below.heap_alloc w1 (.cells #[.string s] 9) _ (by omega)).trans hk2
  have hB3 := hB1.alloc (by omega) (.cells #[.string s] 9)
  have hsz3 : w1.heap.size < (w1.alloc (.cells #[.string s] 9)).heap.size := by simp
  generalize (w1.alloc (.cells #[.string s] 9)) = w3 at c1 hk3 hk4 hB3 hsz3 ⊢
  clear hk1 hk2 hB1
  refine (wpIn_wide (n := 3)).1 ?_
  refine wpIn_rangeFunc_ownH rfl (by omega) (gf := 77) (lb := #[.pointer (some ⟨w1.heap.size, 0, none⟩)]) rfl trivial (enters_of Tryd.func77 (by kernel_rfl) rfl)
    (facs_stops 2 w1.heap.size s HWD.out w3 c1.1) kpF_t kpF_b (Below.refl _ _) (fun _ => rfl)
    (fun pre W => pre = [] ∧ (W.heap[w.heap.size]? = some zero4 ∧ W.heap[w.heap.size + 1]? = some (.cells #[.int .i64 0] 22)) ∧ Below w.heap.size w W)
    (fun c pre W => c = .ret ∧ ∃ x, pre = [x] ∧ (W.heap[w.heap.size]? = some (four x) ∧ W.heap[w.heap.size + 1]? = some (.cells #[.int .i64 0] 22)) ∧ Below w.heap.size w W)
    (fun pre A C row hs hg hr => ⟨hs.1, ⟨own_blk (β := Unit) (by omega) () A C row hs.2.1.1 hg hr, own_blk (β := Unit) (by omega) () A C row hs.2.1.2 hg hr⟩, ownFrom_below (β := Unit) (Nat.le_refl _) (by omega) () A C row hs.2.2 hg hr⟩)
    (fun c pre A C row hs hg hr => ⟨hs.1, by
      obtain ⟨x, h1, h2, h3⟩ := hs.2
      exact ⟨x, h1, ⟨own_blk (β := Unit) (by omega) () A C row h2.1 hg hr, own_blk (β := Unit) (by omega) () A C row h2.2 hg hr⟩, ownFrom_below (β := Unit) (Nat.le_refl _) (by omega) () A C row h3 hg hr⟩⟩)
    ⟨rfl, ⟨hk3, hk4⟩, hB3⟩
    (fun x a' W => ∃ G, W.cell? ⟨G, 0, none⟩ = some (.int .i64 x.1) ∧ W.cell? ⟨G, 1, none⟩ = some (.int .i64 x.2.1) ∧ W.cell? ⟨G, 2, none⟩ = some (.int .i64 x.2.2.1) ∧ W.cell? ⟨G, 3, none⟩ = some (.int .i64 x.2.2.2) ∧
      a' = { tmps := #[Value.string s, undef, Value.pointer (some { block := w.heap.size, off := 0 }), Value.pointer (some { block := w.heap.size + 1, off := 0 }), Value.pointer (some { block := G, off := 0 }), Value.string s, Value.bool true, Value.bool false, undef, Value.string s, Value.func (Fn.func 77) #[] #[Value.pointer (some { block := w1.heap.size, off := 0 })], encF x, undef, undef], defers := [] })
    (fun x a' _ A C row hs hg hr => by
      obtain ⟨G, h1, h2, h3, h4, h5⟩ := hs
      exact ⟨G, cell_kept h1 hg (fun r e => (hr r e).2), cell_kept h2 hg (fun r e => (hr r e).2), cell_kept h3 hg (fun r e => (hr r e).2), cell_kept h4 hg (fun r e => (hr r e).2), h5⟩)
    ?assign ?body ?done ?stop
  case assign =>
    rintro l pre ⟨k, a, b, c⟩ W K ⟨rfl, ⟨g1, g2⟩, hB⟩ hK
    unfold encF at hK ⊢
    gi_wp2
    exact hK _ _ ((KeepsOthers.alloc _ _).from _) ⟨fun q => cell_alloc_l _ q, (KeepsOthers.alloc _ _).walks⟩ ⟨trivial, ⟨(Below.heap_alloc W _ _ (Array.getElem?_eq_some_iff.1 g1).1).trans g1, (Below.heap_alloc W _ _ (Array.getElem?_eq_some_iff.1 g2).1).trans g2⟩, hB.alloc hB.size _⟩
      ⟨W.heap.size, by simp, by simp, by simp, by simp, rfl⟩
  case body =>
    rintro l pre ⟨k, a, b, c⟩ a' W hl hr ⟨rfl, ⟨g1, g2⟩, hB⟩ ⟨G, d0, d1, d2, d3, rfl⟩ hlen
    have e0 := blk_at g1 0 rfl
    have e1 := blk_at g1 1 rfl
    have e2 := blk_at g1 2 rfl
    have e3 := blk_at g1 3 rfl
    have e4 := blk_at g2 0 rfl
    have f0 := blk_free g1 0 (by decide)
    have f1 := blk_free g1 1 (by decide)
    have f2 := blk_free g1 2 (by decide)
    have f3 := blk_free g1 3 (by decide)
    have f4 := blk_free g2 0 (by decide)
    gi_wp2
    exact ⟨(five_keeps _ _ _ _ _ _ _).from _, rfl, k, a, b, c, rfl, five_set g1 g2, five_below hB (Nat.le_refl _)⟩
  case done =>
    rintro D ys W hD hys ⟨rfl, ⟨g1, g2⟩, hB⟩ hK
    have HYS := Lib.hid hys
    clear hys
    have e0 := blk_at g1 0 rfl
    have e1 := blk_at g1 1 rfl
    have e2 := blk_at g1 2 rfl
    have e3 := blk_at g1 3 rfl
    have e4 := blk_at g2 0 rfl
    have f0 := blk_free g1 0 (by decide)
    have f1 := blk_free g1 1 (by decide)
    have f2 := blk_free g1 2 (by decide)
    have f3 := blk_free g1 3 (by decide)
    have f4 := blk_free g2 0 (by decide)
    go_wp2
    obtain ⟨n1, n2⟩ := five_set (k := 0) (a := 0) (c := 0) (d := 0) (e := 4) g1 g2
    have hB5 := five_below (k := .int .i64 0) (a := .int .i64 0) (c := .int .i64 0) (d := .int .i64 0) (e := .int .i64 4) hB (Nat.le_refl w.heap.size)
    have hK5 := (five_keeps W w.heap.size (.int .i64 0) (.int .i64 0) (.int .i64 0) (.int .i64 0) (.int .i64 4)).same D _ hK rfl
    generalize (((((W.setCell ⟨w.heap.size, 0, none⟩ (.int .i64 0)).setCell ⟨w.heap.size, 1, none⟩ (.int .i64 0)).setCell ⟨w.heap.size, 2, none⟩ (.int .i64 0)).setCell ⟨w.heap.size, 3, none⟩ (.int .i64 0)).setCell ⟨w.heap.size + 1, 0, none⟩ (.int .i64 4)) = W5 at n1 n2 hB5 hK5 ⊢
    refine ⟨by simp, .inl ⟨_, _, rfl, run_takeDeferred hK5, ?_⟩⟩
    have hgp := Go.grownBy_putObj' W5 D (.deferred none)
    have hrp : ∀ r, some D = some r → ∃ o : Obj, W5.heap[r]? = some o ∧ o.isCells = false := fun r e => by cases e; exact ⟨_, hK5, rfl⟩
    have k0 := cell_kept (blk_at n1 0 rfl) hgp hrp
    have k1 := cell_kept (blk_at n1 1 rfl) hgp hrp
    have k2 := cell_kept (blk_at n1 2 rfl) hgp hrp
    have k3 := cell_kept (blk_at n1 3 rfl) hgp hrp
    have k4 := cell_kept (blk_at n2 0 rfl) hgp hrp
    refine ⟨_, ?_, ⟨rfl, hB5.trans (belowK_b (w := w3) (by omega) W5 D _ _ hD hK5 rfl rfl)⟩⟩
    rw [← HE.out, ← HYS.out, List.headD_nil, if_pos rfl]
    simp [results, Tryd.f32, go_sem, k0, k1, k2, k3, k4, encF]
  case stop =>
    rintro D c pre W hD hpre ⟨rfl, x, rfl, ⟨g1, g2⟩, hB⟩ hK
    refine (wpIn_wide (n := 3)).2 ?_
    go_wp2
    refine ⟨by simp, .inl ⟨_, _, rfl, run_takeDeferred hK, ?_⟩⟩
    have hgp := Go.grownBy_putObj' W D (.deferred none)
    have hrp : ∀ r, some D = some r → ∃ o : Obj, W.heap[r]? = some o ∧ o.isCells = false := fun r e => by cases e; exact ⟨_, hK, rfl⟩
    have k0 := cell_kept (blk_at g1 0 rfl) hgp hrp
    have k1 := cell_kept (blk_at g1 1 rfl) hgp hrp
    have k2 := cell_kept (blk_at g1 2 rfl) hgp hrp
    have k3 := cell_kept (blk_at g1 3 rfl) hgp hrp
    have k4 := cell_kept (blk_at g2 0 rfl) hgp hrp
    obtain ⟨rest, hrest⟩ : ∃ rest, facs s = x :: rest := by
      obtain ⟨z, hz⟩ := hpre
      exact ⟨z, by rw [← hz]; rfl⟩
    refine ⟨_, ?_, ⟨rfl, hB.trans (belowK_b (w := w3) (by omega) W D _ _ hD hK rfl rfl)⟩⟩
    rw [← HE.out, hrest, List.headD_cons, if_neg (by simp)]
    simp [results, Tryd.f32, go_sem, k0, k1, k2, k3, k4, encF]
set_option maxHeartbeats 4000000 in
set_option maxRecDepth 100000 in
theorem Factor_no (s : ByteArray) (hs : s.size ≤ 1000) (h : isO s = false) (w : World) :
    Calls Tryd.prog 32 #[.string s] w fun e w' => e = .returned (.tuple #[encF (0, 0, 0, 0), .int .i64 2]) ∧ Below w.heap.size w w' := by
  have HO := Lib.hid (fun w => Is_any (s := s) hs w)
  have HH := Lib.hid h
  clear h
  go_enter Tryd.func32, Tryd.ntmps32
  go_wp2_with fail
  refine (HO.out _).mono ?_
  rintro e w1 ⟨rfl, hb1⟩
  rw [HH.out]
  have HB := Lib.hid hb1
  clear hb1
  have hk1 : w1.heap[w.heap.size]? = some zero4 := by
    have := HB.out.block w.heap.size (by simp; omega)
    rw [this]
    exact (Below.heap_alloc _ _ _ (by simp)).trans (World.alloc_heap_new w _)
  have hk2 : w1.heap[w.heap.size + 1]? = some (.cells #[.int .i64 0] 22) := by
    have := HB.out.block (w.heap.size + 1) (by simp)
    rw [this]
    have := World.alloc_heap_new (w.alloc zero4) (.cells #[.int .i64 0] 22)
    rwa [World.size_alloc] at this
  have hB1 : Below w.heap.size w w1 := (((Below.refl _ w).alloc (Nat.le_refl _) _).alloc (by simp) _).trans (HB.out.mono (by simp; omega))
  clear HB
  have e0 := blk_at hk1 0 rfl
  have e1 := blk_at hk1 1 rfl
  have e2 := blk_at hk1 2 rfl
  have e3 := blk_at hk1 3 rfl
  have e4 := blk_at hk2 0 rfl
  have f0 := blk_free hk1 0 (by decide)
  have f1 := blk_free hk1 1 (by decide)
  have f2 := blk_free hk1 2 (by decide)
  have f3 := blk_free hk1 3 (by decide)
  have f4 := blk_free hk2 0 (by decide)
  go_wp2
  obtain ⟨n1, n2⟩ := five_set (k := 0) (a := 0) (c := 0) (d := 0) (e := 2) hk1 hk2
  have hB5 := five_below (k := .int .i64 0) (a := .int .i64 0) (c := .int .i64 0) (d := .int .i64 0) (e := .int .i64 2) hB1 (Nat.le_refl w.heap.size)
  generalize (((((w1.setCell ⟨w.heap.size, 0, none⟩ (.int .i64 0)).setCell ⟨w.heap.size, 1, none⟩ (.int .i64 0)).setCell ⟨w.heap.size, 2, none⟩ (.int .i64 0)).setCell ⟨w.heap.size, 3, none⟩ (.int .i64 0)).setCell ⟨w.heap.size + 1, 0, none⟩ (.int .i64 2)) = W5 at n1 n2 hB5 ⊢
  have k0 := blk_at n1 0 rfl
  have k1 := blk_at n1 1 rfl
  have k2 := blk_at n1 2 rfl
  have k3 := blk_at n1 3 rfl
  have k4 := blk_at n2 0 rfl
  refine bodyPost_ret (v := .tuple #[encF (0, 0, 0, 0), .int .i64 2]) ?_ rfl ⟨rfl, hB5⟩
  simp [results, Tryd.f32, go_sem, k0, k1, k2, k3, k4, encF]
end Go.Proofs.YtpfenoioeajkmaaDoor.X
end

section
set_option linter.unusedVariables false
set_option linter.unusedSimpArgs false
namespace Go.Proofs.YtpfenoioeajkmaaDoor.X
open Go.RowKit Go.Proofs.YtpfenoioeajkmaaDoorW.PrintWords Go.Proofs.YtpfenoioeajkmaaDoorW.PrintLast Go.Proofs.YtpfenoioeajkmaaDoorW.PrintMore Go.Proofs.YtpfenoioeajkmaaDoor.L
theorem wrap_nat {n : Nat} (h : n ≤ 100) : wrap64 (n : Int) = n := by unfold wrap64; omega
theorem not_big {n : Nat} (h : n ≤ 100) : (9223372036854775807 < n) = False := by simp; omega
theorem not_neg (n : Nat) : ((n : Int) < 0) = False := by simp
end Go.Proofs.YtpfenoioeajkmaaDoor.X
end

section
set_option linter.unusedVariables false
set_option linter.unusedSimpArgs false
namespace Go.Proofs.YtpfenoioeajkmaaDoor.X
open Go.RowKit Go.Proofs.YtpfenoioeajkmaaDoorW.PrintWords Go.Proofs.YtpfenoioeajkmaaDoorW.PrintLast Go.Proofs.YtpfenoioeajkmaaDoorW.PrintMore Go.Proofs.YtpfenoioeajkmaaDoor.L
theorem ris_calls (s : ByteArray) (hs : s.size ≤ 140737488351232) (w : World) : Calls Tryd.prog 24 #[.string s] w fun e w' => e = .returned (.bool (isO s)) ∧ Below w.heap.size w w' := ref_Is.calls s _ w (RIs_f hs)
theorem blk_name {w : World} (o : Obj) : ∃ w' B, w' = w.alloc o ∧ w.heap.size = B ∧ w'.heap[B]? = some o ∧ Below w.heap.size w w' ∧ B < w'.heap.size :=
  ⟨_, _, rfl, rfl, World.alloc_heap_new w o, below_one o, by simp⟩
theorem mem_fB {s : ByteArray} {k a : Nat} {x : Fct} : ∀ {m}, x ∈ fB s k a m → ∃ b, 1 ≤ b ∧ b ≤ m ∧ fT (rotF s k) (s.size / 2) a b = true ∧ x = (k, a, b, s.size / 2 - a - b)
  | 0, h => by cases h
  | m + 1, h => by
    rw [fB, List.mem_append] at h
    rcases h with h | h
    · obtain ⟨b, h1, h2, h3⟩ := mem_fB h
      exact ⟨b, h1, by omega, h3⟩
    · by_cases e : fT (rotF s k) (s.size / 2) a (m + 1) = true
      · rw [if_pos e, List.mem_singleton] at h
        exact ⟨m + 1, by omega, Nat.le_refl _, e, h⟩
      · rw [if_neg e] at h
        cases h
theorem mem_fA {s : ByteArray} {k : Nat} {x : Fct} : ∀ {m}, x ∈ fA s k m → ∃ a b, 1 ≤ a ∧ a ≤ m ∧ 1 ≤ b ∧ b ≤ s.size / 2 - a ∧ fT (rotF s k) (s.size / 2) a b = true ∧ x = (k, a, b, s.size / 2 - a - b)
  | 0, h => by cases h
  | m + 1, h => by
    rw [fA, List.mem_append] at h
    rcases h with h | h
    · obtain ⟨a, b, h1, h2, h3⟩ := mem_fA h
      exact ⟨a, b, h1, by omega, h3⟩
    · obtain ⟨b, h1, h2, h3⟩ := mem_fB h
      exact ⟨m + 1, b, by omega, Nat.le_refl _, h1, h2, h3⟩
theorem mem_fK {s : ByteArray} {x : Fct} : ∀ {m}, x ∈ fK s m → ∃ k a b, k < m ∧ 1 ≤ a ∧ a ≤ s.size / 2 - 1 ∧ 1 ≤ b ∧ b ≤ s.size / 2 - a ∧ fT (rotF s k) (s.size / 2) a b = true ∧ x = (k, a, b, s.size / 2 - a - b)
  | 0, h => by cases h
  | m + 1, h => by
    rw [fK, List.mem_append] at h
    rcases h with h | h
    · obtain ⟨k, a, b, h1, h2⟩ := mem_fK h
      exact ⟨k, a, b, by omega, h2⟩
    · obtain ⟨a, b, h1, h2, h3⟩ := mem_fA h
      exact ⟨m, a, b, by omega, h1, h2, h3⟩
theorem mem_facs {s : ByteArray} {x : Fct} (h : x ∈ facs s) : ∃ k a b, k < s.size ∧ 1 ≤ a ∧ a ≤ s.size / 2 - 1 ∧ 1 ≤ b ∧ b ≤ s.size / 2 - a ∧ fT (rotF s k) (s.size / 2) a b = true ∧ x = (k, a, b, s.size / 2 - a - b) := mem_fK h
theorem Factor_none {s : ByteArray} (h : isO s = true) (hf : facs s = []) (w : World) : Calls Tryd.prog 32 #[.string s] w fun e w' => e = .returned (.tuple #[encF (0, 0, 0, 0), .int .i64 4]) ∧ Below w.heap.size w w' := by
  have := Factor_yes s h w
  rw [hf] at this
  exact this
theorem Factor_some {s : ByteArray} (h : isO s = true) {x : Fct} {l : List Fct} (hf : facs s = x :: l) (w : World) : Calls Tryd.prog 32 #[.string s] w fun e w' => e = .returned (.tuple #[encF x, .int .i64 0]) ∧ Below w.heap.size w w' := by
  have := Factor_yes s h w
  rw [hf] at this
  exact this
end Go.Proofs.YtpfenoioeajkmaaDoor.X
end

section
set_option linter.unusedVariables false
set_option linter.unusedSimpArgs false
namespace Go.Proofs.YtpfenoioeajkmaaDoor.X
open Go.RowKit Go.Proofs.YtpfenoioeajkmaaDoorW.PrintWords Go.Proofs.YtpfenoioeajkmaaDoorW.PrintLast Go.Proofs.YtpfenoioeajkmaaDoorW.PrintMore Go.Proofs.YtpfenoioeajkmaaDoor.L
theorem own_growS {B : Nat} {u w w1 : World} {e sz n : Nat} {v : Value} {xs : List Value} (hb : Below B u w) (hs : w.ownsRow u.heap.size e sz v n xs) (hg : w.grownBy w1 v.ownBlock) (hB : B = u.heap.size := by rfl) : Below B u w1 := by
  subst hB
  refine hb.grown hg hb.size fun k hk => ?_
  obtain ⟨_, ⟨h, _⟩ | ⟨g, cap, cur, h, h2, _⟩⟩ := hs
  · rw [h] at hk
    simp [Value.ownBlock] at hk
  · rw [h] at hk
    simp [Value.ownBlock] at hk
    omega
end Go.Proofs.YtpfenoioeajkmaaDoor.X
end

section
set_option linter.unusedVariables false
set_option linter.unusedSimpArgs false
namespace Go.Proofs.YtpfenoioeajkmaaDoor.X
open Go.RowKit Go.Proofs.YtpfenoioeajkmaaDoorW.PrintWords Go.Proofs.YtpfenoioeajkmaaDoorW.PrintLast Go.Proofs.YtpfenoioeajkmaaDoorW.PrintMore Go.Proofs.YtpfenoioeajkmaaDoor.L
theorem four_set {W : World} {b : Nat} {t : TypeId} {x0 x1 x2 x3 y0 y1 y2 y3 : Value} (h : W.heap[b]? = some (.cells #[x0, x1, x2, x3] t)) :
    ((((W.setCell ⟨b, 0, none⟩ y0).setCell ⟨b, 1, none⟩ y1).setCell ⟨b, 2, none⟩ y2).setCell ⟨b, 3, none⟩ y3).heap[b]? = some (.cells #[y0, y1, y2, y3] t) := by
  have h1 := setCell_blk h 0 y0
  have h2 := setCell_blk h1 1 y1
  have h3 := setCell_blk h2 2 y2
  have h4 := setCell_blk h3 3 y3
  rw [h4]
  rfl
theorem four_below {W w : World} {B b : Nat} {k a c d : Value} (h : Below B w W) (hB : B ≤ b) : Below B w ((((W.setCell ⟨b, 0, none⟩ k).setCell ⟨b, 1, none⟩ a).setCell ⟨b, 2, none⟩ c).setCell ⟨b, 3, none⟩ d) :=
  (((h.setCell (p := ⟨b, 0, none⟩) hB _).setCell (p := ⟨b, 1, none⟩) hB _).setCell (p := ⟨b, 2, none⟩) hB _).setCell (p := ⟨b, 3, none⟩) hB _
end Go.Proofs.YtpfenoioeajkmaaDoor.X
end

section
set_option linter.unusedVariables false
set_option linter.unusedSimpArgs false
namespace Go.Proofs.YtpfenoioeajkmaaDoor.X
open Go.RowKit Go.Proofs.YtpfenoioeajkmaaDoorW.PrintWords Go.Proofs.YtpfenoioeajkmaaDoorW.PrintLast Go.Proofs.YtpfenoioeajkmaaDoorW.PrintMore Go.Proofs.YtpfenoioeajkmaaDoor.L
def vecV (a b c d : Int) : Value := .agg #[.int .i64 a, .int .i64 b, .int .i64 c, .int .i64 d]
set_option maxHeartbeats 4000000 in
set_option maxRecDepth 100000 in
theorem Vectors_err (s : ByteArray) (c : Int) (hc : (c != 0) = true) (hF : ∀ w, Calls Tryd.prog 32 #[.string s] w fun e w' => e = .returned (.tuple #[encF (0, 0, 0, 0), .int .i64 c]) ∧ Below w.heap.size w w') (w : World) :
    Calls Tryd.prog 35 #[.string s] w fun e w' => e = .returned (.tuple #[vecV 0 0 0 0, .int .i64 c]) ∧ Below w.heap.size w w' := by
  have HF := Lib.hid hF
  clear hF
  unfold encF at HF
  go_enter Tryd.func35, Tryd.ntmps35
  go_wp2_with fail
  refine (HF.out _).mono ?_
  rintro e w1 ⟨rfl, hb1⟩
  have g0 := World.alloc_heap_new w (.cells #[.int .i64 0, .int .i64 0, .int .i64 0, .int .i64 0] 40)
  have g1 := (hb1.block w.heap.size (by simp)).trans g0
  have H1 := Lib.hid ((below_one _).trans (hb1.mono (by simp)))
  clear hb1 g0
  have hB : w.heap.size < w1.heap.size := (Array.getElem?_eq_some_iff.1 g1).1
  have e0 := blk_at g1 0 rfl
  have e1 := blk_at g1 1 rfl
  have e2 := blk_at g1 2 rfl
  have e3 := blk_at g1 3 rfl
  have f0 := blk_free g1 0 (by decide)
  have f1 := blk_free g1 1 (by decide)
  have f2 := blk_free g1 2 (by decide)
  have f3 := blk_free g1 3 (by decide)
  go_wp2
  have n1 := four_set (y0 := .int .i64 0) (y1 := .int .i64 0) (y2 := .int .i64 0) (y3 := .int .i64 0) g1
  have n2 := four_below (k := .int .i64 0) (a := .int .i64 0) (c := .int .i64 0) (d := .int .i64 0) H1.out (Nat.le_refl w.heap.size)
  generalize ((((w1.setCell ⟨w.heap.size, 0, none⟩ (.int .i64 0)).setCell ⟨w.heap.size, 1, none⟩ (.int .i64 0)).setCell ⟨w.heap.size, 2, none⟩ (.int .i64 0)).setCell ⟨w.heap.size, 3, none⟩ (.int .i64 0)) = W5 at n1 n2 ⊢
  have n3 := (Below.heap_alloc W5 (.cells #[.int .i64 0, .int .i64 0, .int .i64 0, .int .i64 0] 34) _ (Array.getElem?_eq_some_iff.1 n1).1).trans n1
  have n4 := n2.alloc n2.size (.cells #[.int .i64 0, .int .i64 0, .int .i64 0, .int .i64 0] 34)
  generalize W5.alloc (.cells #[.int .i64 0, .int .i64 0, .int .i64 0, .int .i64 0] 34) = W6 at n3 n4 ⊢
  have k0 := blk_at n3 0 rfl
  have k1 := blk_at n3 1 rfl
  have k2 := blk_at n3 2 rfl
  have k3 := blk_at n3 3 rfl
  exact bodyPost_ret (v := .tuple #[.agg #[.int .i64 0, .int .i64 0, .int .i64 0, .int .i64 0], .int .i64 c]) (by simp [results, Tryd.f35, go_sem, k0, k1, k2, k3]) rfl ⟨rfl, n4⟩
set_option maxHeartbeats 4000000 in
set_option maxRecDepth 100000 in
theorem Vectors_some (s t : ByteArray) (k a b c : Nat) (x1 y1 x2 y2 : Int) (hs : s.size ≤ 24) (hk : k < s.size) (ht : rotF s k = t) (habc : a + b + c ≤ s.size) (hF : ∀ w, Calls Tryd.prog 32 #[.string s] w fun e w' => e = .returned (.tuple #[encF (k, a, b, c), .int .i64 0]) ∧ Below w.heap.size w w')
    (h1 : sumx (t.extract 0 (a + b)) (t.extract 0 (a + b)).size = x1) (h2 : sumy (t.extract 0 (a + b)) (t.extract 0 (a + b)).size = y1) (h3 : sumx (t.extract a (a + b + c)) (t.extract a (a + b + c)).size = x2) (h4 : sumy (t.extract a (a + b + c)) (t.extract a (a + b + c)).size = y2) (w : World) :
    Calls Tryd.prog 35 #[.string s] w fun e w' => e = .returned (.tuple #[vecV x1 y1 x2 y2, .int .i64 0]) ∧ Below w.heap.size w w' := by
  have hX : (t.extract 0 (a + b)).size ≤ 1000 := by rw [ByteArray.size_extract]; have := rot_size s (Nat.le_of_lt hk); rw [ht] at this; omega
  have hY : (t.extract a (a + b + c)).size ≤ 1000 := by rw [ByteArray.size_extract]; have := rot_size s (Nat.le_of_lt hk); rw [ht] at this; omega
  have HX := Lib.hid (fun w => walk_calls (t.extract 0 (a + b)) w hX)
  have HY := Lib.hid (fun w => walk_calls (t.extract a (a + b + c)) w hY)
  rw [h1, h2] at HX
  rw [h3, h4] at HY
  clear hX hY h1 h2 h3 h4
  have HF := Lib.hid hF
  clear hF
  unfold encF at HF
  dsimp only at HF
  go_enter Tryd.func35, Tryd.ntmps35
  go_wp2_with fail
  refine (HF.out _).mono ?_
  rintro e w1 ⟨rfl, hb1⟩
  have g0 := World.alloc_heap_new w (.cells #[.int .i64 0, .int .i64 0, .int .i64 0, .int .i64 0] 40)
  have g1 := (hb1.block w.heap.size (by simp)).trans g0
  have H1 := Lib.hid ((below_one _).trans (hb1.mono (by simp)))
  clear hb1 g0
  go_wp2_with fail
  obtain ⟨w5, B5, e5, f5, g5, b5, z5⟩ := blk_name (w := w1) (.cells #[.int .i64 k, .int .i64 a, .int .i64 b, .int .i64 c] 34)
  rw [← e5, f5]
  have h5 := (b5.block w.heap.size (Array.getElem?_eq_some_iff.1 g1).1).trans g1
  have H5 := Lib.hid (H1.out.trans (b5.mono H1.out.size))
  clear e5 f5 b5 z5 g1 H1
  have e0 := blk_at g5 0 rfl
  have e1 := blk_at g5 1 rfl
  have e2 := blk_at g5 2 rfl
  have e3 := blk_at g5 3 rfl
  have G5 := Lib.hid h5
  clear h5 g5
  have hkk : k ≤ s.size := Nat.le_of_lt hk
  have hk1 : ((s.size : Int) ≤ k) = False := by simp; exact hk
  have hk0 := not_neg k
  have hsz := not_big (n := s.size) (Nat.le_trans hs (by decide))
  have hts := rot_size s hkk
  have hE := @rotF.eq_1 s k
  rw [ht] at hts hE
  have hrt' : s.extract k s.size ++ s.extract 0 k = t := hE.symm
  have HT := Lib.hid ht
  have HTS := Lib.hid hts
  clear hE ht hts
  refine start_ (n := 10) (S := fun w' => w'.cell? ⟨B5, 0, none⟩ = some (.int .i64 k) ∧ w'.cell? ⟨B5, 1, none⟩ = some (.int .i64 a) ∧ w'.cell? ⟨B5, 2, none⟩ = some (.int .i64 b) ∧ w'.cell? ⟨B5, 3, none⟩ = some (.int .i64 c)) (ds := []) #[false, false, false, false, false, false, false, false, false, false] (by kernel_rfl) rfl rfl ⟨by simpa using e0, by simpa using e1, by simpa using e2, by simpa using e3⟩ (fun hHeld => ?_)
  refine pure_ (i := 0) (N := (some 19)) (v := ?_) (a' := ?_) #[true, false, false, false, false, false, false, false, false, false] rfl rfl (by kernel_rfl) (fun _ _ _ h => h) (Or.inl ⟨by rfl, ?_⟩) ?_ ?_
  rotate_left
  · intro w'; go_simp; first | done | with_reducible rfl
  rotate_left
  · simp only [Act.put, List.setIfInBounds_toArray, List.set_cons_zero, List.set_cons_succ, i64_w, i32_w]; rfl
  refine pure_ (i := 1) (N := (some 20)) (v := ?_) (a' := ?_) #[true, true, false, false, false, false, false, false, false, false] rfl rfl (by kernel_rfl) (fun _ _ _ h => h) (Or.inl ⟨by rfl, ?_⟩) ?_ ?_
  rotate_left
  · intro w'; go_simp; first | done | with_reducible rfl
  rotate_left
  · simp only [Act.put, List.setIfInBounds_toArray, List.set_cons_zero, List.set_cons_succ, i64_w, i32_w]; rfl
  refine take_ (i := 2) (N := (some 21)) (v := ?_) (a' := ?_) #[true, true, true, false, false, false, false, false, false, false] rfl rfl (by kernel_rfl) (fun _ _ _ h => h) (Or.inl ⟨by rfl, ?_⟩) hHeld ?_ ?_
  rotate_left
  · rintro w' ⟨s0, s1, s2, s3⟩; go_simp; first | done | with_reducible rfl
  rotate_left
  · simp only [Act.put, List.setIfInBounds_toArray, List.set_cons_zero, List.set_cons_succ, i64_w, i32_w]; rfl
  refine pure_ (i := 3) (N := (some 22)) (v := ?_) (a' := ?_) #[true, true, true, true, false, false, false, false, false, false] rfl rfl (by kernel_rfl) (fun _ _ _ h => h) (Or.inl ⟨by rfl, ?_⟩) ?_ ?_
  rotate_left
  · intro w'; go_simp; first | done | with_reducible rfl
  rotate_left
  · simp only [Act.put, List.setIfInBounds_toArray, List.set_cons_zero, List.set_cons_succ, i64_w, i32_w]; rfl
  refine pure_ (i := 4) (N := (some 23)) (v := ?_) (a' := ?_) #[true, true, true, true, true, false, false, false, false, false] rfl rfl (by kernel_rfl) (fun _ _ _ h => h) (Or.inl ⟨by rfl, ?_⟩) ?_ ?_
  rotate_left
  · intro w'; go_simp; first | done | with_reducible rfl
  rotate_left
  · simp only [Act.put, List.setIfInBounds_toArray, List.set_cons_zero, List.set_cons_succ, i64_w, i32_w]; rfl
  refine pure_ (i := 5) (N := (some 24)) (v := ?_) (a' := ?_) #[true, true, true, true, true, true, false, false, false, false] rfl rfl (by kernel_rfl) (fun _ _ _ h => h) (Or.inl ⟨by rfl, ?_⟩) ?_ ?_
  rotate_left
  · intro w'; go_simp; first | done | with_reducible rfl
  rotate_left
  · simp only [Act.put, List.setIfInBounds_toArray, List.set_cons_zero, List.set_cons_succ, i64_w, i32_w]; rfl
  refine take_ (i := 6) (N := (some 25)) (v := ?_) (a' := ?_) #[true, true, true, true, true, true, true, false, false, false] rfl rfl (by kernel_rfl) (fun _ _ _ h => h) (Or.inl ⟨by rfl, ?_⟩) hHeld ?_ ?_
  rotate_left
  · rintro w' ⟨s0, s1, s2, s3⟩; go_simp; first | done | with_reducible rfl
  rotate_left
  · simp only [Act.put, List.setIfInBounds_toArray, List.set_cons_zero, List.set_cons_succ, i64_w, i32_w]; rfl
  refine pure_ (i := 7) (N := (some 26)) (v := ?_) (a' := ?_) #[true, true, true, true, true, true, true, true, false, false] rfl rfl (by kernel_rfl) (fun _ _ _ h => h) (Or.inl ⟨by rfl, ?_⟩) ?_ ?_
  rotate_left
  · intro w'; go_simp; first | done | with_reducible rfl
  rotate_left
  · simp only [Act.put, List.setIfInBounds_toArray, List.set_cons_zero, List.set_cons_succ, i64_w, i32_w]; rfl
  refine pure_ (i := 8) (N := (some 27)) (v := ?_) (a' := ?_) #[true, true, true, true, true, true, true, true, true, false] rfl rfl (by kernel_rfl) (fun _ _ _ h => h) (Or.inl ⟨by rfl, ?_⟩) ?_ ?_
  rotate_left
  · intro w'; go_simp; first | done | with_reducible rfl
  rotate_left
  · simp only [Act.put, List.setIfInBounds_toArray, List.set_cons_zero, List.set_cons_succ, i64_w, i32_w]; rfl
  refine pure_ (i := 9) (N := (some 6)) (v := ?_) (a' := ?_) #[true, true, true, true, true, true, true, true, true, true] rfl rfl (by kernel_rfl) (fun _ _ _ h => h) (Or.inl ⟨by rfl, ?_⟩) ?_ ?_
  rotate_left
  · intro w'; go_simp; first | done | with_reducible rfl
  rotate_left
  · simp only [Act.put, List.setIfInBounds_toArray, List.set_cons_zero, List.set_cons_succ, i64_w, i32_w]; rfl
  refine done_ (by kernel_rfl) ?_
  clear hrt' hsz hk1 hk0
  go_wp2_with fail
  refine start_ (n := 9) (S := fun w' => w'.cell? ⟨B5, 0, none⟩ = some (.int .i64 k) ∧ w'.cell? ⟨B5, 1, none⟩ = some (.int .i64 a) ∧ w'.cell? ⟨B5, 2, none⟩ = some (.int .i64 b) ∧ w'.cell? ⟨B5, 3, none⟩ = some (.int .i64 c)) (ds := []) #[false, false, false, false, false, false, false, false, false] (by kernel_rfl) rfl rfl ⟨by simpa using e0, by simpa using e1, by simpa using e2, by simpa using e3⟩ (fun hHeld => ?_)
  refine pure_ (i := 0) (N := (some 28)) (v := ?_) (a' := ?_) #[true, false, false, false, false, false, false, false, false] rfl rfl (by kernel_rfl) (fun _ _ _ h => h) (Or.inl ⟨by rfl, ?_⟩) ?_ ?_
  rotate_left
  · intro w'; go_simp; first | done | with_reducible rfl
  rotate_left
  · simp only [Act.put, List.setIfInBounds_toArray, List.set_cons_zero, List.set_cons_succ, i64_w, i32_w]; rfl
  refine take_ (i := 1) (N := (some 29)) (v := ?_) (a' := ?_) #[true, true, false, false, false, false, false, false, false] rfl rfl (by kernel_rfl) (fun _ _ _ h => h) (Or.inl ⟨by rfl, ?_⟩) hHeld ?_ ?_
  rotate_left
  · rintro w' ⟨s0, s1, s2, s3⟩; go_simp; first | done | with_reducible rfl
  rotate_left
  · simp only [Act.put, List.setIfInBounds_toArray, List.set_cons_zero, List.set_cons_succ, i64_w, i32_w]; rfl
  refine pure_ (i := 2) (N := (some 30)) (v := ?_) (a' := ?_) #[true, true, true, false, false, false, false, false, false] rfl rfl (by kernel_rfl) (fun _ _ _ h => h) (Or.inl ⟨by rfl, ?_⟩) ?_ ?_
  rotate_left
  · intro w'; go_simp; first | done | with_reducible rfl
  rotate_left
  · simp only [Act.put, List.setIfInBounds_toArray, List.set_cons_zero, List.set_cons_succ, i64_w, i32_w]; rfl
  refine take_ (i := 3) (N := (some 31)) (v := ?_) (a' := ?_) #[true, true, true, true, false, false, false, false, false] rfl rfl (by kernel_rfl) (fun _ _ _ h => h) (Or.inl ⟨by rfl, ?_⟩) hHeld ?_ ?_
  rotate_left
  · rintro w' ⟨s0, s1, s2, s3⟩; go_simp; first | done | with_reducible rfl
  rotate_left
  · simp only [Act.put, List.setIfInBounds_toArray, List.set_cons_zero, List.set_cons_succ, i64_w, i32_w]; rfl
  refine pure_ (i := 4) (N := (some 32)) (v := ?_) (a' := ?_) #[true, true, true, true, true, false, false, false, false] rfl rfl (by kernel_rfl) (fun _ _ _ h => h) (Or.inl ⟨by rfl, ?_⟩) ?_ ?_
  rotate_left
  · intro w'; go_simp; first | done | with_reducible rfl
  rotate_left
  · simp only [Act.put, List.setIfInBounds_toArray, List.set_cons_zero, List.set_cons_succ, i64_w, i32_w]; rfl
  refine take_ (i := 5) (N := (some 33)) (v := ?_) (a' := ?_) #[true, true, true, true, true, true, false, false, false] rfl rfl (by kernel_rfl) (fun _ _ _ h => h) (Or.inl ⟨by rfl, ?_⟩) hHeld ?_ ?_
  rotate_left
  · rintro w' ⟨s0, s1, s2, s3⟩; go_simp; first | done | with_reducible rfl
  rotate_left
  · simp only [Act.put, List.setIfInBounds_toArray, List.set_cons_zero, List.set_cons_succ, i64_w, i32_w]; rfl
  refine pure_ (i := 6) (N := (some 7)) (v := ?_) (a' := ?_) #[true, true, true, true, true, true, true, false, false] rfl rfl (by kernel_rfl) (fun _ _ _ h => h) (Or.inl ⟨by rfl, ?_⟩) ?_ ?_
  rotate_left
  · intro w'; go_simp; first | done | with_reducible rfl
  rotate_left
  · simp only [Act.put, List.setIfInBounds_toArray, List.set_cons_zero, List.set_cons_succ, i64_w, i32_w]; rfl
  refine pure_ (i := 7) (N := (some 8)) (v := ?_) (a' := ?_) #[true, true, true, true, true, true, true, true, false] rfl rfl (by kernel_rfl) (fun _ _ _ h => h) (Or.inl ⟨by rfl, ?_⟩) ?_ ?_
  rotate_left
  · intro w'; go_simp; first | done | with_reducible rfl
  rotate_left
  · simp only [Act.put, List.setIfInBounds_toArray, List.set_cons_zero, List.set_cons_succ, i64_w, i32_w]; rfl
  refine pure_ (i := 8) (N := (some 9)) (v := ?_) (a' := ?_) #[true, true, true, true, true, true, true, true, true] rfl rfl (by kernel_rfl) (fun _ _ _ h => h) (Or.inl ⟨by rfl, ?_⟩) ?_ ?_
  rotate_left
  · intro w'; go_simp; first | done | with_reducible rfl
  rotate_left
  · simp only [Act.put, List.setIfInBounds_toArray, List.set_cons_zero, List.set_cons_succ, i64_w, i32_w]; rfl
  refine done_ (by kernel_rfl) ?_
  clear e0 e1 e2 e3
  go_wp2_with fail
  have HB6 := Lib.hid (H5.out.trans (((Below.refl w5.heap.size w5).drew.drew).mono H5.out.size))
  have G6 := Lib.hid ((((Below.refl w5.heap.size w5).drew.drew).block w.heap.size (Array.getElem?_eq_some_iff.1 G5.out).1).trans G5.out)
  generalize w5.drew.drew = w6 at HB6 G6 ⊢
  clear G5 H5
  have hab : wrap64 ((a : Int) + b) = ((a + b : Nat) : Int) := wrap_nat (by omega)
  have has : a + b ≤ t.size := by rw [HTS.out]; omega
  have has2 : a + b + c ≤ t.size := by rw [HTS.out]; omega
  have ha3 : a ≤ a + b + c := by omega
  have hsum : wrap64 (((a + b : Nat) : Int) + c) = ((a + b + c : Nat) : Int) := wrap_nat (n := a + b + c) (by omega)
  generalize a + b + c = f at *
  generalize a + b = d at *
  refine start_ (n := 18) (S := fun w' => True) (ds := [14,16]) #[false, false, false, false, false, false, false, false, false, false, false, false, false, false, false, false, false, false] (by kernel_rfl) rfl rfl trivial (fun hHeld => ?_)
  refine pure_ (i := 0) (N := (some 34)) (v := ?_) (a' := ?_) #[true, false, false, false, false, false, false, false, false, false, false, false, false, false, false, false, false, false] rfl rfl (by kernel_rfl) (fun _ _ _ h => h) (Or.inl ⟨by rfl, ?_⟩) ?_ ?_
  rotate_left
  · intro w'; go_simp; first | done | with_reducible rfl
  rotate_left
  · simp only [Act.put, List.setIfInBounds_toArray, List.set_cons_zero, List.set_cons_succ, i64_w, i32_w]; rfl
  refine pure_ (i := 1) (N := (some 35)) (v := ?_) (a' := ?_) #[true, true, false, false, false, false, false, false, false, false, false, false, false, false, false, false, false, false] rfl rfl (by kernel_rfl) (fun _ _ _ h => h) (Or.inl ⟨by rfl, ?_⟩) ?_ ?_
  rotate_left
  · intro w'; go_simp; first | done | with_reducible rfl
  rotate_left
  · simp only [Act.put, List.setIfInBounds_toArray, List.set_cons_zero, List.set_cons_succ, i64_w, i32_w]; rfl
  refine pure_ (i := 2) (N := (some 36)) (v := ?_) (a' := ?_) #[true, true, true, false, false, false, false, false, false, false, false, false, false, false, false, false, false, false] rfl rfl (by kernel_rfl) (fun _ _ _ h => h) (Or.inl ⟨by rfl, ?_⟩) ?_ ?_
  rotate_left
  · intro w'; go_simp; first | done | with_reducible rfl
  rotate_left
  · simp only [Act.put, List.setIfInBounds_toArray, List.set_cons_zero, List.set_cons_succ, i64_w, i32_w]; rfl
  refine pure_ (i := 3) (N := (some 37)) (v := ?_) (a' := ?_) #[true, true, true, true, false, false, false, false, false, false, false, false, false, false, false, false, false, false] rfl rfl (by kernel_rfl) (fun _ _ _ h => h) (Or.inl ⟨by rfl, ?_⟩) ?_ ?_
  rotate_left
  · intro w'; go_simp; first | done | with_reducible rfl
  rotate_left
  · simp only [Act.put, List.setIfInBounds_toArray, List.set_cons_zero, List.set_cons_succ, i64_w, i32_w]; rfl
  refine pure_ (i := 4) (N := (some 38)) (v := ?_) (a' := ?_) #[true, true, true, true, true, false, false, false, false, false, false, false, false, false, false, false, false, false] rfl rfl (by kernel_rfl) (fun _ _ _ h => h) (Or.inl ⟨by rfl, ?_⟩) ?_ ?_
  rotate_left
  · intro w'; go_simp; first | done | with_reducible rfl
  rotate_left
  · simp only [Act.put, List.setIfInBounds_toArray, List.set_cons_zero, List.set_cons_succ, i64_w, i32_w]; rfl
  refine pure_ (i := 6) (N := (some 40)) (v := ?_) (a' := ?_) #[true, true, true, true, true, false, true, false, false, false, false, false, false, false, false, false, false, false] rfl rfl (by kernel_rfl) (fun _ _ _ h => h) (Or.inl ⟨by rfl, ?_⟩) ?_ ?_
  rotate_left
  · intro w'; go_simp; first | done | with_reducible rfl
  rotate_left
  · simp only [Act.put, List.setIfInBounds_toArray, List.set_cons_zero, List.set_cons_succ, i64_w, i32_w]; rfl
  refine pure_ (i := 7) (N := (some 41)) (v := ?_) (a' := ?_) #[true, true, true, true, true, false, true, true, false, false, false, false, false, false, false, false, false, false] rfl rfl (by kernel_rfl) (fun _ _ _ h => h) (Or.inl ⟨by rfl, ?_⟩) ?_ ?_
  rotate_left
  · intro w'; go_simp; first | done | with_reducible rfl
  rotate_left
  · simp only [Act.put, List.setIfInBounds_toArray, List.set_cons_zero, List.set_cons_succ, i64_w, i32_w]; rfl
  refine pure_ (i := 8) (N := (some 42)) (v := ?_) (a' := ?_) #[true, true, true, true, true, false, true, true, true, false, false, false, false, false, false, false, false, false] rfl rfl (by kernel_rfl) (fun _ _ _ h => h) (Or.inl ⟨by rfl, ?_⟩) ?_ ?_
  rotate_left
  · intro w'; go_simp; first | done | with_reducible rfl
  rotate_left
  · simp only [Act.put, List.setIfInBounds_toArray, List.set_cons_zero, List.set_cons_succ, i64_w, i32_w]; rfl
  refine pure_ (i := 9) (N := (some 43)) (v := ?_) (a' := ?_) #[true, true, true, true, true, false, true, true, true, true, false, false, false, false, false, false, false, false] rfl rfl (by kernel_rfl) (fun _ _ _ h => h) (Or.inl ⟨by rfl, ?_⟩) ?_ ?_
  rotate_left
  · intro w'; go_simp; first | done | with_reducible rfl
  rotate_left
  · simp only [Act.put, List.setIfInBounds_toArray, List.set_cons_zero, List.set_cons_succ, i64_w, i32_w]; rfl
  refine pure_ (i := 10) (N := (some 44)) (v := ?_) (a' := ?_) #[true, true, true, true, true, false, true, true, true, true, true, false, false, false, false, false, false, false] rfl rfl (by kernel_rfl) (fun _ _ _ h => h) (Or.inl ⟨by rfl, ?_⟩) ?_ ?_
  rotate_left
  · intro w'; go_simp; first | done | with_reducible rfl
  rotate_left
  · simp only [Act.put, List.setIfInBounds_toArray, List.set_cons_zero, List.set_cons_succ, i64_w, i32_w]; rfl
  refine pure_ (i := 11) (N := (some 45)) (v := ?_) (a' := ?_) #[true, true, true, true, true, false, true, true, true, true, true, true, false, false, false, false, false, false] rfl rfl (by kernel_rfl) (fun _ _ _ h => h) (Or.inl ⟨by rfl, ?_⟩) ?_ ?_
  rotate_left
  · intro w'; go_simp; first | done | with_reducible rfl
  rotate_left
  · simp only [Act.put, List.setIfInBounds_toArray, List.set_cons_zero, List.set_cons_succ, i64_w, i32_w]; rfl
  refine pure_ (i := 12) (N := (some 46)) (v := ?_) (a' := ?_) #[true, true, true, true, true, false, true, true, true, true, true, true, true, false, false, false, false, false] rfl rfl (by kernel_rfl) (fun _ _ _ h => h) (Or.inl ⟨by rfl, ?_⟩) ?_ ?_
  rotate_left
  · intro w'; go_simp; first | done | with_reducible rfl
  rotate_left
  · simp only [Act.put, List.setIfInBounds_toArray, List.set_cons_zero, List.set_cons_succ, i64_w, i32_w]; rfl
  refine pure_ (i := 13) (N := (some 47)) (v := ?_) (a' := ?_) #[true, true, true, true, true, false, true, true, true, true, true, true, true, true, false, false, false, false] rfl rfl (by kernel_rfl) (fun _ _ _ h => h) (Or.inl ⟨by rfl, ?_⟩) ?_ ?_
  rotate_left
  · intro w'; go_simp; first | done | with_reducible rfl
  rotate_left
  · simp only [Act.put, List.setIfInBounds_toArray, List.set_cons_zero, List.set_cons_succ, i64_w, i32_w]; rfl
  refine one_ (i := 5) (N := (some 39)) #[true, true, true, true, true, true, true, true, true, true, true, true, true, true, false, false, false, false] rfl rfl (by kernel_rfl) (by decide) (fun K hK => ?_)
  refine goes_ Tryd.func59 (by kernel_rfl) rfl #[.string (t.extract 0 d)] (by rfl) rfl rfl (by (try simp only [List.map_toArray, List.map_cons, List.map_nil]); first | done | rfl) ?_
  refine (HX.out _).mono ?_
  rintro e w7 ⟨rfl, hb7⟩
  refine ⟨_, rfl, ?_⟩
  have HB7 := Lib.hid (HB6.out.drew.trans (hb7.mono HB6.out.drew.size))
  have G7 := Lib.hid ((hb7.block w.heap.size (Array.getElem?_eq_some_iff.1 (show w6.drew.heap[w.heap.size]? = _ from G6.out)).1).trans (show w6.drew.heap[w.heap.size]? = _ from G6.out))
  clear hb7
  refine hK.out _ _ trivial (fun hHeld => ?_)
  clear hK K
  refine norm_ (a' := ?_) ?_ ?_
  rotate_left
  · show Act.put _ (some 39) _ = _; simp only [Act.put, List.setIfInBounds_toArray, List.set_cons_zero, List.set_cons_succ, i64_w, i32_w]; rfl
  refine last_ (i := 14) (N := (some 48)) #[true, true, true, true, true, true, true, true, true, true, true, true, true, true, true, false, false, false] rfl rfl (by kernel_rfl) (by decide) (fun K hK => ?_)
  refine goes_ Tryd.func59 (by kernel_rfl) rfl #[.string (t.extract a f)] (by rfl) rfl rfl (by (try simp only [List.map_toArray, List.map_cons, List.map_nil]); first | done | rfl) ?_
  refine (HY.out _).mono ?_
  rintro e w8 ⟨rfl, hb8⟩
  refine ⟨_, rfl, ?_⟩
  have HB8 := Lib.hid (HB7.out.trans (hb8.mono HB7.out.size))
  have G8 := (hb8.block w.heap.size (Array.getElem?_eq_some_iff.1 G7.out).1).trans G7.out
  clear hb8
  have e0 := blk_at G8 0 rfl
  have e1 := blk_at G8 1 rfl
  have e2 := blk_at G8 2 rfl
  have e3 := blk_at G8 3 rfl
  have f0 := blk_free G8 0 (by decide)
  have f1 := blk_free G8 1 (by decide)
  have f2 := blk_free G8 2 (by decide)
  have f3 := blk_free G8 3 (by decide)
  unfold ptV
  refine hK.out _ _ ?_
  clear hK K
  refine norm_ (a' := ?_) ?_ ?_
  rotate_left
  · show Act.put _ (some 48) _ = _; simp only [Act.put, List.setIfInBounds_toArray, List.set_cons_zero, List.set_cons_succ, i64_w, i32_w]; rfl
  refine pure_ (i := 15) (N := (some 49)) (v := (.agg #[.int .i64 x1, .int .i64 y1, .int .i64 x2, .int .i64 y2])) (a' := ?_) #[true, true, true, true, true, true, true, true, true, true, true, true, true, true, true, true, false, false] rfl rfl (by kernel_rfl) (fun _ _ _ h => h) (Or.inl ⟨by rfl, ?_⟩) ?_ ?_
  · intro w'; go_simp; first | done | with_reducible rfl
  rotate_left
  · simp only [Act.put, List.setIfInBounds_toArray, List.set_cons_zero, List.set_cons_succ, i64_w, i32_w]; rfl
  refine last_ (i := 16) (N := none) #[true, true, true, true, true, true, true, true, true, true, true, true, true, true, true, true, true, false] rfl rfl (by kernel_rfl) (by decide) (fun K hK => ?_)
  refine skip_step (w1 := (((w8.setCell ⟨w.heap.size, 0, none⟩ (.int .i64 x1)).setCell ⟨w.heap.size, 1, none⟩ (.int .i64 y1)).setCell ⟨w.heap.size, 2, none⟩ (.int .i64 x2)).setCell ⟨w.heap.size, 3, none⟩ (.int .i64 y2)) (by rfl) (by go_simp) ?_
  refine hK.out _ _ ?_
  clear hK K
  refine norm_ (a' := ?_) ?_ ?_
  rotate_left
  · show Act.put _ none _ = _; simp only [Act.put, List.setIfInBounds_toArray, List.set_cons_zero, List.set_cons_succ, i64_w, i32_w]; rfl
  refine pure_ (i := 17) (N := (some 3)) (v := ?_) (a' := ?_) #[true, true, true, true, true, true, true, true, true, true, true, true, true, true, true, true, true, true] rfl rfl (by kernel_rfl) (fun _ _ _ h => h) (Or.inl ⟨by rfl, ?_⟩) ?_ ?_
  rotate_left
  · intro w'; go_simp; first | done | with_reducible rfl
  rotate_left
  · simp only [Act.put, List.setIfInBounds_toArray, List.set_cons_zero, List.set_cons_succ, i64_w, i32_w]; rfl
  refine done_ (by kernel_rfl) ?_
  go_wp2
  have n1 := four_set (y0 := .int .i64 x1) (y1 := .int .i64 y1) (y2 := .int .i64 x2) (y3 := .int .i64 y2) G8
  have n2 := four_below (k := .int .i64 x1) (a := .int .i64 y1) (c := .int .i64 x2) (d := .int .i64 y2) HB8.out (Nat.le_refl w.heap.size)
  generalize (((w8.setCell ⟨w.heap.size, 0, none⟩ (.int .i64 x1)).setCell ⟨w.heap.size, 1, none⟩ (.int .i64 y1)).setCell ⟨w.heap.size, 2, none⟩ (.int .i64 x2)).setCell ⟨w.heap.size, 3, none⟩ (.int .i64 y2) = W5 at n1 n2 ⊢
  have k0 := blk_at n1 0 rfl
  have k1 := blk_at n1 1 rfl
  have k2 := blk_at n1 2 rfl
  have k3 := blk_at n1 3 rfl
  exact bodyPost_ret (v := .tuple #[.agg #[.int .i64 x1, .int .i64 y1, .int .i64 x2, .int .i64 y2], .int .i64 0]) (by simp [results, Tryd.f35, go_sem, k0, k1, k2, k3]) rfl ⟨rfl, n2⟩
end Go.Proofs.YtpfenoioeajkmaaDoor.X
end

section
set_option linter.unusedVariables false
set_option linter.unusedSimpArgs false
namespace Go.Proofs.YtpfenoioeajkmaaDoor.X
open Go.RowKit Go.Proofs.YtpfenoioeajkmaaDoorW.PrintWords Go.Proofs.YtpfenoioeajkmaaDoorW.PrintLast Go.Proofs.YtpfenoioeajkmaaDoorW.PrintMore Go.Proofs.YtpfenoioeajkmaaDoor.L
structure Kept (B : Nat) (o : Obj) (w : World) : Prop where
  h : w.heap[B]? = some o
theorem Kept.lt {B : Nat} {o : Obj} {w : World} (h : Kept B o w) : B < w.heap.size := (Array.getElem?_eq_some_iff.1 h.h).1
theorem Kept.later {B : Nat} {o : Obj} {w w' : World} (h : Kept B o w) (hb : Below w.heap.size w w') : Kept B o w' := ⟨(hb.block B h.lt).trans h.h⟩
theorem cut_sumy {t : ByteArray} (h : isW t = true) (i j : Nat) (hj : j ≤ t.size) : rsumy (t.extract i j) (t.extract i j).size = sumy (t.extract i j) (t.extract i j).size :=
  rsumy_eq (cut_W h i j hj) _ (Nat.le_refl _)
theorem isO_4 {s : ByteArray} (h : isO s = true) : 4 ≤ s.size := by
  unfold isO at h
  simp only [Bool.and_eq_true, decide_eq_true_eq] at h
  omega
end Go.Proofs.YtpfenoioeajkmaaDoor.X
end

section
namespace Go.Proofs.YtpfenoioeajkmaaDoor.PC
open Go.RowKit Go.Proofs.YtpfenoioeajkmaaDoorW.PrintWords Go.Proofs.YtpfenoioeajkmaaDoorW.PrintLast Go.Proofs.YtpfenoioeajkmaaDoorW.PrintMore
attribute [local go_sem] max2_int min2_int max_two min_two max_three min_three max_four min_four
set_option linter.unusedVariables false
set_option linter.unusedSimpArgs false
def cmp_isNaN_int.f (a0 : Int) : Option (Bool) := some (a0 != a0)
set_option maxHeartbeats 8000000 in
set_option maxRecDepth 100000 in
theorem cmp_isNaN_int.calls (a0 : Int) (r : Bool) (w : World) (h : cmp_isNaN_int.f a0 = some r) :
    Calls Tryd.prog 100 #[.int .i64 a0] w fun e w' => e = .returned (.bool r) ∧ Drawn0 w w' := by
  have H : (some (a0 != a0)) = some r := h
  clear h
  obtain rfl := Option.some.inj H
  go_enter Tryd.func100, Tryd.ntmps100
  go_wp2
  go_ret
  exact ⟨by first | rfl | (simp; done) | (simp [*]; done), by repeat (first | exact Drawn0.refl _ | apply Drawn0.step)⟩
def cmp_Compare_int.f (a0 : Int) (a1 : Int) : Option (Int) := (cmp_isNaN_int.f a0).bind fun t101 => ((cmp_isNaN_int.f a1).bind fun t102 => (if t101 = true then (if t102 = true then (some 0) else (some (-1))) else (if t102 = true then (some 1) else (if a0 < a1 then (some (-1)) else (if a0 > a1 then (some 1) else (some 0))))))
set_option maxHeartbeats 8000000 in
set_option maxRecDepth 100000 in
theorem cmp_Compare_int.calls (a0 : Int) (a1 : Int) (r : Int) (w : World) (h : cmp_Compare_int.f a0 a1 = some r) :
    Calls Tryd.prog 90 #[.int .i64 a0, .int .i64 a1] w fun e w' => e = .returned (.int .i64 r) ∧ Drawn0 w w' := by
  have H : ((cmp_isNaN_int.f a0).bind fun t101 => ((cmp_isNaN_int.f a1).bind fun t102 => (if t101 = true then (if t102 = true then (some 0) else (some (-1))) else (if t102 = true then (some 1) else (if a0 < a1 then (some (-1)) else (if a0 > a1 then (some 1) else (some 0))))))) = some r := h
  clear h
  replace H := Option.bind_eq_some_iff.mp H
  obtain ⟨t101, A30, H⟩ := H
  replace H : ((cmp_isNaN_int.f a1).bind fun t102 => (if t101 = true then (if t102 = true then (some 0) else (some (-1))) else (if t102 = true then (some 1) else (if a0 < a1 then (some (-1)) else (if a0 > a1 then (some 1) else (some 0)))))) = some r := H
  have A3 := Aside0.mk A30
  clear A30
  replace H := Option.bind_eq_some_iff.mp H
  obtain ⟨t102, A40, H⟩ := H
  replace H : (if t101 = true then (if t102 = true then (some 0) else (some (-1))) else (if t102 = true then (some 1) else (if a0 < a1 then (some (-1)) else (if a0 > a1 then (some 1) else (some 0))))) = some r := H
  have A4 := Aside0.mk A40
  clear A40
  by_cases c5 : t101 = true
  · subst c5
    have H1 : (if t102 = true then (some 0) else (some (-1))) = some r := by rw [if_pos rfl] at H; exact H
    clear H
    have H := H1
    clear H1
    by_cases c6 : t102 = true
    · subst c6
      have H1 : (some 0) = some r := by rw [if_pos rfl] at H; exact H
      clear H
      have H := H1
      clear H1
      obtain rfl := Option.some.inj H
      go_enter Tryd.func90, Tryd.ntmps90
      go_wp2_with (first | ((with_reducible refine gate_callee (f := 100) rfl ?_); refine goesL_ (some 8) rfl rfl Tryd.func100 (by kernel_rfl) rfl #[.int .i64 a0] rfl (by (try simp only [List.map_toArray, List.map_cons, List.map_nil]); first | done | rfl | (simp only [List.length_drop, List.length_take]; rfl)) ?_; (with_reducible refine (cmp_isNaN_int.calls a0 true _ A3.out).mono ?_); rintro e w' ⟨rfl, ⟨nd, rfl⟩⟩; refine ⟨_, rfl, ?_⟩) | ((with_reducible refine gate_callee (f := 100) rfl ?_); refine goesL_ (some 10) rfl rfl Tryd.func100 (by kernel_rfl) rfl #[.int .i64 a1] rfl (by (try simp only [List.map_toArray, List.map_cons, List.map_nil]); first | done | rfl | (simp only [List.length_drop, List.length_take]; rfl)) ?_; (with_reducible refine (cmp_isNaN_int.calls a1 true _ A4.out).mono ?_); rintro e w' ⟨rfl, ⟨nd, rfl⟩⟩; refine ⟨_, rfl, ?_⟩))
      go_ret
      exact ⟨by first | rfl | (simp; done) | (simp [*]; done), by repeat (first | exact Drawn0.refl _ | apply Drawn0.step)⟩
    · replace c6 := Bool.eq_false_iff.mpr c6
      subst c6
      have H1 : (some (-1)) = some r := by rw [if_neg (show ¬ (false = true) by decide)] at H; exact H
      clear H
      have H := H1
      clear H1
      obtain rfl := Option.some.inj H
      go_enter Tryd.func90, Tryd.ntmps90
      go_wp2_with (first | ((with_reducible refine gate_callee (f := 100) rfl ?_); refine goesL_ (some 8) rfl rfl Tryd.func100 (by kernel_rfl) rfl #[.int .i64 a0] rfl (by (try simp only [List.map_toArray, List.map_cons, List.map_nil]); first | done | rfl | (simp only [List.length_drop, List.length_take]; rfl)) ?_; (with_reducible refine (cmp_isNaN_int.calls a0 true _ A3.out).mono ?_); rintro e w' ⟨rfl, ⟨nd, rfl⟩⟩; refine ⟨_, rfl, ?_⟩) | ((with_reducible refine gate_callee (f := 100) rfl ?_); refine goesL_ (some 10) rfl rfl Tryd.func100 (by kernel_rfl) rfl #[.int .i64 a1] rfl (by (try simp only [List.map_toArray, List.map_cons, List.map_nil]); first | done | rfl | (simp only [List.length_drop, List.length_take]; rfl)) ?_; (with_reducible refine (cmp_isNaN_int.calls a1 false _ A4.out).mono ?_); rintro e w' ⟨rfl, ⟨nd, rfl⟩⟩; refine ⟨_, rfl, ?_⟩))
      go_ret
      exact ⟨by first | rfl | (simp; done) | (simp [*]; done), by repeat (first | exact Drawn0.refl _ | apply Drawn0.step)⟩
  · replace c5 := Bool.eq_false_iff.mpr c5
    subst c5
    have H1 : (if t102 = true then (some 1) else (if a0 < a1 then (some (-1)) else (if a0 > a1 then (some 1) else (some 0)))) = some r := by rw [if_neg (show ¬ (false = true) by decide)] at H; exact H
    clear H
    have H := H1
    clear H1
    by_cases c7 : t102 = true
    · subst c7
      have H1 : (some 1) = some r := by rw [if_pos rfl] at H; exact H
      clear H
      have H := H1
      clear H1
      obtain rfl := Option.some.inj H
      go_enter Tryd.func90, Tryd.ntmps90
      go_wp2_with (first | ((with_reducible refine gate_callee (f := 100) rfl ?_); refine goesL_ (some 8) rfl rfl Tryd.func100 (by kernel_rfl) rfl #[.int .i64 a0] rfl (by (try simp only [List.map_toArray, List.map_cons, List.map_nil]); first | done | rfl | (simp only [List.length_drop, List.length_take]; rfl)) ?_; (with_reducible refine (cmp_isNaN_int.calls a0 false _ A3.out).mono ?_); rintro e w' ⟨rfl, ⟨nd, rfl⟩⟩; refine ⟨_, rfl, ?_⟩) | ((with_reducible refine gate_callee (f := 100) rfl ?_); refine goesL_ (some 10) rfl rfl Tryd.func100 (by kernel_rfl) rfl #[.int .i64 a1] rfl (by (try simp only [List.map_toArray, List.map_cons, List.map_nil]); first | done | rfl | (simp only [List.length_drop, List.length_take]; rfl)) ?_; (with_reducible refine (cmp_isNaN_int.calls a1 true _ A4.out).mono ?_); rintro e w' ⟨rfl, ⟨nd, rfl⟩⟩; refine ⟨_, rfl, ?_⟩))
      go_ret
      exact ⟨by first | rfl | (simp; done) | (simp [*]; done), by repeat (first | exact Drawn0.refl _ | apply Drawn0.step)⟩
    · replace c7 := Bool.eq_false_iff.mpr c7
      subst c7
      have H1 : (if a0 < a1 then (some (-1)) else (if a0 > a1 then (some 1) else (some 0))) = some r := by rw [if_neg (show ¬ (false = true) by decide)] at H; exact H
      clear H
      have H := H1
      clear H1
      by_cases c8 : a0 < a1
      · rw [if_pos c8] at H
        have c8b0 : decide (a0 < a1) = true := decide_eq_true c8
        clear c8
        obtain rfl := Option.some.inj H
        go_enter Tryd.func90, Tryd.ntmps90
        go_wp2_with (first | ((with_reducible refine gate_callee (f := 100) rfl ?_); refine goesL_ (some 8) rfl rfl Tryd.func100 (by kernel_rfl) rfl #[.int .i64 a0] rfl (by (try simp only [List.map_toArray, List.map_cons, List.map_nil]); first | done | rfl | (simp only [List.length_drop, List.length_take]; rfl)) ?_; (with_reducible refine (cmp_isNaN_int.calls a0 false _ A3.out).mono ?_); rintro e w' ⟨rfl, ⟨nd, rfl⟩⟩; refine ⟨_, rfl, ?_⟩) | ((with_reducible refine gate_callee (f := 100) rfl ?_); refine goesL_ (some 10) rfl rfl Tryd.func100 (by kernel_rfl) rfl #[.int .i64 a1] rfl (by (try simp only [List.map_toArray, List.map_cons, List.map_nil]); first | done | rfl | (simp only [List.length_drop, List.length_take]; rfl)) ?_; (with_reducible refine (cmp_isNaN_int.calls a1 false _ A4.out).mono ?_); rintro e w' ⟨rfl, ⟨nd, rfl⟩⟩; refine ⟨_, rfl, ?_⟩))
        go_ret
        exact ⟨by first | rfl | (simp; done) | (simp [*]; done), by repeat (first | exact Drawn0.refl _ | apply Drawn0.step)⟩
      · rw [if_neg c8] at H
        have c8b0 : decide (a0 < a1) = false := decide_eq_false c8
        clear c8
        by_cases c9 : a0 > a1
        · rw [if_pos c9] at H
          have c9b0 : decide (a1 < a0) = true := decide_eq_true c9
          clear c9
          obtain rfl := Option.some.inj H
          go_enter Tryd.func90, Tryd.ntmps90
          go_wp2_with (first | ((with_reducible refine gate_callee (f := 100) rfl ?_); refine goesL_ (some 8) rfl rfl Tryd.func100 (by kernel_rfl) rfl #[.int .i64 a0] rfl (by (try simp only [List.map_toArray, List.map_cons, List.map_nil]); first | done | rfl | (simp only [List.length_drop, List.length_take]; rfl)) ?_; (with_reducible refine (cmp_isNaN_int.calls a0 false _ A3.out).mono ?_); rintro e w' ⟨rfl, ⟨nd, rfl⟩⟩; refine ⟨_, rfl, ?_⟩) | ((with_reducible refine gate_callee (f := 100) rfl ?_); refine goesL_ (some 10) rfl rfl Tryd.func100 (by kernel_rfl) rfl #[.int .i64 a1] rfl (by (try simp only [List.map_toArray, List.map_cons, List.map_nil]); first | done | rfl | (simp only [List.length_drop, List.length_take]; rfl)) ?_; (with_reducible refine (cmp_isNaN_int.calls a1 false _ A4.out).mono ?_); rintro e w' ⟨rfl, ⟨nd, rfl⟩⟩; refine ⟨_, rfl, ?_⟩))
          go_ret
          exact ⟨by first | rfl | (simp; done) | (simp [*]; done), by repeat (first | exact Drawn0.refl _ | apply Drawn0.step)⟩
        · rw [if_neg c9] at H
          have c9b0 : decide (a1 < a0) = false := decide_eq_false c9
          clear c9
          obtain rfl := Option.some.inj H
          go_enter Tryd.func90, Tryd.ntmps90
          go_wp2_with (first | ((with_reducible refine gate_callee (f := 100) rfl ?_); refine goesL_ (some 8) rfl rfl Tryd.func100 (by kernel_rfl) rfl #[.int .i64 a0] rfl (by (try simp only [List.map_toArray, List.map_cons, List.map_nil]); first | done | rfl | (simp only [List.length_drop, List.length_take]; rfl)) ?_; (with_reducible refine (cmp_isNaN_int.calls a0 false _ A3.out).mono ?_); rintro e w' ⟨rfl, ⟨nd, rfl⟩⟩; refine ⟨_, rfl, ?_⟩) | ((with_reducible refine gate_callee (f := 100) rfl ?_); refine goesL_ (some 10) rfl rfl Tryd.func100 (by kernel_rfl) rfl #[.int .i64 a1] rfl (by (try simp only [List.map_toArray, List.map_cons, List.map_nil]); first | done | rfl | (simp only [List.length_drop, List.length_take]; rfl)) ?_; (with_reducible refine (cmp_isNaN_int.calls a1 false _ A4.out).mono ?_); rintro e w' ⟨rfl, ⟨nd, rfl⟩⟩; refine ⟨_, rfl, ?_⟩))
          go_ret
          exact ⟨by first | rfl | (simp; done) | (simp [*]; done), by repeat (first | exact Drawn0.refl _ | apply Drawn0.step)⟩
def slices_Compare_int_int.l0 : Nat → List Int → List Int → List Int → Int → Int → Option (Int)
  | 0, _, _, _, _, _ => none
  | k + 1, x0, x1, x9, x10, x11 => if x11 < x10 then (if 0 ≤ x11 then (if x11 < (x9.length : Int) then (if x11 ≥ (x1.length : Int) then (some 1) else (if x11 < (x1.length : Int) then ((cmp_Compare_int.f (rd x9 x11) (rd x1 x11)).bind fun t105 => (if t105 = 0 then (slices_Compare_int_int.l0 k x0 x1 x9 x10 (wrap64 (x11 + 1))) else (some t105))) else (none))) else (none)) else (none)) else (if (x0.length : Int) < (x1.length : Int) then (some (-1)) else (some 0))
def slices_Compare_int_int.f (k : Nat) (l0 : List Int) (l1 : List Int) : Option (Int) := slices_Compare_int_int.l0 k l0 l1 l0 (l0.length : Int) 0
set_option maxHeartbeats 8000000 in
set_option maxRecDepth 100000 in
theorem slices_Compare_int_int.calls (k : Nat) (A0 : Option Addr) (c0 : Nat) (l0 : List Int) (A1 : Option Addr) (c1 : Nat) (l1 : List Int) (r : Int) (w : World) (hr0 : Kd.C (Kd.int .i64) w A0 l0.length l0) (hc0 : l0.length ≤ c0) (hr1 : Kd.C (Kd.int .i64) w A1 l1.length l1) (hc1 : l1.length ≤ c1) (h : slices_Compare_int_int.f k l0 l1 = some r) :
    Calls Tryd.prog 78 #[.slice A0 l0.length c0, .slice A1 l1.length c1] w fun e w' => e = .returned (.int .i64 r) ∧ Drawn0 w w' := by
  have HR0 := Aside0.mk hr0
  have HC0 := Aside0.mk hc0
  clear hr0 hc0
  have HR1 := Aside0.mk hr1
  have HC1 := Aside0.mk hc1
  clear hr1 hc1
  have H : (slices_Compare_int_int.l0 k l0 l1 l0 (l0.length : Int) 0) = some r := h
  clear h
  have H' := Aside0.mk H
  clear H
  go_enter Tryd.func78, Tryd.ntmps78
  go_wp2
  go_loopg [11] k (fun kq v11 w' => ∃ (x11_1 : Int), v11 = .int .i64 x11_1 ∧ Aside0 (slices_Compare_int_int.l0 kq l0 l1 l0 (l0.length : Int) x11_1 = some r) ∧ Aside0 (kq ≤ k) ∧ Drawn0 w w')
  case atStart => exact ⟨(0), (by first | rfl | (simp; done) | (simp [*]; done)), H', ⟨Nat.le_refl _⟩, by repeat (first | exact Drawn0.refl _ | apply Drawn0.step)⟩
  case round =>
    clear H'
    try clear c1
    try clear p2
    obtain ⟨x11_1, rfl, HA, HK1, ⟨m1, rfl⟩⟩ := hrel
    cases gk with
    | zero => exact absurd HA.out (by simp [slices_Compare_int_int.l0])
    | succ k1 =>
      have H := HA.out
      clear HA
      simp only [slices_Compare_int_int.l0] at H
      by_cases c3 : x11_1 < (l0.length : Int)
      · rw [if_pos c3] at H
        have c3b0 : decide (x11_1 < (l0.length : Int)) = true := decide_eq_true c3
        clear c3
        by_cases c4 : 0 ≤ x11_1
        · rw [if_pos c4] at H
          have c4b0 : decide (0 ≤ x11_1) = true := decide_eq_true c4
          clear c4
          by_cases c5 : x11_1 < (l0.length : Int)
          · rw [if_pos c5] at H
            have c5b0 : decide (x11_1 < (l0.length : Int)) = true := decide_eq_true c5
            clear c5
            by_cases c6 : x11_1 ≥ (l1.length : Int)
            · rw [if_pos c6] at H
              have c6b0 : decide ((l1.length : Int) ≤ x11_1) = true := decide_eq_true c6
              clear c6
              obtain rfl := Option.some.inj H
              have p103 : 0 ≤ (x11_1 : Int) := of_decide_eq_true (by first | (with_reducible assumption) | assumption)
              have q103 : x11_1 < (l0.length : Int) := of_decide_eq_true (by first | (with_reducible assumption) | assumption)
              obtain ⟨ad103, e103, hx103_0⟩ := Kd.at_int HR0.out x11_1 p103 q103
              cases e103
              replace p103 := eq_true p103
              replace q103 := eq_true q103
              go_wp2
              go_ret
              exact ⟨by first | rfl | (simp; done) | (simp [*]; done), by repeat (first | exact Drawn0.refl _ | apply Drawn0.step)⟩
            · rw [if_neg c6] at H
              have c6b0 : decide ((l1.length : Int) ≤ x11_1) = false := decide_eq_false c6
              clear c6
              by_cases c7 : x11_1 < (l1.length : Int)
              · rw [if_pos c7] at H
                have c7b0 : decide (x11_1 < (l1.length : Int)) = true := decide_eq_true c7
                clear c7
                replace H := Option.bind_eq_some_iff.mp H
                obtain ⟨t105, A80, H⟩ := H
                replace H : (if t105 = 0 then (slices_Compare_int_int.l0 k1 l0 l1 l0 (l0.length : Int) (wrap64 (x11_1 + 1))) else (some t105)) = some r := H
                have A8 := Aside0.mk A80
                clear A80
                by_cases c9 : t105 = 0
                · rw [if_pos c9] at H
                  have c9b0 : (t105 == 0) = true := beq_iff_eq.mpr c9
                  have c9b1 : (t105 != 0) = false := bne_eq_false_iff_eq.mpr c9
                  clear c9
                  have H' := Aside0.mk H
                  clear H
                  have p103 : 0 ≤ (x11_1 : Int) := of_decide_eq_true (by first | (with_reducible assumption) | assumption)
                  have q103 : x11_1 < (l0.length : Int) := of_decide_eq_true (by first | (with_reducible assumption) | assumption)
                  obtain ⟨ad103, e103, hx103_0⟩ := Kd.at_int HR0.out x11_1 p103 q103
                  cases e103
                  replace p103 := eq_true p103
                  replace q103 := eq_true q103
                  have p104 : 0 ≤ (x11_1 : Int) := of_decide_eq_true (by first | (with_reducible assumption) | assumption)
                  have q104 : x11_1 < (l1.length : Int) := of_decide_eq_true (by first | (with_reducible assumption) | assumption)
                  obtain ⟨ad104, e104, hx104_0⟩ := Kd.at_int HR1.out x11_1 p104 q104
                  cases e104
                  replace p104 := eq_true p104
                  replace q104 := eq_true q104
                  go_wp2_with (first | ((with_reducible refine gate_callee (f := 90) rfl ?_); refine goesL_ (some 26) rfl rfl Tryd.func90 (by kernel_rfl) rfl #[.int .i64 (rd l0 x11_1), .int .i64 (rd l1 x11_1)] rfl (by (try simp only [List.map_toArray, List.map_cons, List.map_nil]); first | done | rfl | (simp only [List.length_drop, List.length_take]; rfl)) ?_; (with_reducible refine (cmp_Compare_int.calls (rd l0 x11_1) (rd l1 x11_1) t105 _ A8.out).mono ?_); rintro e w' ⟨rfl, ⟨nd, rfl⟩⟩; refine ⟨_, rfl, ?_⟩))
                  go_roundg k1
                  case measure => have := HK1.out; omega
                  case rel => exact ⟨(wrap64 (x11_1 + 1)), (by first | rfl | (simp; done) | (simp [*]; done)), H', ⟨by have := HK1.out; omega⟩, by repeat (first | exact Drawn0.refl _ | apply Drawn0.step)⟩
                · rw [if_neg c9] at H
                  have c9b0 : (t105 == 0) = false := beq_eq_false_iff_ne.mpr c9
                  have c9b1 : (t105 != 0) = true := bne_iff_ne.mpr c9
                  obtain rfl := Option.some.inj H
                  have p103 : 0 ≤ (x11_1 : Int) := of_decide_eq_true (by first | (with_reducible assumption) | assumption)
                  have q103 : x11_1 < (l0.length : Int) := of_decide_eq_true (by first | (with_reducible assumption) | assumption)
                  obtain ⟨ad103, e103, hx103_0⟩ := Kd.at_int HR0.out x11_1 p103 q103
                  cases e103
                  replace p103 := eq_true p103
                  replace q103 := eq_true q103
                  have p104 : 0 ≤ (x11_1 : Int) := of_decide_eq_true (by first | (with_reducible assumption) | assumption)
                  have q104 : x11_1 < (l1.length : Int) := of_decide_eq_true (by first | (with_reducible assumption) | assumption)
                  obtain ⟨ad104, e104, hx104_0⟩ := Kd.at_int HR1.out x11_1 p104 q104
                  cases e104
                  replace p104 := eq_true p104
                  replace q104 := eq_true q104
                  go_wp2_with (first | ((with_reducible refine gate_callee (f := 90) rfl ?_); refine goesL_ (some 26) rfl rfl Tryd.func90 (by kernel_rfl) rfl #[.int .i64 (rd l0 x11_1), .int .i64 (rd l1 x11_1)] rfl (by (try simp only [List.map_toArray, List.map_cons, List.map_nil]); first | done | rfl | (simp only [List.length_drop, List.length_take]; rfl)) ?_; (with_reducible refine (cmp_Compare_int.calls (rd l0 x11_1) (rd l1 x11_1) t105 _ A8.out).mono ?_); rintro e w' ⟨rfl, ⟨nd, rfl⟩⟩; refine ⟨_, rfl, ?_⟩))
                  go_ret
                  exact ⟨by first | rfl | (simp; done) | (simp [*]; done), by repeat (first | exact Drawn0.refl _ | apply Drawn0.step)⟩
              · rw [if_neg c7] at H
                exact absurd H (by simp)
          · rw [if_neg c5] at H
            exact absurd H (by simp)
        · rw [if_neg c4] at H
          exact absurd H (by simp)
      · rw [if_neg c3] at H
        have c3b0 : decide (x11_1 < (l0.length : Int)) = false := decide_eq_false c3
        clear c3
        by_cases c10 : (l0.length : Int) < (l1.length : Int)
        · rw [if_pos c10] at H
          have c10b0 : decide ((l0.length : Int) < (l1.length : Int)) = true := decide_eq_true c10
          have c10b1 : decide (l0.length < l1.length) = true := decide_eq_true (Int.ofNat_lt.mp c10)
          clear c10
          obtain rfl := Option.some.inj H
          go_wp2
          go_ret
          exact ⟨by first | rfl | (simp; done) | (simp [*]; done), by repeat (first | exact Drawn0.refl _ | apply Drawn0.step)⟩
        · rw [if_neg c10] at H
          have c10b0 : decide ((l0.length : Int) < (l1.length : Int)) = false := decide_eq_false c10
          have c10b1 : decide (l0.length < l1.length) = false := decide_eq_false (fun h => c10 (Int.ofNat_lt.mpr h))
          clear c10
          obtain rfl := Option.some.inj H
          go_wp2
          go_ret
          exact ⟨by first | rfl | (simp; done) | (simp [*]; done), by repeat (first | exact Drawn0.refl _ | apply Drawn0.step)⟩
end Go.Proofs.YtpfenoioeajkmaaDoor.PC
end

section
set_option linter.unusedVariables false
set_option linter.unusedSimpArgs false
namespace Go.Proofs.YtpfenoioeajkmaaDoor.X
open Go.RowKit Go.Proofs.YtpfenoioeajkmaaDoorW.PrintWords Go.Proofs.YtpfenoioeajkmaaDoorW.PrintLast Go.Proofs.YtpfenoioeajkmaaDoorW.PrintMore
def cmpI (a b : Int) : Int := if a < b then -1 else if a > b then 1 else 0
def cmpP (a b c d : Int) : Int := if cmpI a c ≠ 0 then cmpI a c else cmpI b d
theorem cmpI_f (a b : Int) : PC.cmp_Compare_int.f a b = some (cmpI a b) := by
  unfold PC.cmp_Compare_int.f PC.cmp_isNaN_int.f cmpI
  simp only [bne_self_eq_false, Option.bind_some, Bool.false_eq_true, if_false]
  split
  · rfl
  · split <;> rfl
theorem compare_f (a b c d : Int) : PC.slices_Compare_int_int.f 3 [a, b] [c, d] = some (cmpP a b c d) := by
  unfold PC.slices_Compare_int_int.f cmpP
  simp [PC.slices_Compare_int_int.l0, cmpI_f, rd, wrap64]
  by_cases h1 : cmpI a c = 0
  · simp [h1]
    by_cases h2 : cmpI b d = 0
    · simp [h2]
    · simp [h2]
  · simp [h1]
theorem pair_C (w : World) (g : Nat) (a b : Int) (h0 : w.cell? ⟨g, 0, none⟩ = some (.int .i64 a)) (h1 : w.cell? ⟨g, 1, none⟩ = some (.int .i64 b)) : Kd.C (Kd.int .i64) w (some ⟨g, 0, none⟩) 2 [a, b] :=
  Kd.C_of_reads (d := (0 : Int)) (h1 := fun _ => rfl) ⟨rfl, by decide, fun _ => ⟨_, rfl, fun j hj => by
    have : j = 0 ∨ j = 1 := by omega
    rcases this with rfl | rfl
    · simpa [Addr.add] using h0
    · simpa [Addr.add] using h1⟩⟩
set_option maxHeartbeats 2000000 in
set_option maxRecDepth 100000 in
theorem compare_calls (a b c d : Int) (w : World) : Calls Tryd.prog 67 #[ptV a b, ptV c d] w fun e w' => e = .returned (.int .i64 (cmpP a b c d)) ∧ Below w.heap.size w w' := by
  unfold ptV
  go_enter Tryd.func67, Tryd.ntmps67
  go_wp2_with fail
  have h0 : ((w.alloc (.cells #[.int .i64 a, .int .i64 b] 63)).alloc (.cells #[.int .i64 c, .int .i64 d] 63)).drew.cell? ⟨w.heap.size, 0, none⟩ = some (.int .i64 a) := by simp
  have h1 : ((w.alloc (.cells #[.int .i64 a, .int .i64 b] 63)).alloc (.cells #[.int .i64 c, .int .i64 d] 63)).drew.cell? ⟨w.heap.size, 1, none⟩ = some (.int .i64 b) := by simp
  have h2 : ((w.alloc (.cells #[.int .i64 a, .int .i64 b] 63)).alloc (.cells #[.int .i64 c, .int .i64 d] 63)).drew.cell? ⟨w.heap.size + 1, 0, none⟩ = some (.int .i64 c) := by simp
  have h3 : ((w.alloc (.cells #[.int .i64 a, .int .i64 b] 63)).alloc (.cells #[.int .i64 c, .int .i64 d] 63)).drew.cell? ⟨w.heap.size + 1, 1, none⟩ = some (.int .i64 d) := by simp
  have HB := Lib.hid ((below_one (w := w) (.cells #[.int .i64 a, .int .i64 b] 63)).alloc (by simp) (.cells #[.int .i64 c, .int .i64 d] 63)).drew
  have HC0 := Lib.hid (pair_C _ _ a b h0 h1)
  have HC1 := Lib.hid (pair_C _ _ c d h2 h3)
  clear h0 h1 h2 h3
  refine start_ (n := 4) (S := fun w' => True) (ds := []) #[false, false, false, false] (by kernel_rfl) rfl rfl trivial (fun hHeld => ?_)
  refine pure_ (i := 0) (N := (some 5)) (v := ?_) (a' := ?_) #[true, false, false, false] rfl rfl (by kernel_rfl) (fun _ _ _ h => h) (Or.inl ⟨by rfl, ?_⟩) ?_ ?_
  rotate_left
  · intro w'; go_simp; first | done | with_reducible rfl
  rotate_left
  · simp only [Act.put, List.setIfInBounds_toArray, List.set_cons_zero, List.set_cons_succ, i64_w, i32_w]; rfl
  refine pure_ (i := 1) (N := (some 6)) (v := ?_) (a' := ?_) #[true, true, false, false] rfl rfl (by kernel_rfl) (fun _ _ _ h => h) (Or.inl ⟨by rfl, ?_⟩) ?_ ?_
  rotate_left
  · intro w'; go_simp; first | done | with_reducible rfl
  rotate_left
  · simp only [Act.put, List.setIfInBounds_toArray, List.set_cons_zero, List.set_cons_succ, i64_w, i32_w]; rfl
  refine one_ (i := 2) (N := (some 7)) #[true, true, true, false] rfl rfl (by kernel_rfl) (by decide) (fun K hK => ?_)
  refine goes_ Tryd.func78 (by kernel_rfl) rfl #[.slice (some ⟨w.heap.size, 0, none⟩) 2 2, .slice (some ⟨w.heap.size + 1, 0, none⟩) 2 2] (by rfl) rfl rfl (by (try simp only [List.map_toArray, List.map_cons, List.map_nil]); first | done | rfl) ?_
  refine (PC.slices_Compare_int_int.calls 3 _ 2 [a, b] _ 2 [c, d] _ _ HC0.out (Nat.le_refl 2) HC1.out (Nat.le_refl 2) (compare_f a b c d)).mono ?_
  rintro e w2 ⟨rfl, nd, rfl⟩
  refine ⟨_, rfl, ?_⟩
  refine hK.out _ _ trivial (fun hHeld => ?_)
  clear hK K
  refine norm_ (a' := ?_) ?_ ?_
  rotate_left
  · show Act.put _ (some 7) _ = _; simp only [Act.put, List.setIfInBounds_toArray, List.set_cons_zero, List.set_cons_succ, i64_w, i32_w]; rfl
  refine pure_ (i := 3) (N := (some 4)) (v := ?_) (a' := ?_) #[true, true, true, true] rfl rfl (by kernel_rfl) (fun _ _ _ h => h) (Or.inl ⟨by rfl, ?_⟩) ?_ ?_
  rotate_left
  · intro w'; go_simp; first | done | with_reducible rfl
  rotate_left
  · simp only [Act.put, List.setIfInBounds_toArray, List.set_cons_zero, List.set_cons_succ, i64_w, i32_w]; rfl
  refine done_ (by kernel_rfl) ?_
  go_wp2
  go_ret
  exact ⟨rfl, pw_below_drewN HB.out nd⟩
end Go.Proofs.YtpfenoioeajkmaaDoor.X
end

section
set_option linter.unusedVariables false
set_option linter.unusedSimpArgs false
namespace Go.Proofs.YtpfenoioeajkmaaDoor.X
open Go.RowKit Go.Proofs.YtpfenoioeajkmaaDoorW.PrintWords Go.Proofs.YtpfenoioeajkmaaDoorW.PrintLast Go.Proofs.YtpfenoioeajkmaaDoorW.PrintMore
section
variable {P : Program} {md : Region.Mode} {ops : Array Oper} {Q : Exit → Act → World → Prop} {S : World → Prop} {ds : List Nat}
theorem off_ {i : Nat} {N : Option Tmp} {oi : Oper} {fuel : Nat} {l : Array Bool} {a : Act} {w : World} (l' : Array Bool) (hi : ops[i]? = some oi) (hN : oi.dst = N) (hc : anyB md ops l l' i = true)
    (hQ : ∀ c a w, Q (.panic c) (a.put oi.dst undef) w → Q (.panic c) a w) (hw : Region.wanted oi (yielded ops a.tmps) = false) {a' : Act} (ha : a.put N undef = a')
    (h : wpAnyLast P md ops Q S ds fuel l' a' w) : wpAnyLast P md ops Q S ds (fuel + 1) l a w := pure_ l' hi hN hc hQ (Or.inr ⟨hw, rfl⟩) ha h
end
structure Pts (w : World) (b off n : Nat) (x y : Nat → Int) : Prop where
  c0 : ∀ i : Nat, i < n → w.cell? ⟨b, off + i * 2, none⟩ = some (.int .i64 (x i))
  c1 : ∀ i : Nat, i < n → w.cell? ⟨b, off + i * 2 + 1, none⟩ = some (.int .i64 (y i))
theorem Pts.later {w w' : World} {b off n : Nat} {x y : Nat → Int} (h : Pts w b off n x y) (hb : Below w.heap.size w w') : Pts w' b off n x y :=
  ⟨fun i hi => (hb.cell (p := ⟨b, off + i * 2, none⟩) (World.block_lt_of_cell? w _ (h.c0 i hi))).trans (h.c0 i hi), fun i hi => (hb.cell (p := ⟨b, off + i * 2 + 1, none⟩) (World.block_lt_of_cell? w _ (h.c1 i hi))).trans (h.c1 i hi)⟩
theorem Pts.less {w : World} {b off n m : Nat} {x y : Nat → Int} (h : Pts w b off n x y) (hm : m ≤ n) : Pts w b off m x y := ⟨fun i hi => h.c0 i (by omega), fun i hi => h.c1 i (by omega)⟩
def flat (x y : Nat → Int) : Nat → List Value
  | 0 => []
  | k + 1 => flat x y k ++ [.int .i64 (x k), .int .i64 (y k)]
theorem flat_length (x y : Nat → Int) : ∀ k, (flat x y k).length = k * 2
  | 0 => rfl
  | k + 1 => by rw [flat, List.length_append, flat_length x y k]; simp; omega
theorem flat_get (x y : Nat → Int) : ∀ k i, i < k → (flat x y k)[i * 2]? = some (.int .i64 (x i)) ∧ (flat x y k)[i * 2 + 1]? = some (.int .i64 (y i))
  | 0, i, h => by omega
  | k + 1, i, h => by
    have hl := flat_length x y k
    rw [flat]
    by_cases e : i = k
    · subst e
      rw [List.getElem?_append_right (by omega), List.getElem?_append_right (by omega), hl]
      simp
    · rw [List.getElem?_append_left (by omega), List.getElem?_append_left (by omega)]
      exact flat_get x y k i (by omega)
theorem own_pts {w : World} {base e n : Nat} {v : Value} {x y : Nat → Int} (h : w.ownsRow base e 2 v n (flat x y n)) :
    (v = .slice none 0 0 ∧ n = 0) ∨ ∃ g cap, v = .slice (some ⟨g, 0, none⟩) n cap ∧ base ≤ g ∧ g < w.heap.size ∧ n ≤ cap ∧ Pts w g 0 n x y := by
  obtain ⟨_, h | ⟨g, cap, cur, rfl, hg, hb, hn, _, hs, ht⟩⟩ := h
  · exact .inl h
  · refine .inr ⟨g, cap, rfl, hg, (Array.getElem?_eq_some_iff.1 hb).1, hn, ?_⟩
    have key : ∀ j u, (flat x y n)[j]? = some u → j < n * 2 → w.cell? ⟨g, 0 + j, none⟩ = some u := fun j u hu hj => by
      rw [← ht, List.getElem?_take, if_pos hj] at hu
      have hu' : cur[j]? = some u := by simpa using hu
      rw [Nat.zero_add]
      unfold World.cell?
      simp only [hb]
      simpa using hu'
    exact ⟨fun i hi => key _ _ (flat_get x y n i hi).1 (by omega), fun i hi => by rw [Nat.add_assoc]; exact key _ _ (flat_get x y n i hi).2 (by omega)⟩
theorem info63 : (Tryd.prog.info? 63).map (fun i => (i.zero, i.size, i.bytes)) = some (some (.agg #[.int .i64 0, .int .i64 0]), 2, 16) := by kernel_rfl
theorem two_new (w : World) (t : TypeId) (u v : Value) : ∀ (j : Nat) z, ([u, v] : List Value)[j]? = some z → (w.alloc (.cells #[u, v] t)).cell? ((⟨w.heap.size, 0, none⟩ : Addr).add j) = some z := fun j z hz => by
  have hj : j = 0 ∨ j = 1 := by
    have := (List.getElem?_eq_some_iff.1 hz).1
    simp at this
    omega
  rcases hj with rfl | rfl
  · simp at hz
    simp [Addr.add, hz]
  · simp at hz
    simp [Addr.add, hz]
theorem own_grow {B : Nat} {u w w1 : World} {e n : Nat} {v : Value} {xs : List Value} (hb : Below B u w) (hs : w.ownsRow u.heap.size e 2 v n xs) (hg : w.grownBy w1 v.ownBlock) (hB : B = u.heap.size := by rfl) : Below B u w1 := by
  subst hB
  refine hb.grown hg hb.size fun k hk => ?_
  obtain ⟨_, ⟨h, _⟩ | ⟨g, cap, cur, h, h2, _⟩⟩ := hs
  · rw [h] at hk
    simp [Value.ownBlock] at hk
  · rw [h] at hk
    simp [Value.ownBlock] at hk
    omega
def goodTo (x y : Nat → Int) : Nat → Bool
  | 0 => true
  | k + 1 => goodTo x y k && (decide (-100 ≤ x k ∧ x k ≤ 100 ∧ -100 ≤ y k ∧ y k ≤ 100) && (k == 0 || decide (cmpP (x (k - 1)) (y (k - 1)) (x k) (y k) < 0)))
theorem goodTo_less {x y : Nat → Int} : ∀ d k, goodTo x y (k + d) = true → goodTo x y k = true
  | 0, k, h => h
  | d + 1, k, h => by
    rw [← Nat.add_assoc, goodTo, Bool.and_eq_true] at h
    exact goodTo_less d k h.1
theorem goodTo_at {x y : Nat → Int} {n k : Nat} (h : goodTo x y n = true) (hk : k < n) : (-100 ≤ x k ∧ x k ≤ 100 ∧ -100 ≤ y k ∧ y k ≤ 100) ∧ (k = 0 ∨ cmpP (x (k - 1)) (y (k - 1)) (x k) (y k) < 0) := by
  have h1 := goodTo_less (n - (k + 1)) (k + 1) (x := x) (y := y) (by rw [show k + 1 + (n - (k + 1)) = n by omega]; exact h)
  rw [goodTo, Bool.and_eq_true, Bool.and_eq_true, Bool.or_eq_true, decide_eq_true_eq, decide_eq_true_eq, beq_iff_eq] at h1
  exact h1.2
theorem goodTo_next {x y : Nat → Int} {k : Nat} (h : goodTo x y k = true) (hk : (-100 ≤ x k ∧ x k ≤ 100 ∧ -100 ≤ y k ∧ y k ≤ 100) ∧ (k = 0 ∨ cmpP (x (k - 1)) (y (k - 1)) (x k) (y k) < 0)) : goodTo x y (k + 1) = true := by
  rw [goodTo, Bool.and_eq_true, Bool.and_eq_true, Bool.or_eq_true, decide_eq_true_eq, decide_eq_true_eq, beq_iff_eq]
  exact ⟨h, hk⟩
theorem goodTo_bad {x y : Nat → Int} {n k : Nat} (hk : k < n) (h : ¬ ((-100 ≤ x k ∧ x k ≤ 100 ∧ -100 ≤ y k ∧ y k ≤ 100) ∧ (k = 0 ∨ cmpP (x (k - 1)) (y (k - 1)) (x k) (y k) < 0))) : goodTo x y n = false := by
  rw [Bool.eq_false_iff]
  exact fun q => h (goodTo_at q hk)
set_option maxHeartbeats 16000000 in
set_option maxRecDepth 100000 in
theorem read_any (A : Option Addr) (n c : Nat) (x y : Nat → Int) (w : World) (hA : 0 < n → ∃ b off, A = some ⟨b, off, none⟩ ∧ Pts w b off n x y) (hn : 1 ≤ n ∧ n ≤ 30) :
    Calls Tryd.prog 62 #[.slice A n c] w fun e w' => ((goodTo x y n = true ∧ ∃ v, e = .returned (.tuple #[v, .bool true]) ∧ w'.ownsRow w.heap.size 63 2 v n (flat x y n)) ∨ (goodTo x y n = false ∧ e = .returned (.tuple #[.slice none 0 0, .bool false]))) ∧ Below w.heap.size w w' := by
  obtain ⟨b, off, rfl, hP⟩ := hA (by omega)
  have HP := Lib.hid hP
  clear hA hP
  have hn1 : ¬ (n : Int) < 1 := by omega
  have hn2 : ¬ (n : Int) > 30 := by omega
  go_enter Tryd.func62, Tryd.ntmps62
  go_wp2_with fail
  have HB := Lib.hid (Below.refl w.heap.size w)
  have HO := Lib.hid (World.ownsRow_nil w w.heap.size 63 2)
  go_loopw [17, 4] (fun i v wr => ∃ k : Nat, k ≤ n ∧ i = .int .i64 k ∧ Hid (goodTo x y k = true) ∧ Hid (wr.ownsRow w.heap.size 63 2 v k (flat x y k)) ∧ Hid (Below w.heap.size w wr)) (fun i _ _ => n - (intOf i).toNat)
  case atStart => exact ⟨0, by omega, rfl, Lib.hid rfl, HO, HB⟩
  case round =>
    clear HO HB
    obtain ⟨k, hk, rfl, HG, HO, HB⟩ := hrel
    by_cases hlt : k < n
    · have hP := HP.out.later HB.out
      have h0 := hP.c0 k hlt
      have h1 := hP.c1 k hlt
      go_wp2_with fail
      have hP := HP.out.later HB.out
      obtain ⟨wa, hwa⟩ : ∃ wa, wa = wr.alloc (.cells #[.int .i64 (x k), .int .i64 (y k)] 29) := ⟨_, rfl⟩
      have q0 : wa.cell? ⟨wr.heap.size, 0, none⟩ = some (.int .i64 (x k)) := by rw [hwa]; simp
      have q1 : wa.cell? ⟨wr.heap.size, 1, none⟩ = some (.int .i64 (y k)) := by rw [hwa]; simp
      have hba : Below wr.heap.size wr wa := by rw [hwa]; exact below_one _
      have HBA := Lib.hid (HB.out.trans (hba.mono HB.out.size))
      have HOA := Lib.hid (pw_own_below HO.out hba)
      have HPA := Lib.hid (hP.later hba)
      rw [← hwa]
      clear hwa hba hP
      generalize wr.heap.size = G at q0 q1 ⊢
      by_cases hgk : (-100 ≤ x k ∧ x k ≤ 100 ∧ -100 ≤ y k ∧ y k ≤ 100) ∧ (k = 0 ∨ cmpP (x (k - 1)) (y (k - 1)) (x k) (y k) < 0)
      · have HGK := Lib.hid hgk
        obtain ⟨hx, hxy⟩ := hgk
        have e1 : max (x k) (y k) ≤ 100 := by omega
        have e2 : -100 ≤ min (x k) (y k) := by omega
        rcases Nat.eq_zero_or_pos k with hk0 | hk0
        · subst hk0
          refine start_ (n := 28) (S := fun w' => w'.cell? ⟨G, 0, none⟩ = some (.int .i64 (x 0)) ∧ w'.cell? ⟨G, 1, none⟩ = some (.int .i64 (y 0))) (ds := []) #[false, false, false, false, false, false, false, false, false, false, false, false, false, false, false, false, false, false, false, false, false, false, false, false, false, false, false, false] (by kernel_rfl) rfl rfl ⟨by simpa using q0, by simpa using q1⟩ (fun hHeld => ?_)
          refine pure_ (i := 0) (N := (some 22)) (v := ?_) (a' := ?_) #[true, false, false, false, false, false, false, false, false, false, false, false, false, false, false, false, false, false, false, false, false, false, false, false, false, false, false, false] rfl rfl (by kernel_rfl) (fun _ _ _ h => h) (Or.inl ⟨by rfl, ?_⟩) ?_ ?_
          rotate_left
          · intro w'; go_simp; first | done | with_reducible rfl
          rotate_left
          · simp only [Act.put, List.setIfInBounds_toArray, List.set_cons_zero, List.set_cons_succ, i64_w, i32_w]; rfl
          refine take_ (i := 1) (N := (some 23)) (v := ?_) (a' := ?_) #[true, true, false, false, false, false, false, false, false, false, false, false, false, false, false, false, false, false, false, false, false, false, false, false, false, false, false, false] rfl rfl (by kernel_rfl) (fun _ _ _ h => h) (Or.inl ⟨by rfl, ?_⟩) hHeld ?_ ?_
          rotate_left
          · rintro w' ⟨s0, s1⟩; go_simp; first | done | with_reducible rfl
          rotate_left
          · simp only [Act.put, List.setIfInBounds_toArray, List.set_cons_zero, List.set_cons_succ, i64_w, i32_w]; rfl
          refine pure_ (i := 2) (N := (some 24)) (v := ?_) (a' := ?_) #[true, true, true, false, false, false, false, false, false, false, false, false, false, false, false, false, false, false, false, false, false, false, false, false, false, false, false, false] rfl rfl (by kernel_rfl) (fun _ _ _ h => h) (Or.inl ⟨by rfl, ?_⟩) ?_ ?_
          rotate_left
          · intro w'; go_simp; first | done | with_reducible rfl
          rotate_left
          · simp only [Act.put, List.setIfInBounds_toArray, List.set_cons_zero, List.set_cons_succ, i64_w, i32_w]; rfl
          refine take_ (i := 3) (N := (some 25)) (v := ?_) (a' := ?_) #[true, true, true, true, false, false, false, false, false, false, false, false, false, false, false, false, false, false, false, false, false, false, false, false, false, false, false, false] rfl rfl (by kernel_rfl) (fun _ _ _ h => h) (Or.inl ⟨by rfl, ?_⟩) hHeld ?_ ?_
          rotate_left
          · rintro w' ⟨s0, s1⟩; go_simp; first | done | with_reducible rfl
          rotate_left
          · simp only [Act.put, List.setIfInBounds_toArray, List.set_cons_zero, List.set_cons_succ, i64_w, i32_w]; rfl
          refine pure_ (i := 4) (N := (some 26)) (v := ?_) (a' := ?_) #[true, true, true, true, true, false, false, false, false, false, false, false, false, false, false, false, false, false, false, false, false, false, false, false, false, false, false, false] rfl rfl (by kernel_rfl) (fun _ _ _ h => h) (Or.inl ⟨by rfl, ?_⟩) ?_ ?_
          rotate_left
          · intro w'; go_simp; first | done | with_reducible rfl
          rotate_left
          · simp only [Act.put, List.setIfInBounds_toArray, List.set_cons_zero, List.set_cons_succ, i64_w, i32_w]; rfl
          refine pure_ (i := 5) (N := (some 27)) (v := (.bool false)) (a' := ?_) #[true, true, true, true, true, true, false, false, false, false, false, false, false, false, false, false, false, false, false, false, false, false, false, false, false, false, false, false] rfl rfl (by kernel_rfl) (fun _ _ _ h => h) (Or.inl ⟨by rfl, ?_⟩) ?_ ?_
          · intro w'; go_simp; first | done | with_reducible rfl
          rotate_left
          · simp only [Act.put, List.setIfInBounds_toArray, List.set_cons_zero, List.set_cons_succ, i64_w, i32_w]; rfl
          refine pure_ (i := 6) (N := (some 28)) (v := ?_) (a' := ?_) #[true, true, true, true, true, true, true, false, false, false, false, false, false, false, false, false, false, false, false, false, false, false, false, false, false, false, false, false] rfl rfl (by kernel_rfl) (fun _ _ _ h => h) (Or.inl ⟨by rfl, ?_⟩) ?_ ?_
          rotate_left
          · intro w'; go_simp; first | done | with_reducible rfl
          rotate_left
          · simp only [Act.put, List.setIfInBounds_toArray, List.set_cons_zero, List.set_cons_succ, i64_w, i32_w]; rfl
          refine pure_ (i := 7) (N := (some 29)) (v := ?_) (a' := ?_) #[true, true, true, true, true, true, true, true, false, false, false, false, false, false, false, false, false, false, false, false, false, false, false, false, false, false, false, false] rfl rfl (by kernel_rfl) (fun _ _ _ h => h) (Or.inl ⟨by rfl, ?_⟩) ?_ ?_
          rotate_left
          · intro w'; go_simp; first | done | with_reducible rfl
          rotate_left
          · simp only [Act.put, List.setIfInBounds_toArray, List.set_cons_zero, List.set_cons_succ, i64_w, i32_w]; rfl
          refine take_ (i := 8) (N := (some 30)) (v := ?_) (a' := ?_) #[true, true, true, true, true, true, true, true, true, false, false, false, false, false, false, false, false, false, false, false, false, false, false, false, false, false, false, false] rfl rfl (by kernel_rfl) (fun _ _ _ h => h) (Or.inl ⟨by rfl, ?_⟩) hHeld ?_ ?_
          rotate_left
          · rintro w' ⟨s0, s1⟩; go_simp; first | done | with_reducible rfl
          rotate_left
          · simp only [Act.put, List.setIfInBounds_toArray, List.set_cons_zero, List.set_cons_succ, i64_w, i32_w]; rfl
          refine pure_ (i := 9) (N := (some 31)) (v := ?_) (a' := ?_) #[true, true, true, true, true, true, true, true, true, true, false, false, false, false, false, false, false, false, false, false, false, false, false, false, false, false, false, false] rfl rfl (by kernel_rfl) (fun _ _ _ h => h) (Or.inl ⟨by rfl, ?_⟩) ?_ ?_
          rotate_left
          · intro w'; go_simp; first | done | with_reducible rfl
          rotate_left
          · simp only [Act.put, List.setIfInBounds_toArray, List.set_cons_zero, List.set_cons_succ, i64_w, i32_w]; rfl
          refine take_ (i := 10) (N := (some 32)) (v := ?_) (a' := ?_) #[true, true, true, true, true, true, true, true, true, true, true, false, false, false, false, false, false, false, false, false, false, false, false, false, false, false, false, false] rfl rfl (by kernel_rfl) (fun _ _ _ h => h) (Or.inl ⟨by rfl, ?_⟩) hHeld ?_ ?_
          rotate_left
          · rintro w' ⟨s0, s1⟩; go_simp; first | done | with_reducible rfl
          rotate_left
          · simp only [Act.put, List.setIfInBounds_toArray, List.set_cons_zero, List.set_cons_succ, i64_w, i32_w]; rfl
          refine pure_ (i := 11) (N := (some 33)) (v := ?_) (a' := ?_) #[true, true, true, true, true, true, true, true, true, true, true, true, false, false, false, false, false, false, false, false, false, false, false, false, false, false, false, false] rfl rfl (by kernel_rfl) (fun _ _ _ h => h) (Or.inl ⟨by rfl, ?_⟩) ?_ ?_
          rotate_left
          · intro w'; go_simp; first | done | with_reducible rfl
          rotate_left
          · simp only [Act.put, List.setIfInBounds_toArray, List.set_cons_zero, List.set_cons_succ, i64_w, i32_w]; rfl
          refine pure_ (i := 12) (N := (some 34)) (v := (.bool false)) (a' := ?_) #[true, true, true, true, true, true, true, true, true, true, true, true, true, false, false, false, false, false, false, false, false, false, false, false, false, false, false, false] rfl rfl (by kernel_rfl) (fun _ _ _ h => h) (Or.inl ⟨by rfl, ?_⟩) ?_ ?_
          · intro w'; go_simp; first | done | with_reducible rfl
          rotate_left
          · simp only [Act.put, List.setIfInBounds_toArray, List.set_cons_zero, List.set_cons_succ, i64_w, i32_w]; rfl
          refine pure_ (i := 13) (N := (some 35)) (v := ?_) (a' := ?_) #[true, true, true, true, true, true, true, true, true, true, true, true, true, true, false, false, false, false, false, false, false, false, false, false, false, false, false, false] rfl rfl (by kernel_rfl) (fun _ _ _ h => h) (Or.inl ⟨by rfl, ?_⟩) ?_ ?_
          rotate_left
          · intro w'; go_simp; first | done | with_reducible rfl
          rotate_left
          · simp only [Act.put, List.setIfInBounds_toArray, List.set_cons_zero, List.set_cons_succ, i64_w, i32_w]; rfl
          refine pure_ (i := 14) (N := (some 36)) (v := ?_) (a' := ?_) #[true, true, true, true, true, true, true, true, true, true, true, true, true, true, true, false, false, false, false, false, false, false, false, false, false, false, false, false] rfl rfl (by kernel_rfl) (fun _ _ _ h => h) (Or.inl ⟨by rfl, ?_⟩) ?_ ?_
          rotate_left
          · intro w'; go_simp; first | done | with_reducible rfl
          rotate_left
          · simp only [Act.put, List.setIfInBounds_toArray, List.set_cons_zero, List.set_cons_succ, i64_w, i32_w]; rfl
          refine pure_ (i := 15) (N := (some 37)) (v := ?_) (a' := ?_) #[true, true, true, true, true, true, true, true, true, true, true, true, true, true, true, true, false, false, false, false, false, false, false, false, false, false, false, false] rfl rfl (by kernel_rfl) (fun _ _ _ h => h) (Or.inl ⟨by rfl, ?_⟩) ?_ ?_
          rotate_left
          · intro w'; go_simp; first | done | with_reducible rfl
          rotate_left
          · simp only [Act.put, List.setIfInBounds_toArray, List.set_cons_zero, List.set_cons_succ, i64_w, i32_w]; rfl
          refine pure_ (i := 16) (N := (some 38)) (v := ?_) (a' := ?_) #[true, true, true, true, true, true, true, true, true, true, true, true, true, true, true, true, true, false, false, false, false, false, false, false, false, false, false, false] rfl rfl (by kernel_rfl) (fun _ _ _ h => h) (Or.inl ⟨by rfl, ?_⟩) ?_ ?_
          rotate_left
          · intro w'; go_simp; first | done | with_reducible rfl
          rotate_left
          · simp only [Act.put, List.setIfInBounds_toArray, List.set_cons_zero, List.set_cons_succ, i64_w, i32_w]; rfl
          refine pure_ (i := 17) (N := (some 39)) (v := ?_) (a' := ?_) #[true, true, true, true, true, true, true, true, true, true, true, true, true, true, true, true, true, true, false, false, false, false, false, false, false, false, false, false] rfl rfl (by kernel_rfl) (fun _ _ _ h => h) (Or.inl ⟨by rfl, ?_⟩) ?_ ?_
          rotate_left
          · intro w'; go_simp; first | done | with_reducible rfl
          rotate_left
          · simp only [Act.put, List.setIfInBounds_toArray, List.set_cons_zero, List.set_cons_succ, i64_w, i32_w]; rfl
          refine off_ (i := 18) (N := (some 40)) #[true, true, true, true, true, true, true, true, true, true, true, true, true, true, true, true, true, true, true, false, false, false, false, false, false, false, false, false] rfl rfl (by kernel_rfl) (fun _ _ _ h => h) (by rfl) (by simp only [Act.put, List.setIfInBounds_toArray, List.set_cons_zero, List.set_cons_succ, i64_w, i32_w]; rfl) ?_
          refine off_ (i := 19) (N := (some 41)) #[true, true, true, true, true, true, true, true, true, true, true, true, true, true, true, true, true, true, true, true, false, false, false, false, false, false, false, false] rfl rfl (by kernel_rfl) (fun _ _ _ h => h) (by rfl) (by simp only [Act.put, List.setIfInBounds_toArray, List.set_cons_zero, List.set_cons_succ, i64_w, i32_w]; rfl) ?_
          refine off_ (i := 20) (N := (some 42)) #[true, true, true, true, true, true, true, true, true, true, true, true, true, true, true, true, true, true, true, true, true, false, false, false, false, false, false, false] rfl rfl (by kernel_rfl) (fun _ _ _ h => h) (by rfl) (by simp only [Act.put, List.setIfInBounds_toArray, List.set_cons_zero, List.set_cons_succ, i64_w, i32_w]; rfl) ?_
          refine off_ (i := 21) (N := (some 43)) #[true, true, true, true, true, true, true, true, true, true, true, true, true, true, true, true, true, true, true, true, true, true, false, false, false, false, false, false] rfl rfl (by kernel_rfl) (fun _ _ _ h => h) (by rfl) (by simp only [Act.put, List.setIfInBounds_toArray, List.set_cons_zero, List.set_cons_succ, i64_w, i32_w]; rfl) ?_
          refine off_ (i := 22) (N := (some 44)) #[true, true, true, true, true, true, true, true, true, true, true, true, true, true, true, true, true, true, true, true, true, true, true, false, false, false, false, false] rfl rfl (by kernel_rfl) (fun _ _ _ h => h) (by rfl) (by simp only [Act.put, List.setIfInBounds_toArray, List.set_cons_zero, List.set_cons_succ, i64_w, i32_w]; rfl) ?_
          refine off_ (i := 23) (N := (some 45)) #[true, true, true, true, true, true, true, true, true, true, true, true, true, true, true, true, true, true, true, true, true, true, true, true, false, false, false, false] rfl rfl (by kernel_rfl) (fun _ _ _ h => h) (by rfl) (by simp only [Act.put, List.setIfInBounds_toArray, List.set_cons_zero, List.set_cons_succ, i64_w, i32_w]; rfl) ?_
          refine off_ (i := 24) (N := (some 46)) #[true, true, true, true, true, true, true, true, true, true, true, true, true, true, true, true, true, true, true, true, true, true, true, true, true, false, false, false] rfl rfl (by kernel_rfl) (fun _ _ _ h => h) (by rfl) (by simp only [Act.put, List.setIfInBounds_toArray, List.set_cons_zero, List.set_cons_succ, i64_w, i32_w]; rfl) ?_
          refine off_ (i := 25) (N := (some 47)) #[true, true, true, true, true, true, true, true, true, true, true, true, true, true, true, true, true, true, true, true, true, true, true, true, true, true, false, false] rfl rfl (by kernel_rfl) (fun _ _ _ h => h) (by rfl) (by simp only [Act.put, List.setIfInBounds_toArray, List.set_cons_zero, List.set_cons_succ, i64_w, i32_w]; rfl) ?_
          refine pure_ (i := 26) (N := (some 48)) (v := ?_) (a' := ?_) #[true, true, true, true, true, true, true, true, true, true, true, true, true, true, true, true, true, true, true, true, true, true, true, true, true, true, true, false] rfl rfl (by kernel_rfl) (fun _ _ _ h => h) (Or.inl ⟨by rfl, ?_⟩) ?_ ?_
          rotate_left
          · intro w'; go_simp; first | done | with_reducible rfl
          rotate_left
          · simp only [Act.put, List.setIfInBounds_toArray, List.set_cons_zero, List.set_cons_succ, i64_w, i32_w]; rfl
          refine pure_ (i := 27) (N := (some 49)) (v := ?_) (a' := ?_) #[true, true, true, true, true, true, true, true, true, true, true, true, true, true, true, true, true, true, true, true, true, true, true, true, true, true, true, true] rfl rfl (by kernel_rfl) (fun _ _ _ h => h) (Or.inl ⟨by rfl, ?_⟩) ?_ ?_
          rotate_left
          · intro w'; go_simp; first | done | with_reducible rfl
          rotate_left
          · simp only [Act.put, List.setIfInBounds_toArray, List.set_cons_zero, List.set_cons_succ, i64_w, i32_w]; rfl
          refine done_ (by kernel_rfl) ?_
          have q0' : wa.drew.cell? ⟨G, 0, none⟩ = some (.int .i64 (x 0)) := by simpa using q0
          have q1' : wa.drew.cell? ⟨G, 1, none⟩ = some (.int .i64 (y 0)) := by simpa using q1
          have HBD := Lib.hid HBA.out.drew
          have HOD := Lib.hid (pw_own_below HOA.out (Below.refl _ wa).drew)
          clear q0 q1 HBA HOA h0 h1 e1 e2 hHeld
          generalize wa.drew = wd at q0' q1' HBD HOD ⊢
          obtain ⟨i0, hi0, hz0, hz1, hz2⟩ := info_parts info63
          have HBD2 := Lib.hid (HBD.out.trans ((below_one (w := wd) (.cells #[.int .i64 (x 0), .int .i64 (y 0)] 63)).mono HBD.out.size))
          have HOE := Lib.hid (pw_own_below HOD.out (below_one (w := wd) (.cells #[.int .i64 (x 0), .int .i64 (y 0)] 63)))
          have HI := Lib.hid hi0
          have HZ := Lib.hid (And.intro hz0 (And.intro hz1 hz2))
          clear hi0 hz0 hz1 hz2
          go_wp2_with (first | (at_builtin; go_loud (refine wpList_append_own_at _ rfl (.tmp 50) (.tmp 52) 67 rfl w.heap.size 63 i0 _ 2 16 Tryd.underlying67 HI.out HZ.out.1 HZ.out.2.1 HZ.out.2.2 rfl (by decide) u4 0 (flat x y 0) rfl HOE.out ⟨wd.heap.size, 0, none⟩ 1 1 [.int .i64 (x 0), .int .i64 (y 0)] rfl rfl (two_new _ _ _ _) (by simp [Value.oneCell']) (by decide) (by decide) HBD2.out.size ?_); intro v1 w1 hown1 hgrow1 _ _; have HOF := Lib.hid hown1; have HBF := Lib.hid (own_grow HBD2.out HOE.out hgrow1); clear hown1 hgrow1) | go_in)
          refine ⟨⟨0 + 1, by omega, by go_num, Lib.hid (goodTo_next HG.out HGK.out), HOF, HBF⟩, by simp [intOf]; omega⟩
        · obtain ⟨m, rfl⟩ : ∃ m, k = m + 1 := ⟨k - 1, by omega⟩
          have hpm := HPA.out
          have q2 := hpm.c0 m (by omega)
          have q3 := hpm.c1 m (by omega)
          have hmn : m < n := by omega
          have e3 : cmpP (x m) (y m) (x (m + 1)) (y (m + 1)) < 0 := by
            rcases hxy with h | h
            · omega
            · simpa using h
          have hwm : wrap64 (m : Int) = m := by unfold wrap64; omega
          clear hpm hxy
          refine start_ (n := 28) (S := fun w' => w'.cell? ⟨G, 0, none⟩ = some (.int .i64 (x (m + 1))) ∧ w'.cell? ⟨G, 1, none⟩ = some (.int .i64 (y (m + 1))) ∧ w'.cell? ⟨b, off + m * 2, none⟩ = some (.int .i64 (x m)) ∧ w'.cell? ⟨b, off + m * 2 + 1, none⟩ = some (.int .i64 (y m))) (ds := []) #[false, false, false, false, false, false, false, false, false, false, false, false, false, false, false, false, false, false, false, false, false, false, false, false, false, false, false, false] (by kernel_rfl) rfl rfl ⟨by simpa using q0, by simpa using q1, by simpa using q2, by simpa using q3⟩ (fun hHeld => ?_)
          refine pure_ (i := 0) (N := (some 22)) (v := ?_) (a' := ?_) #[true, false, false, false, false, false, false, false, false, false, false, false, false, false, false, false, false, false, false, false, false, false, false, false, false, false, false, false] rfl rfl (by kernel_rfl) (fun _ _ _ h => h) (Or.inl ⟨by rfl, ?_⟩) ?_ ?_
          rotate_left
          · intro w'; go_simp; first | done | with_reducible rfl
          rotate_left
          · simp only [Act.put, List.setIfInBounds_toArray, List.set_cons_zero, List.set_cons_succ, i64_w, i32_w]; rfl
          refine take_ (i := 1) (N := (some 23)) (v := ?_) (a' := ?_) #[true, true, false, false, false, false, false, false, false, false, false, false, false, false, false, false, false, false, false, false, false, false, false, false, false, false, false, false] rfl rfl (by kernel_rfl) (fun _ _ _ h => h) (Or.inl ⟨by rfl, ?_⟩) hHeld ?_ ?_
          rotate_left
          · rintro w' ⟨s0, s1, s2, s3⟩; go_simp; first | done | with_reducible rfl
          rotate_left
          · simp only [Act.put, List.setIfInBounds_toArray, List.set_cons_zero, List.set_cons_succ, i64_w, i32_w]; rfl
          refine pure_ (i := 2) (N := (some 24)) (v := ?_) (a' := ?_) #[true, true, true, false, false, false, false, false, false, false, false, false, false, false, false, false, false, false, false, false, false, false, false, false, false, false, false, false] rfl rfl (by kernel_rfl) (fun _ _ _ h => h) (Or.inl ⟨by rfl, ?_⟩) ?_ ?_
          rotate_left
          · intro w'; go_simp; first | done | with_reducible rfl
          rotate_left
          · simp only [Act.put, List.setIfInBounds_toArray, List.set_cons_zero, List.set_cons_succ, i64_w, i32_w]; rfl
          refine take_ (i := 3) (N := (some 25)) (v := ?_) (a' := ?_) #[true, true, true, true, false, false, false, false, false, false, false, false, false, false, false, false, false, false, false, false, false, false, false, false, false, false, false, false] rfl rfl (by kernel_rfl) (fun _ _ _ h => h) (Or.inl ⟨by rfl, ?_⟩) hHeld ?_ ?_
          rotate_left
          · rintro w' ⟨s0, s1, s2, s3⟩; go_simp; first | done | with_reducible rfl
          rotate_left
          · simp only [Act.put, List.setIfInBounds_toArray, List.set_cons_zero, List.set_cons_succ, i64_w, i32_w]; rfl
          refine pure_ (i := 4) (N := (some 26)) (v := ?_) (a' := ?_) #[true, true, true, true, true, false, false, false, false, false, false, false, false, false, false, false, false, false, false, false, false, false, false, false, false, false, false, false] rfl rfl (by kernel_rfl) (fun _ _ _ h => h) (Or.inl ⟨by rfl, ?_⟩) ?_ ?_
          rotate_left
          · intro w'; go_simp; first | done | with_reducible rfl
          rotate_left
          · simp only [Act.put, List.setIfInBounds_toArray, List.set_cons_zero, List.set_cons_succ, i64_w, i32_w]; rfl
          refine pure_ (i := 5) (N := (some 27)) (v := (.bool false)) (a' := ?_) #[true, true, true, true, true, true, false, false, false, false, false, false, false, false, false, false, false, false, false, false, false, false, false, false, false, false, false, false] rfl rfl (by kernel_rfl) (fun _ _ _ h => h) (Or.inl ⟨by rfl, ?_⟩) ?_ ?_
          · intro w'; go_simp; first | done | with_reducible rfl
          rotate_left
          · simp only [Act.put, List.setIfInBounds_toArray, List.set_cons_zero, List.set_cons_succ, i64_w, i32_w]; rfl
          refine pure_ (i := 6) (N := (some 28)) (v := ?_) (a' := ?_) #[true, true, true, true, true, true, true, false, false, false, false, false, false, false, false, false, false, false, false, false, false, false, false, false, false, false, false, false] rfl rfl (by kernel_rfl) (fun _ _ _ h => h) (Or.inl ⟨by rfl, ?_⟩) ?_ ?_
          rotate_left
          · intro w'; go_simp; first | done | with_reducible rfl
          rotate_left
          · simp only [Act.put, List.setIfInBounds_toArray, List.set_cons_zero, List.set_cons_succ, i64_w, i32_w]; rfl
          refine pure_ (i := 7) (N := (some 29)) (v := ?_) (a' := ?_) #[true, true, true, true, true, true, true, true, false, false, false, false, false, false, false, false, false, false, false, false, false, false, false, false, false, false, false, false] rfl rfl (by kernel_rfl) (fun _ _ _ h => h) (Or.inl ⟨by rfl, ?_⟩) ?_ ?_
          rotate_left
          · intro w'; go_simp; first | done | with_reducible rfl
          rotate_left
          · simp only [Act.put, List.setIfInBounds_toArray, List.set_cons_zero, List.set_cons_succ, i64_w, i32_w]; rfl
          refine take_ (i := 8) (N := (some 30)) (v := ?_) (a' := ?_) #[true, true, true, true, true, true, true, true, true, false, false, false, false, false, false, false, false, false, false, false, false, false, false, false, false, false, false, false] rfl rfl (by kernel_rfl) (fun _ _ _ h => h) (Or.inl ⟨by rfl, ?_⟩) hHeld ?_ ?_
          rotate_left
          · rintro w' ⟨s0, s1, s2, s3⟩; go_simp; first | done | with_reducible rfl
          rotate_left
          · simp only [Act.put, List.setIfInBounds_toArray, List.set_cons_zero, List.set_cons_succ, i64_w, i32_w]; rfl
          refine pure_ (i := 9) (N := (some 31)) (v := ?_) (a' := ?_) #[true, true, true, true, true, true, true, true, true, true, false, false, false, false, false, false, false, false, false, false, false, false, false, false, false, false, false, false] rfl rfl (by kernel_rfl) (fun _ _ _ h => h) (Or.inl ⟨by rfl, ?_⟩) ?_ ?_
          rotate_left
          · intro w'; go_simp; first | done | with_reducible rfl
          rotate_left
          · simp only [Act.put, List.setIfInBounds_toArray, List.set_cons_zero, List.set_cons_succ, i64_w, i32_w]; rfl
          refine take_ (i := 10) (N := (some 32)) (v := ?_) (a' := ?_) #[true, true, true, true, true, true, true, true, true, true, true, false, false, false, false, false, false, false, false, false, false, false, false, false, false, false, false, false] rfl rfl (by kernel_rfl) (fun _ _ _ h => h) (Or.inl ⟨by rfl, ?_⟩) hHeld ?_ ?_
          rotate_left
          · rintro w' ⟨s0, s1, s2, s3⟩; go_simp; first | done | with_reducible rfl
          rotate_left
          · simp only [Act.put, List.setIfInBounds_toArray, List.set_cons_zero, List.set_cons_succ, i64_w, i32_w]; rfl
          refine pure_ (i := 11) (N := (some 33)) (v := ?_) (a' := ?_) #[true, true, true, true, true, true, true, true, true, true, true, true, false, false, false, false, false, false, false, false, false, false, false, false, false, false, false, false] rfl rfl (by kernel_rfl) (fun _ _ _ h => h) (Or.inl ⟨by rfl, ?_⟩) ?_ ?_
          rotate_left
          · intro w'; go_simp; first | done | with_reducible rfl
          rotate_left
          · simp only [Act.put, List.setIfInBounds_toArray, List.set_cons_zero, List.set_cons_succ, i64_w, i32_w]; rfl
          refine pure_ (i := 12) (N := (some 34)) (v := (.bool false)) (a' := ?_) #[true, true, true, true, true, true, true, true, true, true, true, true, true, false, false, false, false, false, false, false, false, false, false, false, false, false, false, false] rfl rfl (by kernel_rfl) (fun _ _ _ h => h) (Or.inl ⟨by rfl, ?_⟩) ?_ ?_
          · intro w'; go_simp; first | done | with_reducible rfl
          rotate_left
          · simp only [Act.put, List.setIfInBounds_toArray, List.set_cons_zero, List.set_cons_succ, i64_w, i32_w]; rfl
          refine pure_ (i := 13) (N := (some 35)) (v := ?_) (a' := ?_) #[true, true, true, true, true, true, true, true, true, true, true, true, true, true, false, false, false, false, false, false, false, false, false, false, false, false, false, false] rfl rfl (by kernel_rfl) (fun _ _ _ h => h) (Or.inl ⟨by rfl, ?_⟩) ?_ ?_
          rotate_left
          · intro w'; go_simp; first | done | with_reducible rfl
          rotate_left
          · simp only [Act.put, List.setIfInBounds_toArray, List.set_cons_zero, List.set_cons_succ, i64_w, i32_w]; rfl
          refine pure_ (i := 14) (N := (some 36)) (v := ?_) (a' := ?_) #[true, true, true, true, true, true, true, true, true, true, true, true, true, true, true, false, false, false, false, false, false, false, false, false, false, false, false, false] rfl rfl (by kernel_rfl) (fun _ _ _ h => h) (Or.inl ⟨by rfl, ?_⟩) ?_ ?_
          rotate_left
          · intro w'; go_simp; first | done | with_reducible rfl
          rotate_left
          · simp only [Act.put, List.setIfInBounds_toArray, List.set_cons_zero, List.set_cons_succ, i64_w, i32_w]; rfl
          refine pure_ (i := 15) (N := (some 37)) (v := ?_) (a' := ?_) #[true, true, true, true, true, true, true, true, true, true, true, true, true, true, true, true, false, false, false, false, false, false, false, false, false, false, false, false] rfl rfl (by kernel_rfl) (fun _ _ _ h => h) (Or.inl ⟨by rfl, ?_⟩) ?_ ?_
          rotate_left
          · intro w'; go_simp; first | done | with_reducible rfl
          rotate_left
          · simp only [Act.put, List.setIfInBounds_toArray, List.set_cons_zero, List.set_cons_succ, i64_w, i32_w]; rfl
          refine pure_ (i := 16) (N := (some 38)) (v := ?_) (a' := ?_) #[true, true, true, true, true, true, true, true, true, true, true, true, true, true, true, true, true, false, false, false, false, false, false, false, false, false, false, false] rfl rfl (by kernel_rfl) (fun _ _ _ h => h) (Or.inl ⟨by rfl, ?_⟩) ?_ ?_
          rotate_left
          · intro w'; go_simp; first | done | with_reducible rfl
          rotate_left
          · simp only [Act.put, List.setIfInBounds_toArray, List.set_cons_zero, List.set_cons_succ, i64_w, i32_w]; rfl
          refine pure_ (i := 17) (N := (some 39)) (v := ?_) (a' := ?_) #[true, true, true, true, true, true, true, true, true, true, true, true, true, true, true, true, true, true, false, false, false, false, false, false, false, false, false, false] rfl rfl (by kernel_rfl) (fun _ _ _ h => h) (Or.inl ⟨by rfl, ?_⟩) ?_ ?_
          rotate_left
          · intro w'; go_simp; first | done | with_reducible rfl
          rotate_left
          · simp only [Act.put, List.setIfInBounds_toArray, List.set_cons_zero, List.set_cons_succ, i64_w, i32_w]; rfl
          refine pure_ (i := 18) (N := (some 40)) (v := ?_) (a' := ?_) #[true, true, true, true, true, true, true, true, true, true, true, true, true, true, true, true, true, true, true, false, false, false, false, false, false, false, false, false] rfl rfl (by kernel_rfl) (fun _ _ _ h => h) (Or.inl ⟨by rfl, ?_⟩) ?_ ?_
          rotate_left
          · intro w'; go_simp; first | done | with_reducible rfl
          rotate_left
          · simp only [Act.put, List.setIfInBounds_toArray, List.set_cons_zero, List.set_cons_succ, i64_w, i32_w]; rfl
          refine pure_ (i := 19) (N := (some 41)) (v := ?_) (a' := ?_) #[true, true, true, true, true, true, true, true, true, true, true, true, true, true, true, true, true, true, true, true, false, false, false, false, false, false, false, false] rfl rfl (by kernel_rfl) (fun _ _ _ h => h) (Or.inl ⟨by rfl, ?_⟩) ?_ ?_
          rotate_left
          · intro w'; go_simp; first | done | with_reducible rfl
          rotate_left
          · simp only [Act.put, List.setIfInBounds_toArray, List.set_cons_zero, List.set_cons_succ, i64_w, i32_w]; rfl
          refine pure_ (i := 20) (N := (some 42)) (v := ?_) (a' := ?_) #[true, true, true, true, true, true, true, true, true, true, true, true, true, true, true, true, true, true, true, true, true, false, false, false, false, false, false, false] rfl rfl (by kernel_rfl) (fun _ _ _ h => h) (Or.inl ⟨by rfl, ?_⟩) ?_ ?_
          rotate_left
          · intro w'; go_simp; first | done | with_reducible rfl
          rotate_left
          · simp only [Act.put, List.setIfInBounds_toArray, List.set_cons_zero, List.set_cons_succ, i64_w, i32_w]; rfl
          refine pure_ (i := 21) (N := (some 43)) (v := ?_) (a' := ?_) #[true, true, true, true, true, true, true, true, true, true, true, true, true, true, true, true, true, true, true, true, true, true, false, false, false, false, false, false] rfl rfl (by kernel_rfl) (fun _ _ _ h => h) (Or.inl ⟨by rfl, ?_⟩) ?_ ?_
          rotate_left
          · intro w'; go_simp; first | done | with_reducible rfl
          rotate_left
          · simp only [Act.put, List.setIfInBounds_toArray, List.set_cons_zero, List.set_cons_succ, i64_w, i32_w]; rfl
          refine take_ (i := 22) (N := (some 44)) (v := ?_) (a' := ?_) #[true, true, true, true, true, true, true, true, true, true, true, true, true, true, true, true, true, true, true, true, true, true, true, false, false, false, false, false] rfl rfl (by kernel_rfl) (fun _ _ _ h => h) (Or.inl ⟨by rfl, ?_⟩) hHeld ?_ ?_
          rotate_left
          · rintro w' ⟨s0, s1, s2, s3⟩; go_simp; first | done | with_reducible rfl
          rotate_left
          · simp only [Act.put, List.setIfInBounds_toArray, List.set_cons_zero, List.set_cons_succ, i64_w, i32_w]; rfl
          refine take_ (i := 23) (N := (some 45)) (v := ?_) (a' := ?_) #[true, true, true, true, true, true, true, true, true, true, true, true, true, true, true, true, true, true, true, true, true, true, true, true, false, false, false, false] rfl rfl (by kernel_rfl) (fun _ _ _ h => h) (Or.inl ⟨by rfl, ?_⟩) hHeld ?_ ?_
          rotate_left
          · rintro w' ⟨s0, s1, s2, s3⟩; go_simp; first | done | with_reducible rfl
          rotate_left
          · simp only [Act.put, List.setIfInBounds_toArray, List.set_cons_zero, List.set_cons_succ, i64_w, i32_w]; rfl
          refine one_ (i := 24) (N := (some 46)) #[true, true, true, true, true, true, true, true, true, true, true, true, true, true, true, true, true, true, true, true, true, true, true, true, true, false, false, false] rfl rfl (by kernel_rfl) (by decide) (fun K hK => ?_)
          refine goes_ Tryd.func67 (by kernel_rfl) rfl #[ptV (x m) (y m), ptV (x (m + 1)) (y (m + 1))] (by rfl) rfl rfl (by (try simp only [List.map_toArray, List.map_cons, List.map_nil]); first | done | rfl) ?_
          refine (compare_calls _ _ _ _ _).mono ?_
          rintro e wc ⟨rfl, hbc⟩
          refine ⟨_, rfl, ?_⟩
          have HBC := Lib.hid (HBA.out.drew.trans (hbc.mono HBA.out.drew.size))
          have HOC := Lib.hid (pw_own_below (pw_own_below HOA.out (Below.refl _ wa).drew) hbc)
          obtain ⟨g0, g1, g2, g3⟩ := hHeld
          have g0' := (hbc.cell (p := ⟨G, 0, none⟩) (World.block_lt_of_cell? _ _ g0)).trans g0
          have g1' := (hbc.cell (p := ⟨G, 1, none⟩) (World.block_lt_of_cell? _ _ g1)).trans g1
          have g2' := (hbc.cell (p := ⟨b, off + m * 2, none⟩) (World.block_lt_of_cell? _ _ g2)).trans g2
          have g3' := (hbc.cell (p := ⟨b, off + m * 2 + 1, none⟩) (World.block_lt_of_cell? _ _ g3)).trans g3
          refine hK.out _ _ ⟨g0', g1', g2', g3'⟩ (fun hHeld => ?_)
          clear hK K
          refine norm_ (a' := ?_) ?_ ?_
          rotate_left
          · show Act.put _ (some 46) _ = _; simp only [Act.put, List.setIfInBounds_toArray, List.set_cons_zero, List.set_cons_succ, i64_w, i32_w]; rfl
          refine pure_ (i := 25) (N := (some 47)) (v := (.bool false)) (a' := ?_) #[true, true, true, true, true, true, true, true, true, true, true, true, true, true, true, true, true, true, true, true, true, true, true, true, true, true, false, false] rfl rfl (by kernel_rfl) (fun _ _ _ h => h) (Or.inl ⟨by rfl, ?_⟩) ?_ ?_
          · intro w'; go_simp; first | done | with_reducible rfl
          rotate_left
          · simp only [Act.put, List.setIfInBounds_toArray, List.set_cons_zero, List.set_cons_succ, i64_w, i32_w]; rfl
          refine pure_ (i := 26) (N := (some 48)) (v := ?_) (a' := ?_) #[true, true, true, true, true, true, true, true, true, true, true, true, true, true, true, true, true, true, true, true, true, true, true, true, true, true, true, false] rfl rfl (by kernel_rfl) (fun _ _ _ h => h) (Or.inl ⟨by rfl, ?_⟩) ?_ ?_
          rotate_left
          · intro w'; go_simp; first | done | with_reducible rfl
          rotate_left
          · simp only [Act.put, List.setIfInBounds_toArray, List.set_cons_zero, List.set_cons_succ, i64_w, i32_w]; rfl
          refine pure_ (i := 27) (N := (some 49)) (v := ?_) (a' := ?_) #[true, true, true, true, true, true, true, true, true, true, true, true, true, true, true, true, true, true, true, true, true, true, true, true, true, true, true, true] rfl rfl (by kernel_rfl) (fun _ _ _ h => h) (Or.inl ⟨by rfl, ?_⟩) ?_ ?_
          rotate_left
          · intro w'; go_simp; first | done | with_reducible rfl
          rotate_left
          · simp only [Act.put, List.setIfInBounds_toArray, List.set_cons_zero, List.set_cons_succ, i64_w, i32_w]; rfl
          refine done_ (by kernel_rfl) ?_
          obtain ⟨q0', q1', _, _⟩ := hHeld
          have HBD := Lib.hid HBC.out
          have HOD := Lib.hid HOC.out
          clear q0 q1 q2 q3 HBA HOA h0 h1 e1 e2 e3 HBC HOC
          generalize wc = wd at q0' q1' HBD HOD ⊢
          obtain ⟨i0, hi0, hz0, hz1, hz2⟩ := info_parts info63
          have HBD2 := Lib.hid (HBD.out.trans ((below_one (w := wd) (.cells #[.int .i64 (x (m + 1)), .int .i64 (y (m + 1))] 63)).mono HBD.out.size))
          have HOE := Lib.hid (pw_own_below HOD.out (below_one (w := wd) (.cells #[.int .i64 (x (m + 1)), .int .i64 (y (m + 1))] 63)))
          have HI := Lib.hid hi0
          have HZ := Lib.hid (And.intro hz0 (And.intro hz1 hz2))
          clear hi0 hz0 hz1 hz2
          go_wp2_with (first | (at_builtin; go_loud (refine wpList_append_own_at _ rfl (.tmp 50) (.tmp 52) 67 rfl w.heap.size 63 i0 _ 2 16 Tryd.underlying67 HI.out HZ.out.1 HZ.out.2.1 HZ.out.2.2 rfl (by decide) u4 (m + 1) (flat x y (m + 1)) rfl HOE.out ⟨wd.heap.size, 0, none⟩ 1 1 [.int .i64 (x (m + 1)), .int .i64 (y (m + 1))] rfl rfl (two_new _ _ _ _) (by simp [Value.oneCell']) (by unfold maxLen; omega) (by omega) HBD2.out.size ?_); intro v1 w1 hown1 hgrow1 _ _; have HOF := Lib.hid hown1; have HBF := Lib.hid (own_grow HBD2.out HOE.out hgrow1); clear hown1 hgrow1) | go_in)
          refine ⟨⟨m + 1 + 1, by omega, by go_num, Lib.hid (goodTo_next HG.out HGK.out), HOF, HBF⟩, by simp [intOf]; omega⟩
      · have HGN := Lib.hid (goodTo_bad hlt hgk)
        by_cases e1 : max (x k) (y k) ≤ 100
        · by_cases e2 : -100 ≤ min (x k) (y k)
          · have hxy : k ≠ 0 ∧ 0 ≤ cmpP (x (k - 1)) (y (k - 1)) (x k) (y k) := by
              by_cases h : k = 0
              · exact absurd ⟨by omega, .inl h⟩ hgk
              · refine ⟨h, ?_⟩
                have := fun q => hgk ⟨by omega, .inr q⟩
                omega
            obtain ⟨hk0, hxy⟩ := hxy
            clear hgk
            obtain ⟨m, rfl⟩ : ∃ m, k = m + 1 := ⟨k - 1, by omega⟩
            have hpm := HPA.out
            have q2 := hpm.c0 m (by omega)
            have q3 := hpm.c1 m (by omega)
            have hmn : m < n := by omega
            have e3 : 0 ≤ cmpP (x m) (y m) (x (m + 1)) (y (m + 1)) := by simpa using hxy
            have hwm : wrap64 (m : Int) = m := by unfold wrap64; omega
            clear hpm hxy
            refine start_ (n := 28) (S := fun w' => w'.cell? ⟨G, 0, none⟩ = some (.int .i64 (x (m + 1))) ∧ w'.cell? ⟨G, 1, none⟩ = some (.int .i64 (y (m + 1))) ∧ w'.cell? ⟨b, off + m * 2, none⟩ = some (.int .i64 (x m)) ∧ w'.cell? ⟨b, off + m * 2 + 1, none⟩ = some (.int .i64 (y m))) (ds := []) #[false, false, false, false, false, false, false, false, false, false, false, false, false, false, false, false, false, false, false, false, false, false, false, false, false, false, false, false] (by kernel_rfl) rfl rfl ⟨by simpa using q0, by simpa using q1, by simpa using q2, by simpa using q3⟩ (fun hHeld => ?_)
            refine pure_ (i := 0) (N := (some 22)) (v := ?_) (a' := ?_) #[true, false, false, false, false, false, false, false, false, false, false, false, false, false, false, false, false, false, false, false, false, false, false, false, false, false, false, false] rfl rfl (by kernel_rfl) (fun _ _ _ h => h) (Or.inl ⟨by rfl, ?_⟩) ?_ ?_
            rotate_left
            · intro w'; go_simp; first | done | with_reducible rfl
            rotate_left
            · simp only [Act.put, List.setIfInBounds_toArray, List.set_cons_zero, List.set_cons_succ, i64_w, i32_w]; rfl
            refine take_ (i := 1) (N := (some 23)) (v := ?_) (a' := ?_) #[true, true, false, false, false, false, false, false, false, false, false, false, false, false, false, false, false, false, false, false, false, false, false, false, false, false, false, false] rfl rfl (by kernel_rfl) (fun _ _ _ h => h) (Or.inl ⟨by rfl, ?_⟩) hHeld ?_ ?_
            rotate_left
            · rintro w' ⟨s0, s1, s2, s3⟩; go_simp; first | done | with_reducible rfl
            rotate_left
            · simp only [Act.put, List.setIfInBounds_toArray, List.set_cons_zero, List.set_cons_succ, i64_w, i32_w]; rfl
            refine pure_ (i := 2) (N := (some 24)) (v := ?_) (a' := ?_) #[true, true, true, false, false, false, false, false, false, false, false, false, false, false, false, false, false, false, false, false, false, false, false, false, false, false, false, false] rfl rfl (by kernel_rfl) (fun _ _ _ h => h) (Or.inl ⟨by rfl, ?_⟩) ?_ ?_
            rotate_left
            · intro w'; go_simp; first | done | with_reducible rfl
            rotate_left
            · simp only [Act.put, List.setIfInBounds_toArray, List.set_cons_zero, List.set_cons_succ, i64_w, i32_w]; rfl
            refine take_ (i := 3) (N := (some 25)) (v := ?_) (a' := ?_) #[true, true, true, true, false, false, false, false, false, false, false, false, false, false, false, false, false, false, false, false, false, false, false, false, false, false, false, false] rfl rfl (by kernel_rfl) (fun _ _ _ h => h) (Or.inl ⟨by rfl, ?_⟩) hHeld ?_ ?_
            rotate_left
            · rintro w' ⟨s0, s1, s2, s3⟩; go_simp; first | done | with_reducible rfl
            rotate_left
            · simp only [Act.put, List.setIfInBounds_toArray, List.set_cons_zero, List.set_cons_succ, i64_w, i32_w]; rfl
            refine pure_ (i := 4) (N := (some 26)) (v := ?_) (a' := ?_) #[true, true, true, true, true, false, false, false, false, false, false, false, false, false, false, false, false, false, false, false, false, false, false, false, false, false, false, false] rfl rfl (by kernel_rfl) (fun _ _ _ h => h) (Or.inl ⟨by rfl, ?_⟩) ?_ ?_
            rotate_left
            · intro w'; go_simp; first | done | with_reducible rfl
            rotate_left
            · simp only [Act.put, List.setIfInBounds_toArray, List.set_cons_zero, List.set_cons_succ, i64_w, i32_w]; rfl
            refine pure_ (i := 5) (N := (some 27)) (v := (.bool false)) (a' := ?_) #[true, true, true, true, true, true, false, false, false, false, false, false, false, false, false, false, false, false, false, false, false, false, false, false, false, false, false, false] rfl rfl (by kernel_rfl) (fun _ _ _ h => h) (Or.inl ⟨by rfl, ?_⟩) ?_ ?_
            · intro w'; go_simp; first | done | with_reducible rfl
            rotate_left
            · simp only [Act.put, List.setIfInBounds_toArray, List.set_cons_zero, List.set_cons_succ, i64_w, i32_w]; rfl
            refine pure_ (i := 6) (N := (some 28)) (v := ?_) (a' := ?_) #[true, true, true, true, true, true, true, false, false, false, false, false, false, false, false, false, false, false, false, false, false, false, false, false, false, false, false, false] rfl rfl (by kernel_rfl) (fun _ _ _ h => h) (Or.inl ⟨by rfl, ?_⟩) ?_ ?_
            rotate_left
            · intro w'; go_simp; first | done | with_reducible rfl
            rotate_left
            · simp only [Act.put, List.setIfInBounds_toArray, List.set_cons_zero, List.set_cons_succ, i64_w, i32_w]; rfl
            refine pure_ (i := 7) (N := (some 29)) (v := ?_) (a' := ?_) #[true, true, true, true, true, true, true, true, false, false, false, false, false, false, false, false, false, false, false, false, false, false, false, false, false, false, false, false] rfl rfl (by kernel_rfl) (fun _ _ _ h => h) (Or.inl ⟨by rfl, ?_⟩) ?_ ?_
            rotate_left
            · intro w'; go_simp; first | done | with_reducible rfl
            rotate_left
            · simp only [Act.put, List.setIfInBounds_toArray, List.set_cons_zero, List.set_cons_succ, i64_w, i32_w]; rfl
            refine take_ (i := 8) (N := (some 30)) (v := ?_) (a' := ?_) #[true, true, true, true, true, true, true, true, true, false, false, false, false, false, false, false, false, false, false, false, false, false, false, false, false, false, false, false] rfl rfl (by kernel_rfl) (fun _ _ _ h => h) (Or.inl ⟨by rfl, ?_⟩) hHeld ?_ ?_
            rotate_left
            · rintro w' ⟨s0, s1, s2, s3⟩; go_simp; first | done | with_reducible rfl
            rotate_left
            · simp only [Act.put, List.setIfInBounds_toArray, List.set_cons_zero, List.set_cons_succ, i64_w, i32_w]; rfl
            refine pure_ (i := 9) (N := (some 31)) (v := ?_) (a' := ?_) #[true, true, true, true, true, true, true, true, true, true, false, false, false, false, false, false, false, false, false, false, false, false, false, false, false, false, false, false] rfl rfl (by kernel_rfl) (fun _ _ _ h => h) (Or.inl ⟨by rfl, ?_⟩) ?_ ?_
            rotate_left
            · intro w'; go_simp; first | done | with_reducible rfl
            rotate_left
            · simp only [Act.put, List.setIfInBounds_toArray, List.set_cons_zero, List.set_cons_succ, i64_w, i32_w]; rfl
            refine take_ (i := 10) (N := (some 32)) (v := ?_) (a' := ?_) #[true, true, true, true, true, true, true, true, true, true, true, false, false, false, false, false, false, false, false, false, false, false, false, false, false, false, false, false] rfl rfl (by kernel_rfl) (fun _ _ _ h => h) (Or.inl ⟨by rfl, ?_⟩) hHeld ?_ ?_
            rotate_left
            · rintro w' ⟨s0, s1, s2, s3⟩; go_simp; first | done | with_reducible rfl
            rotate_left
            · simp only [Act.put, List.setIfInBounds_toArray, List.set_cons_zero, List.set_cons_succ, i64_w, i32_w]; rfl
            refine pure_ (i := 11) (N := (some 33)) (v := ?_) (a' := ?_) #[true, true, true, true, true, true, true, true, true, true, true, true, false, false, false, false, false, false, false, false, false, false, false, false, false, false, false, false] rfl rfl (by kernel_rfl) (fun _ _ _ h => h) (Or.inl ⟨by rfl, ?_⟩) ?_ ?_
            rotate_left
            · intro w'; go_simp; first | done | with_reducible rfl
            rotate_left
            · simp only [Act.put, List.setIfInBounds_toArray, List.set_cons_zero, List.set_cons_succ, i64_w, i32_w]; rfl
            refine pure_ (i := 12) (N := (some 34)) (v := (.bool false)) (a' := ?_) #[true, true, true, true, true, true, true, true, true, true, true, true, true, false, false, false, false, false, false, false, false, false, false, false, false, false, false, false] rfl rfl (by kernel_rfl) (fun _ _ _ h => h) (Or.inl ⟨by rfl, ?_⟩) ?_ ?_
            · intro w'; go_simp; first | done | with_reducible rfl
            rotate_left
            · simp only [Act.put, List.setIfInBounds_toArray, List.set_cons_zero, List.set_cons_succ, i64_w, i32_w]; rfl
            refine pure_ (i := 13) (N := (some 35)) (v := ?_) (a' := ?_) #[true, true, true, true, true, true, true, true, true, true, true, true, true, true, false, false, false, false, false, false, false, false, false, false, false, false, false, false] rfl rfl (by kernel_rfl) (fun _ _ _ h => h) (Or.inl ⟨by rfl, ?_⟩) ?_ ?_
            rotate_left
            · intro w'; go_simp; first | done | with_reducible rfl
            rotate_left
            · simp only [Act.put, List.setIfInBounds_toArray, List.set_cons_zero, List.set_cons_succ, i64_w, i32_w]; rfl
            refine pure_ (i := 14) (N := (some 36)) (v := ?_) (a' := ?_) #[true, true, true, true, true, true, true, true, true, true, true, true, true, true, true, false, false, false, false, false, false, false, false, false, false, false, false, false] rfl rfl (by kernel_rfl) (fun _ _ _ h => h) (Or.inl ⟨by rfl, ?_⟩) ?_ ?_
            rotate_left
            · intro w'; go_simp; first | done | with_reducible rfl
            rotate_left
            · simp only [Act.put, List.setIfInBounds_toArray, List.set_cons_zero, List.set_cons_succ, i64_w, i32_w]; rfl
            refine pure_ (i := 15) (N := (some 37)) (v := ?_) (a' := ?_) #[true, true, true, true, true, true, true, true, true, true, true, true, true, true, true, true, false, false, false, false, false, false, false, false, false, false, false, false] rfl rfl (by kernel_rfl) (fun _ _ _ h => h) (Or.inl ⟨by rfl, ?_⟩) ?_ ?_
            rotate_left
            · intro w'; go_simp; first | done | with_reducible rfl
            rotate_left
            · simp only [Act.put, List.setIfInBounds_toArray, List.set_cons_zero, List.set_cons_succ, i64_w, i32_w]; rfl
            refine pure_ (i := 16) (N := (some 38)) (v := ?_) (a' := ?_) #[true, true, true, true, true, true, true, true, true, true, true, true, true, true, true, true, true, false, false, false, false, false, false, false, false, false, false, false] rfl rfl (by kernel_rfl) (fun _ _ _ h => h) (Or.inl ⟨by rfl, ?_⟩) ?_ ?_
            rotate_left
            · intro w'; go_simp; first | done | with_reducible rfl
            rotate_left
            · simp only [Act.put, List.setIfInBounds_toArray, List.set_cons_zero, List.set_cons_succ, i64_w, i32_w]; rfl
            refine pure_ (i := 17) (N := (some 39)) (v := ?_) (a' := ?_) #[true, true, true, true, true, true, true, true, true, true, true, true, true, true, true, true, true, true, false, false, false, false, false, false, false, false, false, false] rfl rfl (by kernel_rfl) (fun _ _ _ h => h) (Or.inl ⟨by rfl, ?_⟩) ?_ ?_
            rotate_left
            · intro w'; go_simp; first | done | with_reducible rfl
            rotate_left
            · simp only [Act.put, List.setIfInBounds_toArray, List.set_cons_zero, List.set_cons_succ, i64_w, i32_w]; rfl
            refine pure_ (i := 18) (N := (some 40)) (v := ?_) (a' := ?_) #[true, true, true, true, true, true, true, true, true, true, true, true, true, true, true, true, true, true, true, false, false, false, false, false, false, false, false, false] rfl rfl (by kernel_rfl) (fun _ _ _ h => h) (Or.inl ⟨by rfl, ?_⟩) ?_ ?_
            rotate_left
            · intro w'; go_simp; first | done | with_reducible rfl
            rotate_left
            · simp only [Act.put, List.setIfInBounds_toArray, List.set_cons_zero, List.set_cons_succ, i64_w, i32_w]; rfl
            refine pure_ (i := 19) (N := (some 41)) (v := ?_) (a' := ?_) #[true, true, true, true, true, true, true, true, true, true, true, true, true, true, true, true, true, true, true, true, false, false, false, false, false, false, false, false] rfl rfl (by kernel_rfl) (fun _ _ _ h => h) (Or.inl ⟨by rfl, ?_⟩) ?_ ?_
            rotate_left
            · intro w'; go_simp; first | done | with_reducible rfl
            rotate_left
            · simp only [Act.put, List.setIfInBounds_toArray, List.set_cons_zero, List.set_cons_succ, i64_w, i32_w]; rfl
            refine pure_ (i := 20) (N := (some 42)) (v := ?_) (a' := ?_) #[true, true, true, true, true, true, true, true, true, true, true, true, true, true, true, true, true, true, true, true, true, false, false, false, false, false, false, false] rfl rfl (by kernel_rfl) (fun _ _ _ h => h) (Or.inl ⟨by rfl, ?_⟩) ?_ ?_
            rotate_left
            · intro w'; go_simp; first | done | with_reducible rfl
            rotate_left
            · simp only [Act.put, List.setIfInBounds_toArray, List.set_cons_zero, List.set_cons_succ, i64_w, i32_w]; rfl
            refine pure_ (i := 21) (N := (some 43)) (v := ?_) (a' := ?_) #[true, true, true, true, true, true, true, true, true, true, true, true, true, true, true, true, true, true, true, true, true, true, false, false, false, false, false, false] rfl rfl (by kernel_rfl) (fun _ _ _ h => h) (Or.inl ⟨by rfl, ?_⟩) ?_ ?_
            rotate_left
            · intro w'; go_simp; first | done | with_reducible rfl
            rotate_left
            · simp only [Act.put, List.setIfInBounds_toArray, List.set_cons_zero, List.set_cons_succ, i64_w, i32_w]; rfl
            refine take_ (i := 22) (N := (some 44)) (v := ?_) (a' := ?_) #[true, true, true, true, true, true, true, true, true, true, true, true, true, true, true, true, true, true, true, true, true, true, true, false, false, false, false, false] rfl rfl (by kernel_rfl) (fun _ _ _ h => h) (Or.inl ⟨by rfl, ?_⟩) hHeld ?_ ?_
            rotate_left
            · rintro w' ⟨s0, s1, s2, s3⟩; go_simp; first | done | with_reducible rfl
            rotate_left
            · simp only [Act.put, List.setIfInBounds_toArray, List.set_cons_zero, List.set_cons_succ, i64_w, i32_w]; rfl
            refine take_ (i := 23) (N := (some 45)) (v := ?_) (a' := ?_) #[true, true, true, true, true, true, true, true, true, true, true, true, true, true, true, true, true, true, true, true, true, true, true, true, false, false, false, false] rfl rfl (by kernel_rfl) (fun _ _ _ h => h) (Or.inl ⟨by rfl, ?_⟩) hHeld ?_ ?_
            rotate_left
            · rintro w' ⟨s0, s1, s2, s3⟩; go_simp; first | done | with_reducible rfl
            rotate_left
            · simp only [Act.put, List.setIfInBounds_toArray, List.set_cons_zero, List.set_cons_succ, i64_w, i32_w]; rfl
            refine one_ (i := 24) (N := (some 46)) #[true, true, true, true, true, true, true, true, true, true, true, true, true, true, true, true, true, true, true, true, true, true, true, true, true, false, false, false] rfl rfl (by kernel_rfl) (by decide) (fun K hK => ?_)
            refine goes_ Tryd.func67 (by kernel_rfl) rfl #[ptV (x m) (y m), ptV (x (m + 1)) (y (m + 1))] (by rfl) rfl rfl (by (try simp only [List.map_toArray, List.map_cons, List.map_nil]); first | done | rfl) ?_
            refine (compare_calls _ _ _ _ _).mono ?_
            rintro e wc ⟨rfl, hbc⟩
            refine ⟨_, rfl, ?_⟩
            have HBC := Lib.hid (HBA.out.drew.trans (hbc.mono HBA.out.drew.size))
            have HOC := Lib.hid (pw_own_below (pw_own_below HOA.out (Below.refl _ wa).drew) hbc)
            obtain ⟨g0, g1, g2, g3⟩ := hHeld
            have g0' := (hbc.cell (p := ⟨G, 0, none⟩) (World.block_lt_of_cell? _ _ g0)).trans g0
            have g1' := (hbc.cell (p := ⟨G, 1, none⟩) (World.block_lt_of_cell? _ _ g1)).trans g1
            have g2' := (hbc.cell (p := ⟨b, off + m * 2, none⟩) (World.block_lt_of_cell? _ _ g2)).trans g2
            have g3' := (hbc.cell (p := ⟨b, off + m * 2 + 1, none⟩) (World.block_lt_of_cell? _ _ g3)).trans g3
            refine hK.out _ _ ⟨g0', g1', g2', g3'⟩ (fun hHeld => ?_)
            clear hK K
            refine norm_ (a' := ?_) ?_ ?_
            rotate_left
            · show Act.put _ (some 46) _ = _; simp only [Act.put, List.setIfInBounds_toArray, List.set_cons_zero, List.set_cons_succ, i64_w, i32_w]; rfl
            refine pure_ (i := 25) (N := (some 47)) (v := (.bool true)) (a' := ?_) #[true, true, true, true, true, true, true, true, true, true, true, true, true, true, true, true, true, true, true, true, true, true, true, true, true, true, false, false] rfl rfl (by kernel_rfl) (fun _ _ _ h => h) (Or.inl ⟨by rfl, ?_⟩) ?_ ?_
            · intro w'; go_simp; first | done | with_reducible rfl
            rotate_left
            · simp only [Act.put, List.setIfInBounds_toArray, List.set_cons_zero, List.set_cons_succ, i64_w, i32_w]; rfl
            refine pure_ (i := 26) (N := (some 48)) (v := ?_) (a' := ?_) #[true, true, true, true, true, true, true, true, true, true, true, true, true, true, true, true, true, true, true, true, true, true, true, true, true, true, true, false] rfl rfl (by kernel_rfl) (fun _ _ _ h => h) (Or.inl ⟨by rfl, ?_⟩) ?_ ?_
            rotate_left
            · intro w'; go_simp; first | done | with_reducible rfl
            rotate_left
            · simp only [Act.put, List.setIfInBounds_toArray, List.set_cons_zero, List.set_cons_succ, i64_w, i32_w]; rfl
            refine pure_ (i := 27) (N := (some 49)) (v := ?_) (a' := ?_) #[true, true, true, true, true, true, true, true, true, true, true, true, true, true, true, true, true, true, true, true, true, true, true, true, true, true, true, true] rfl rfl (by kernel_rfl) (fun _ _ _ h => h) (Or.inl ⟨by rfl, ?_⟩) ?_ ?_
            rotate_left
            · intro w'; go_simp; first | done | with_reducible rfl
            rotate_left
            · simp only [Act.put, List.setIfInBounds_toArray, List.set_cons_zero, List.set_cons_succ, i64_w, i32_w]; rfl
            refine done_ (by kernel_rfl) ?_
            have HBD := Lib.hid HBC.out
            clear q0 q1 q2 q3 HBA HOA h0 h1 e1 e2 e3 HOC hHeld g0 g1 g2 g3
            generalize wc = wd at HBD ⊢
            go_wp2
            go_ret2
            exact ⟨.inr ⟨HGN.out, rfl⟩, HBD.out⟩
          · have e2 : min (x k) (y k) < -100 := by omega
            clear hgk
            refine start_ (n := 28) (S := fun w' => w'.cell? ⟨G, 0, none⟩ = some (.int .i64 (x k)) ∧ w'.cell? ⟨G, 1, none⟩ = some (.int .i64 (y k))) (ds := []) #[false, false, false, false, false, false, false, false, false, false, false, false, false, false, false, false, false, false, false, false, false, false, false, false, false, false, false, false] (by kernel_rfl) rfl rfl ⟨by simpa using q0, by simpa using q1⟩ (fun hHeld => ?_)
            refine pure_ (i := 0) (N := (some 22)) (v := ?_) (a' := ?_) #[true, false, false, false, false, false, false, false, false, false, false, false, false, false, false, false, false, false, false, false, false, false, false, false, false, false, false, false] rfl rfl (by kernel_rfl) (fun _ _ _ h => h) (Or.inl ⟨by rfl, ?_⟩) ?_ ?_
            rotate_left
            · intro w'; go_simp; first | done | with_reducible rfl
            rotate_left
            · simp only [Act.put, List.setIfInBounds_toArray, List.set_cons_zero, List.set_cons_succ, i64_w, i32_w]; rfl
            refine take_ (i := 1) (N := (some 23)) (v := ?_) (a' := ?_) #[true, true, false, false, false, false, false, false, false, false, false, false, false, false, false, false, false, false, false, false, false, false, false, false, false, false, false, false] rfl rfl (by kernel_rfl) (fun _ _ _ h => h) (Or.inl ⟨by rfl, ?_⟩) hHeld ?_ ?_
            rotate_left
            · rintro w' ⟨s0, s1⟩; go_simp; first | done | with_reducible rfl
            rotate_left
            · simp only [Act.put, List.setIfInBounds_toArray, List.set_cons_zero, List.set_cons_succ, i64_w, i32_w]; rfl
            refine pure_ (i := 2) (N := (some 24)) (v := ?_) (a' := ?_) #[true, true, true, false, false, false, false, false, false, false, false, false, false, false, false, false, false, false, false, false, false, false, false, false, false, false, false, false] rfl rfl (by kernel_rfl) (fun _ _ _ h => h) (Or.inl ⟨by rfl, ?_⟩) ?_ ?_
            rotate_left
            · intro w'; go_simp; first | done | with_reducible rfl
            rotate_left
            · simp only [Act.put, List.setIfInBounds_toArray, List.set_cons_zero, List.set_cons_succ, i64_w, i32_w]; rfl
            refine take_ (i := 3) (N := (some 25)) (v := ?_) (a' := ?_) #[true, true, true, true, false, false, false, false, false, false, false, false, false, false, false, false, false, false, false, false, false, false, false, false, false, false, false, false] rfl rfl (by kernel_rfl) (fun _ _ _ h => h) (Or.inl ⟨by rfl, ?_⟩) hHeld ?_ ?_
            rotate_left
            · rintro w' ⟨s0, s1⟩; go_simp; first | done | with_reducible rfl
            rotate_left
            · simp only [Act.put, List.setIfInBounds_toArray, List.set_cons_zero, List.set_cons_succ, i64_w, i32_w]; rfl
            refine pure_ (i := 4) (N := (some 26)) (v := ?_) (a' := ?_) #[true, true, true, true, true, false, false, false, false, false, false, false, false, false, false, false, false, false, false, false, false, false, false, false, false, false, false, false] rfl rfl (by kernel_rfl) (fun _ _ _ h => h) (Or.inl ⟨by rfl, ?_⟩) ?_ ?_
            rotate_left
            · intro w'; go_simp; first | done | with_reducible rfl
            rotate_left
            · simp only [Act.put, List.setIfInBounds_toArray, List.set_cons_zero, List.set_cons_succ, i64_w, i32_w]; rfl
            refine pure_ (i := 5) (N := (some 27)) (v := (.bool false)) (a' := ?_) #[true, true, true, true, true, true, false, false, false, false, false, false, false, false, false, false, false, false, false, false, false, false, false, false, false, false, false, false] rfl rfl (by kernel_rfl) (fun _ _ _ h => h) (Or.inl ⟨by rfl, ?_⟩) ?_ ?_
            · intro w'; go_simp; first | done | with_reducible rfl
            rotate_left
            · simp only [Act.put, List.setIfInBounds_toArray, List.set_cons_zero, List.set_cons_succ, i64_w, i32_w]; rfl
            refine pure_ (i := 6) (N := (some 28)) (v := ?_) (a' := ?_) #[true, true, true, true, true, true, true, false, false, false, false, false, false, false, false, false, false, false, false, false, false, false, false, false, false, false, false, false] rfl rfl (by kernel_rfl) (fun _ _ _ h => h) (Or.inl ⟨by rfl, ?_⟩) ?_ ?_
            rotate_left
            · intro w'; go_simp; first | done | with_reducible rfl
            rotate_left
            · simp only [Act.put, List.setIfInBounds_toArray, List.set_cons_zero, List.set_cons_succ, i64_w, i32_w]; rfl
            refine pure_ (i := 7) (N := (some 29)) (v := ?_) (a' := ?_) #[true, true, true, true, true, true, true, true, false, false, false, false, false, false, false, false, false, false, false, false, false, false, false, false, false, false, false, false] rfl rfl (by kernel_rfl) (fun _ _ _ h => h) (Or.inl ⟨by rfl, ?_⟩) ?_ ?_
            rotate_left
            · intro w'; go_simp; first | done | with_reducible rfl
            rotate_left
            · simp only [Act.put, List.setIfInBounds_toArray, List.set_cons_zero, List.set_cons_succ, i64_w, i32_w]; rfl
            refine take_ (i := 8) (N := (some 30)) (v := ?_) (a' := ?_) #[true, true, true, true, true, true, true, true, true, false, false, false, false, false, false, false, false, false, false, false, false, false, false, false, false, false, false, false] rfl rfl (by kernel_rfl) (fun _ _ _ h => h) (Or.inl ⟨by rfl, ?_⟩) hHeld ?_ ?_
            rotate_left
            · rintro w' ⟨s0, s1⟩; go_simp; first | done | with_reducible rfl
            rotate_left
            · simp only [Act.put, List.setIfInBounds_toArray, List.set_cons_zero, List.set_cons_succ, i64_w, i32_w]; rfl
            refine pure_ (i := 9) (N := (some 31)) (v := ?_) (a' := ?_) #[true, true, true, true, true, true, true, true, true, true, false, false, false, false, false, false, false, false, false, false, false, false, false, false, false, false, false, false] rfl rfl (by kernel_rfl) (fun _ _ _ h => h) (Or.inl ⟨by rfl, ?_⟩) ?_ ?_
            rotate_left
            · intro w'; go_simp; first | done | with_reducible rfl
            rotate_left
            · simp only [Act.put, List.setIfInBounds_toArray, List.set_cons_zero, List.set_cons_succ, i64_w, i32_w]; rfl
            refine take_ (i := 10) (N := (some 32)) (v := ?_) (a' := ?_) #[true, true, true, true, true, true, true, true, true, true, true, false, false, false, false, false, false, false, false, false, false, false, false, false, false, false, false, false] rfl rfl (by kernel_rfl) (fun _ _ _ h => h) (Or.inl ⟨by rfl, ?_⟩) hHeld ?_ ?_
            rotate_left
            · rintro w' ⟨s0, s1⟩; go_simp; first | done | with_reducible rfl
            rotate_left
            · simp only [Act.put, List.setIfInBounds_toArray, List.set_cons_zero, List.set_cons_succ, i64_w, i32_w]; rfl
            refine pure_ (i := 11) (N := (some 33)) (v := ?_) (a' := ?_) #[true, true, true, true, true, true, true, true, true, true, true, true, false, false, false, false, false, false, false, false, false, false, false, false, false, false, false, false] rfl rfl (by kernel_rfl) (fun _ _ _ h => h) (Or.inl ⟨by rfl, ?_⟩) ?_ ?_
            rotate_left
            · intro w'; go_simp; first | done | with_reducible rfl
            rotate_left
            · simp only [Act.put, List.setIfInBounds_toArray, List.set_cons_zero, List.set_cons_succ, i64_w, i32_w]; rfl
            refine pure_ (i := 12) (N := (some 34)) (v := (.bool true)) (a' := ?_) #[true, true, true, true, true, true, true, true, true, true, true, true, true, false, false, false, false, false, false, false, false, false, false, false, false, false, false, false] rfl rfl (by kernel_rfl) (fun _ _ _ h => h) (Or.inl ⟨by rfl, ?_⟩) ?_ ?_
            · intro w'; go_simp; first | done | with_reducible rfl
            rotate_left
            · simp only [Act.put, List.setIfInBounds_toArray, List.set_cons_zero, List.set_cons_succ, i64_w, i32_w]; rfl
            refine pure_ (i := 13) (N := (some 35)) (v := ?_) (a' := ?_) #[true, true, true, true, true, true, true, true, true, true, true, true, true, true, false, false, false, false, false, false, false, false, false, false, false, false, false, false] rfl rfl (by kernel_rfl) (fun _ _ _ h => h) (Or.inl ⟨by rfl, ?_⟩) ?_ ?_
            rotate_left
            · intro w'; go_simp; first | done | with_reducible rfl
            rotate_left
            · simp only [Act.put, List.setIfInBounds_toArray, List.set_cons_zero, List.set_cons_succ, i64_w, i32_w]; rfl
            refine pure_ (i := 14) (N := (some 36)) (v := ?_) (a' := ?_) #[true, true, true, true, true, true, true, true, true, true, true, true, true, true, true, false, false, false, false, false, false, false, false, false, false, false, false, false] rfl rfl (by kernel_rfl) (fun _ _ _ h => h) (Or.inl ⟨by rfl, ?_⟩) ?_ ?_
            rotate_left
            · intro w'; go_simp; first | done | with_reducible rfl
            rotate_left
            · simp only [Act.put, List.setIfInBounds_toArray, List.set_cons_zero, List.set_cons_succ, i64_w, i32_w]; rfl
            refine off_ (i := 15) (N := (some 37)) #[true, true, true, true, true, true, true, true, true, true, true, true, true, true, true, true, false, false, false, false, false, false, false, false, false, false, false, false] rfl rfl (by kernel_rfl) (fun _ _ _ h => h) (by rfl) (by simp only [Act.put, List.setIfInBounds_toArray, List.set_cons_zero, List.set_cons_succ, i64_w, i32_w]; rfl) ?_
            refine off_ (i := 16) (N := (some 38)) #[true, true, true, true, true, true, true, true, true, true, true, true, true, true, true, true, true, false, false, false, false, false, false, false, false, false, false, false] rfl rfl (by kernel_rfl) (fun _ _ _ h => h) (by rfl) (by simp only [Act.put, List.setIfInBounds_toArray, List.set_cons_zero, List.set_cons_succ, i64_w, i32_w]; rfl) ?_
            refine off_ (i := 17) (N := (some 39)) #[true, true, true, true, true, true, true, true, true, true, true, true, true, true, true, true, true, true, false, false, false, false, false, false, false, false, false, false] rfl rfl (by kernel_rfl) (fun _ _ _ h => h) (by rfl) (by simp only [Act.put, List.setIfInBounds_toArray, List.set_cons_zero, List.set_cons_succ, i64_w, i32_w]; rfl) ?_
            refine off_ (i := 18) (N := (some 40)) #[true, true, true, true, true, true, true, true, true, true, true, true, true, true, true, true, true, true, true, false, false, false, false, false, false, false, false, false] rfl rfl (by kernel_rfl) (fun _ _ _ h => h) (by rfl) (by simp only [Act.put, List.setIfInBounds_toArray, List.set_cons_zero, List.set_cons_succ, i64_w, i32_w]; rfl) ?_
            refine off_ (i := 19) (N := (some 41)) #[true, true, true, true, true, true, true, true, true, true, true, true, true, true, true, true, true, true, true, true, false, false, false, false, false, false, false, false] rfl rfl (by kernel_rfl) (fun _ _ _ h => h) (by rfl) (by simp only [Act.put, List.setIfInBounds_toArray, List.set_cons_zero, List.set_cons_succ, i64_w, i32_w]; rfl) ?_
            refine off_ (i := 20) (N := (some 42)) #[true, true, true, true, true, true, true, true, true, true, true, true, true, true, true, true, true, true, true, true, true, false, false, false, false, false, false, false] rfl rfl (by kernel_rfl) (fun _ _ _ h => h) (by rfl) (by simp only [Act.put, List.setIfInBounds_toArray, List.set_cons_zero, List.set_cons_succ, i64_w, i32_w]; rfl) ?_
            refine off_ (i := 21) (N := (some 43)) #[true, true, true, true, true, true, true, true, true, true, true, true, true, true, true, true, true, true, true, true, true, true, false, false, false, false, false, false] rfl rfl (by kernel_rfl) (fun _ _ _ h => h) (by rfl) (by simp only [Act.put, List.setIfInBounds_toArray, List.set_cons_zero, List.set_cons_succ, i64_w, i32_w]; rfl) ?_
            refine off_ (i := 22) (N := (some 44)) #[true, true, true, true, true, true, true, true, true, true, true, true, true, true, true, true, true, true, true, true, true, true, true, false, false, false, false, false] rfl rfl (by kernel_rfl) (fun _ _ _ h => h) (by rfl) (by simp only [Act.put, List.setIfInBounds_toArray, List.set_cons_zero, List.set_cons_succ, i64_w, i32_w]; rfl) ?_
            refine off_ (i := 23) (N := (some 45)) #[true, true, true, true, true, true, true, true, true, true, true, true, true, true, true, true, true, true, true, true, true, true, true, true, false, false, false, false] rfl rfl (by kernel_rfl) (fun _ _ _ h => h) (by rfl) (by simp only [Act.put, List.setIfInBounds_toArray, List.set_cons_zero, List.set_cons_succ, i64_w, i32_w]; rfl) ?_
            refine off_ (i := 24) (N := (some 46)) #[true, true, true, true, true, true, true, true, true, true, true, true, true, true, true, true, true, true, true, true, true, true, true, true, true, false, false, false] rfl rfl (by kernel_rfl) (fun _ _ _ h => h) (by rfl) (by simp only [Act.put, List.setIfInBounds_toArray, List.set_cons_zero, List.set_cons_succ, i64_w, i32_w]; rfl) ?_
            refine off_ (i := 25) (N := (some 47)) #[true, true, true, true, true, true, true, true, true, true, true, true, true, true, true, true, true, true, true, true, true, true, true, true, true, true, false, false] rfl rfl (by kernel_rfl) (fun _ _ _ h => h) (by rfl) (by simp only [Act.put, List.setIfInBounds_toArray, List.set_cons_zero, List.set_cons_succ, i64_w, i32_w]; rfl) ?_
            refine off_ (i := 26) (N := (some 48)) #[true, true, true, true, true, true, true, true, true, true, true, true, true, true, true, true, true, true, true, true, true, true, true, true, true, true, true, false] rfl rfl (by kernel_rfl) (fun _ _ _ h => h) (by rfl) (by simp only [Act.put, List.setIfInBounds_toArray, List.set_cons_zero, List.set_cons_succ, i64_w, i32_w]; rfl) ?_
            refine pure_ (i := 27) (N := (some 49)) (v := ?_) (a' := ?_) #[true, true, true, true, true, true, true, true, true, true, true, true, true, true, true, true, true, true, true, true, true, true, true, true, true, true, true, true] rfl rfl (by kernel_rfl) (fun _ _ _ h => h) (Or.inl ⟨by rfl, ?_⟩) ?_ ?_
            rotate_left
            · intro w'; go_simp; first | done | with_reducible rfl
            rotate_left
            · simp only [Act.put, List.setIfInBounds_toArray, List.set_cons_zero, List.set_cons_succ, i64_w, i32_w]; rfl
            refine done_ (by kernel_rfl) ?_
            have HBD := Lib.hid HBA.out.drew
            clear q0 q1 HBA HOA h0 h1 hHeld
            generalize wa.drew = wd at HBD ⊢
            go_wp2
            go_ret2
            exact ⟨.inr ⟨HGN.out, rfl⟩, HBD.out⟩
        · have e1 : 100 < max (x k) (y k) := by omega
          clear hgk
          refine start_ (n := 28) (S := fun w' => w'.cell? ⟨G, 0, none⟩ = some (.int .i64 (x k)) ∧ w'.cell? ⟨G, 1, none⟩ = some (.int .i64 (y k))) (ds := []) #[false, false, false, false, false, false, false, false, false, false, false, false, false, false, false, false, false, false, false, false, false, false, false, false, false, false, false, false] (by kernel_rfl) rfl rfl ⟨by simpa using q0, by simpa using q1⟩ (fun hHeld => ?_)
          refine pure_ (i := 0) (N := (some 22)) (v := ?_) (a' := ?_) #[true, false, false, false, false, false, false, false, false, false, false, false, false, false, false, false, false, false, false, false, false, false, false, false, false, false, false, false] rfl rfl (by kernel_rfl) (fun _ _ _ h => h) (Or.inl ⟨by rfl, ?_⟩) ?_ ?_
          rotate_left
          · intro w'; go_simp; first | done | with_reducible rfl
          rotate_left
          · simp only [Act.put, List.setIfInBounds_toArray, List.set_cons_zero, List.set_cons_succ, i64_w, i32_w]; rfl
          refine take_ (i := 1) (N := (some 23)) (v := ?_) (a' := ?_) #[true, true, false, false, false, false, false, false, false, false, false, false, false, false, false, false, false, false, false, false, false, false, false, false, false, false, false, false] rfl rfl (by kernel_rfl) (fun _ _ _ h => h) (Or.inl ⟨by rfl, ?_⟩) hHeld ?_ ?_
          rotate_left
          · rintro w' ⟨s0, s1⟩; go_simp; first | done | with_reducible rfl
          rotate_left
          · simp only [Act.put, List.setIfInBounds_toArray, List.set_cons_zero, List.set_cons_succ, i64_w, i32_w]; rfl
          refine pure_ (i := 2) (N := (some 24)) (v := ?_) (a' := ?_) #[true, true, true, false, false, false, false, false, false, false, false, false, false, false, false, false, false, false, false, false, false, false, false, false, false, false, false, false] rfl rfl (by kernel_rfl) (fun _ _ _ h => h) (Or.inl ⟨by rfl, ?_⟩) ?_ ?_
          rotate_left
          · intro w'; go_simp; first | done | with_reducible rfl
          rotate_left
          · simp only [Act.put, List.setIfInBounds_toArray, List.set_cons_zero, List.set_cons_succ, i64_w, i32_w]; rfl
          refine take_ (i := 3) (N := (some 25)) (v := ?_) (a' := ?_) #[true, true, true, true, false, false, false, false, false, false, false, false, false, false, false, false, false, false, false, false, false, false, false, false, false, false, false, false] rfl rfl (by kernel_rfl) (fun _ _ _ h => h) (Or.inl ⟨by rfl, ?_⟩) hHeld ?_ ?_
          rotate_left
          · rintro w' ⟨s0, s1⟩; go_simp; first | done | with_reducible rfl
          rotate_left
          · simp only [Act.put, List.setIfInBounds_toArray, List.set_cons_zero, List.set_cons_succ, i64_w, i32_w]; rfl
          refine pure_ (i := 4) (N := (some 26)) (v := ?_) (a' := ?_) #[true, true, true, true, true, false, false, false, false, false, false, false, false, false, false, false, false, false, false, false, false, false, false, false, false, false, false, false] rfl rfl (by kernel_rfl) (fun _ _ _ h => h) (Or.inl ⟨by rfl, ?_⟩) ?_ ?_
          rotate_left
          · intro w'; go_simp; first | done | with_reducible rfl
          rotate_left
          · simp only [Act.put, List.setIfInBounds_toArray, List.set_cons_zero, List.set_cons_succ, i64_w, i32_w]; rfl
          refine pure_ (i := 5) (N := (some 27)) (v := (.bool true)) (a' := ?_) #[true, true, true, true, true, true, false, false, false, false, false, false, false, false, false, false, false, false, false, false, false, false, false, false, false, false, false, false] rfl rfl (by kernel_rfl) (fun _ _ _ h => h) (Or.inl ⟨by rfl, ?_⟩) ?_ ?_
          · intro w'; go_simp; first | done | with_reducible rfl
          rotate_left
          · simp only [Act.put, List.setIfInBounds_toArray, List.set_cons_zero, List.set_cons_succ, i64_w, i32_w]; rfl
          refine pure_ (i := 6) (N := (some 28)) (v := ?_) (a' := ?_) #[true, true, true, true, true, true, true, false, false, false, false, false, false, false, false, false, false, false, false, false, false, false, false, false, false, false, false, false] rfl rfl (by kernel_rfl) (fun _ _ _ h => h) (Or.inl ⟨by rfl, ?_⟩) ?_ ?_
          rotate_left
          · intro w'; go_simp; first | done | with_reducible rfl
          rotate_left
          · simp only [Act.put, List.setIfInBounds_toArray, List.set_cons_zero, List.set_cons_succ, i64_w, i32_w]; rfl
          refine off_ (i := 7) (N := (some 29)) #[true, true, true, true, true, true, true, true, false, false, false, false, false, false, false, false, false, false, false, false, false, false, false, false, false, false, false, false] rfl rfl (by kernel_rfl) (fun _ _ _ h => h) (by rfl) (by simp only [Act.put, List.setIfInBounds_toArray, List.set_cons_zero, List.set_cons_succ, i64_w, i32_w]; rfl) ?_
          refine off_ (i := 8) (N := (some 30)) #[true, true, true, true, true, true, true, true, true, false, false, false, false, false, false, false, false, false, false, false, false, false, false, false, false, false, false, false] rfl rfl (by kernel_rfl) (fun _ _ _ h => h) (by rfl) (by simp only [Act.put, List.setIfInBounds_toArray, List.set_cons_zero, List.set_cons_succ, i64_w, i32_w]; rfl) ?_
          refine off_ (i := 9) (N := (some 31)) #[true, true, true, true, true, true, true, true, true, true, false, false, false, false, false, false, false, false, false, false, false, false, false, false, false, false, false, false] rfl rfl (by kernel_rfl) (fun _ _ _ h => h) (by rfl) (by simp only [Act.put, List.setIfInBounds_toArray, List.set_cons_zero, List.set_cons_succ, i64_w, i32_w]; rfl) ?_
          refine off_ (i := 10) (N := (some 32)) #[true, true, true, true, true, true, true, true, true, true, true, false, false, false, false, false, false, false, false, false, false, false, false, false, false, false, false, false] rfl rfl (by kernel_rfl) (fun _ _ _ h => h) (by rfl) (by simp only [Act.put, List.setIfInBounds_toArray, List.set_cons_zero, List.set_cons_succ, i64_w, i32_w]; rfl) ?_
          refine off_ (i := 11) (N := (some 33)) #[true, true, true, true, true, true, true, true, true, true, true, true, false, false, false, false, false, false, false, false, false, false, false, false, false, false, false, false] rfl rfl (by kernel_rfl) (fun _ _ _ h => h) (by rfl) (by simp only [Act.put, List.setIfInBounds_toArray, List.set_cons_zero, List.set_cons_succ, i64_w, i32_w]; rfl) ?_
          refine off_ (i := 12) (N := (some 34)) #[true, true, true, true, true, true, true, true, true, true, true, true, true, false, false, false, false, false, false, false, false, false, false, false, false, false, false, false] rfl rfl (by kernel_rfl) (fun _ _ _ h => h) (by rfl) (by simp only [Act.put, List.setIfInBounds_toArray, List.set_cons_zero, List.set_cons_succ, i64_w, i32_w]; rfl) ?_
          refine pure_ (i := 13) (N := (some 35)) (v := ?_) (a' := ?_) #[true, true, true, true, true, true, true, true, true, true, true, true, true, true, false, false, false, false, false, false, false, false, false, false, false, false, false, false] rfl rfl (by kernel_rfl) (fun _ _ _ h => h) (Or.inl ⟨by rfl, ?_⟩) ?_ ?_
          rotate_left
          · intro w'; go_simp; first | done | with_reducible rfl
          rotate_left
          · simp only [Act.put, List.setIfInBounds_toArray, List.set_cons_zero, List.set_cons_succ, i64_w, i32_w]; rfl
          refine pure_ (i := 14) (N := (some 36)) (v := ?_) (a' := ?_) #[true, true, true, true, true, true, true, true, true, true, true, true, true, true, true, false, false, false, false, false, false, false, false, false, false, false, false, false] rfl rfl (by kernel_rfl) (fun _ _ _ h => h) (Or.inl ⟨by rfl, ?_⟩) ?_ ?_
          rotate_left
          · intro w'; go_simp; first | done | with_reducible rfl
          rotate_left
          · simp only [Act.put, List.setIfInBounds_toArray, List.set_cons_zero, List.set_cons_succ, i64_w, i32_w]; rfl
          refine off_ (i := 15) (N := (some 37)) #[true, true, true, true, true, true, true, true, true, true, true, true, true, true, true, true, false, false, false, false, false, false, false, false, false, false, false, false] rfl rfl (by kernel_rfl) (fun _ _ _ h => h) (by rfl) (by simp only [Act.put, List.setIfInBounds_toArray, List.set_cons_zero, List.set_cons_succ, i64_w, i32_w]; rfl) ?_
          refine off_ (i := 16) (N := (some 38)) #[true, true, true, true, true, true, true, true, true, true, true, true, true, true, true, true, true, false, false, false, false, false, false, false, false, false, false, false] rfl rfl (by kernel_rfl) (fun _ _ _ h => h) (by rfl) (by simp only [Act.put, List.setIfInBounds_toArray, List.set_cons_zero, List.set_cons_succ, i64_w, i32_w]; rfl) ?_
          refine off_ (i := 17) (N := (some 39)) #[true, true, true, true, true, true, true, true, true, true, true, true, true, true, true, true, true, true, false, false, false, false, false, false, false, false, false, false] rfl rfl (by kernel_rfl) (fun _ _ _ h => h) (by rfl) (by simp only [Act.put, List.setIfInBounds_toArray, List.set_cons_zero, List.set_cons_succ, i64_w, i32_w]; rfl) ?_
          refine off_ (i := 18) (N := (some 40)) #[true, true, true, true, true, true, true, true, true, true, true, true, true, true, true, true, true, true, true, false, false, false, false, false, false, false, false, false] rfl rfl (by kernel_rfl) (fun _ _ _ h => h) (by rfl) (by simp only [Act.put, List.setIfInBounds_toArray, List.set_cons_zero, List.set_cons_succ, i64_w, i32_w]; rfl) ?_
          refine off_ (i := 19) (N := (some 41)) #[true, true, true, true, true, true, true, true, true, true, true, true, true, true, true, true, true, true, true, true, false, false, false, false, false, false, false, false] rfl rfl (by kernel_rfl) (fun _ _ _ h => h) (by rfl) (by simp only [Act.put, List.setIfInBounds_toArray, List.set_cons_zero, List.set_cons_succ, i64_w, i32_w]; rfl) ?_
          refine off_ (i := 20) (N := (some 42)) #[true, true, true, true, true, true, true, true, true, true, true, true, true, true, true, true, true, true, true, true, true, false, false, false, false, false, false, false] rfl rfl (by kernel_rfl) (fun _ _ _ h => h) (by rfl) (by simp only [Act.put, List.setIfInBounds_toArray, List.set_cons_zero, List.set_cons_succ, i64_w, i32_w]; rfl) ?_
          refine off_ (i := 21) (N := (some 43)) #[true, true, true, true, true, true, true, true, true, true, true, true, true, true, true, true, true, true, true, true, true, true, false, false, false, false, false, false] rfl rfl (by kernel_rfl) (fun _ _ _ h => h) (by rfl) (by simp only [Act.put, List.setIfInBounds_toArray, List.set_cons_zero, List.set_cons_succ, i64_w, i32_w]; rfl) ?_
          refine off_ (i := 22) (N := (some 44)) #[true, true, true, true, true, true, true, true, true, true, true, true, true, true, true, true, true, true, true, true, true, true, true, false, false, false, false, false] rfl rfl (by kernel_rfl) (fun _ _ _ h => h) (by rfl) (by simp only [Act.put, List.setIfInBounds_toArray, List.set_cons_zero, List.set_cons_succ, i64_w, i32_w]; rfl) ?_
          refine off_ (i := 23) (N := (some 45)) #[true, true, true, true, true, true, true, true, true, true, true, true, true, true, true, true, true, true, true, true, true, true, true, true, false, false, false, false] rfl rfl (by kernel_rfl) (fun _ _ _ h => h) (by rfl) (by simp only [Act.put, List.setIfInBounds_toArray, List.set_cons_zero, List.set_cons_succ, i64_w, i32_w]; rfl) ?_
          refine off_ (i := 24) (N := (some 46)) #[true, true, true, true, true, true, true, true, true, true, true, true, true, true, true, true, true, true, true, true, true, true, true, true, true, false, false, false] rfl rfl (by kernel_rfl) (fun _ _ _ h => h) (by rfl) (by simp only [Act.put, List.setIfInBounds_toArray, List.set_cons_zero, List.set_cons_succ, i64_w, i32_w]; rfl) ?_
          refine off_ (i := 25) (N := (some 47)) #[true, true, true, true, true, true, true, true, true, true, true, true, true, true, true, true, true, true, true, true, true, true, true, true, true, true, false, false] rfl rfl (by kernel_rfl) (fun _ _ _ h => h) (by rfl) (by simp only [Act.put, List.setIfInBounds_toArray, List.set_cons_zero, List.set_cons_succ, i64_w, i32_w]; rfl) ?_
          refine off_ (i := 26) (N := (some 48)) #[true, true, true, true, true, true, true, true, true, true, true, true, true, true, true, true, true, true, true, true, true, true, true, true, true, true, true, false] rfl rfl (by kernel_rfl) (fun _ _ _ h => h) (by rfl) (by simp only [Act.put, List.setIfInBounds_toArray, List.set_cons_zero, List.set_cons_succ, i64_w, i32_w]; rfl) ?_
          refine pure_ (i := 27) (N := (some 49)) (v := ?_) (a' := ?_) #[true, true, true, true, true, true, true, true, true, true, true, true, true, true, true, true, true, true, true, true, true, true, true, true, true, true, true, true] rfl rfl (by kernel_rfl) (fun _ _ _ h => h) (Or.inl ⟨by rfl, ?_⟩) ?_ ?_
          rotate_left
          · intro w'; go_simp; first | done | with_reducible rfl
          rotate_left
          · simp only [Act.put, List.setIfInBounds_toArray, List.set_cons_zero, List.set_cons_succ, i64_w, i32_w]; rfl
          refine done_ (by kernel_rfl) ?_
          have HBD := Lib.hid HBA.out.drew
          clear q0 q1 HBA HOA h0 h1 hHeld
          generalize wa.drew = wd at HBD ⊢
          go_wp2
          go_ret2
          exact ⟨.inr ⟨HGN.out, rfl⟩, HBD.out⟩
    · obtain rfl : k = n := by omega
      go_wp2
      go_ret2
      exact ⟨.inl ⟨HG.out, _, rfl, HO.out⟩, HB.out⟩
end Go.Proofs.YtpfenoioeajkmaaDoor.X
end

section
set_option linter.unusedVariables false
set_option linter.unusedSimpArgs false
namespace Go.Proofs.YtpfenoioeajkmaaDoor.X
open Go.RowKit Go.Proofs.YtpfenoioeajkmaaDoorW.PrintWords Go.Proofs.YtpfenoioeajkmaaDoorW.PrintLast Go.Proofs.YtpfenoioeajkmaaDoorW.PrintMore
def Sl (w : World) (A : Option Addr) (n c : Nat) (x y : Nat → Int) : Prop := (A = none ∧ n = 0 ∧ c = 0) ∨ (∃ b off, A = some ⟨b, off, none⟩ ∧ n ≤ c ∧ Pts w b off n x y) ∨ ∃ ad, A = some ad ∧ n = 0
theorem Sl.later {w w' : World} {A : Option Addr} {n c : Nat} {x y : Nat → Int} (h : Sl w A n c x y) (hb : Below w.heap.size w w') : Sl w' A n c x y := by
  rcases h with h | ⟨b, off, h1, h2, h3⟩ | h
  · exact .inl h
  · exact .inr (.inl ⟨b, off, h1, h2, h3.later hb⟩)
  · exact .inr (.inr h)
theorem Sl.of_own {w : World} {base e n : Nat} {v : Value} {x y : Nat → Int} (h : w.ownsRow base e 2 v n (flat x y n)) : ∃ A c, v = .slice A n c ∧ Sl w A n c x y := by
  rcases own_pts h with ⟨rfl, rfl⟩ | ⟨g, cap, rfl, _, _, hn, hp⟩
  · exact ⟨none, 0, rfl, .inl ⟨rfl, rfl, rfl⟩⟩
  · exact ⟨_, cap, rfl, .inr (.inl ⟨g, 0, rfl, hn, hp⟩)⟩
theorem info29 : (Tryd.prog.info? 29).map (fun i => (i.zero, i.size, i.bytes)) = some (some (.agg #[.int .i64 0, .int .i64 0]), 2, 16) := by kernel_rfl
theorem flat_cells {w : World} {b off : Nat} {x y : Nat → Int} : ∀ n, Pts w b off n x y → ∀ j u, (flat x y n)[j]? = some u → w.cell? ⟨b, off + j, none⟩ = some u
  | 0, _, j, u, h => by simp [flat] at h
  | n + 1, hp, j, u, h => by
    have hl := flat_length x y n
    rw [flat] at h
    by_cases hj : j < n * 2
    · rw [List.getElem?_append_left (by omega)] at h
      exact flat_cells n (hp.less (by omega)) j u h
    · rw [List.getElem?_append_right (by omega), hl] at h
      have hj2 : j = n * 2 ∨ j = n * 2 + 1 := by
        have := (List.getElem?_eq_some_iff.1 h).1
        simp at this
        omega
      rcases hj2 with rfl | rfl
      · simp at h
        rw [← h]
        exact hp.c0 n (by omega)
      · rw [show n * 2 + 1 - n * 2 = 1 by omega] at h
        simp at h
        rw [← h, ← Nat.add_assoc]
        exact hp.c1 n (by omega)
theorem flat_one {x y : Nat → Int} : ∀ n u, u ∈ flat x y n → u.oneCell' = true
  | 0, u, h => by simp [flat] at h
  | n + 1, u, h => by
    rw [flat, List.mem_append] at h
    rcases h with h | h
    · exact flat_one n u h
    · simp at h
      rcases h with rfl | rfl <;> rfl
theorem own_lit (w : World) (t : TypeId) : (w.alloc (.cells #[] t)).ownsRow w.heap.size t 2 (.slice (some ⟨w.heap.size, 0, none⟩) 0 0) 0 [] :=
  ⟨rfl, .inr ⟨w.heap.size, 0, #[], rfl, Nat.le_refl _, blk_new w _, Nat.le_refl _, Nat.zero_le _, rfl, rfl⟩⟩
set_option maxHeartbeats 2000000 in
set_option maxRecDepth 100000 in
theorem Clone_zero (ad : Addr) (c : Nat) (w : World) : Calls Tryd.prog 64 #[.slice (some ad) 0 c] w fun e w' => ∃ v, e = .returned v ∧ w'.ownsRow w.heap.size 29 2 v 0 [] ∧ Below w.heap.size w w' := by
  have hx := fun w : World => Lib.run_eql_slice_nil (P := Tryd.prog) w 45 29 (some ad) 0 c 0 0 Tryd.underlying45
  obtain ⟨i0, hi0, hz0, hz1, hz2⟩ := info_parts info29
  have HI := Lib.hid hi0
  have HZ := Lib.hid (And.intro hz0 (And.intro hz1 hz2))
  clear hi0 hz0 hz1 hz2
  go_enter Tryd.func64, Tryd.ntmps64
  go_wp2_with (first | (at_builtin; refine wpList_append_own_at _ rfl (.tmp 5) (.tmp 6) 45 rfl w.heap.size 29 i0 _ 2 16 Tryd.underlying45 HI.out HZ.out.1 HZ.out.2.1 HZ.out.2.2 rfl (by decide) (.slice (some ⟨w.heap.size, 0, none⟩) 0 0) 0 [] rfl (own_lit w 29) ad 0 c [] rfl rfl (by simp) (by simp) (by decide) (by decide) (by simp) ?_; intro v1 w1 hown1 hgrow1 _ _; have HO := Lib.hid hown1; have HB := Lib.hid (own_grow (below_one (w := w) (.cells #[] 29)) (own_lit w 29) hgrow1); clear hown1 hgrow1) | go_in)
  go_ret
  exact ⟨_, rfl, HO.out, HB.out⟩
def mnN (a b : Nat) : Nat := if a ≤ b then a else b
set_option maxHeartbeats 2000000 in
set_option maxRecDepth 100000 in
theorem list_calls (A : Option Addr) (n c : Nat) (x y : Nat → Int) (w : World) (hA : Sl w A n c x y) (hc : c ≤ 9223372036854775807) :
    Calls Tryd.prog 41 #[.slice A n c] w fun e w' => (∃ A' c', e = .returned (.slice A' (mnN n 33) c') ∧ Sl w' A' (mnN n 33) c' x y) ∧ Below w.heap.size w w' := by
  rcases hA with ⟨rfl, rfl, rfl⟩ | ⟨b, off, rfl, hnc, hP⟩ | ⟨ad, rfl, rfl⟩
  · go_enter Tryd.func41, Tryd.ntmps41
    go_wp2_with fail
    refine (Tryd.slices_Clone_nil _ _ _).mono ?_
    rintro e w1 ⟨rfl, rfl⟩
    go_wp2
    go_ret
    exact ⟨⟨none, 0, rfl, .inl ⟨rfl, rfl, rfl⟩⟩, Below.refl _ _⟩
  · have hm : min (n : Int) 33 = (mnN n 33 : Nat) := by unfold mnN; split <;> omega
    have hmn : mnN n 33 ≤ n ∧ mnN n 33 ≤ 33 := by unfold mnN; split <;> omega
    have HP := Lib.hid (hP.less hmn.1)
    clear hP
    generalize mnN n 33 = m at hm hmn HP ⊢
    have hmc : m ≤ c := by omega
    obtain ⟨i0, hi0, hz0, hz1, hz2⟩ := info_parts info29
    have HC := Lib.hid (Tryd.slices_Clone i0 _ 2 16 hi0 hz0 hz1 hz2 rfl (by decide) (fun w => Tryd.sizeOf29 w) b off m c (flat x y m) w (flat_length x y m) (by unfold maxLen; omega) (by omega) (flat_cells m HP.out) (flat_one m))
    clear hi0 hz0 hz1 hz2
    go_enter Tryd.func41, Tryd.ntmps41
    go_wp2_with fail
    refine HC.out.mono ?_
    rintro e w1 ⟨v, rfl, hown, _, hb⟩
    have HO := Lib.hid (Sl.of_own hown)
    have HB := Lib.hid hb
    clear hown hb
    go_wp2
    go_ret
    obtain ⟨A', c', hv, hS⟩ := HO.out
    exact ⟨⟨A', c', by rw [hv]; rfl, hS⟩, HB.out⟩
  · have hm : min (0 : Int) 33 = 0 := by omega
    have HC := Lib.hid (fun c w => Clone_zero ad c w)
    go_enter Tryd.func41, Tryd.ntmps41
    go_wp2_with fail
    refine (HC.out _ _).mono ?_
    rintro e w1 ⟨v, rfl, hown, hb⟩
    have HO := Lib.hid (Sl.of_own (x := x) (y := y) (n := 0) hown)
    have HB := Lib.hid hb
    clear hown hb
    go_wp2
    go_ret
    obtain ⟨A', c', hv, hS⟩ := HO.out
    exact ⟨⟨A', c', by rw [hv]; rfl, hS⟩, HB.out⟩
set_option maxHeartbeats 2000000 in
set_option maxRecDepth 100000 in
theorem read_out (A : Option Addr) (n c : Nat) (w : World) (hn : n < 1 ∨ 30 < n) (hn63 : n ≤ 9223372036854775807) :
    Calls Tryd.prog 62 #[.slice A n c] w fun e w' => e = .returned (.tuple #[.slice none 0 0, .bool false]) ∧ Below w.heap.size w w' := by
  rcases hn with h | h
  · have h1 : (n : Int) < 1 := by omega
    go_enter Tryd.func62, Tryd.ntmps62
    go_wp2
    go_ret2
    exact ⟨rfl, Below.refl _ _⟩
  · have h1 : ¬ (n : Int) < 1 := by omega
    have h2 : (n : Int) > 30 := by omega
    go_enter Tryd.func62, Tryd.ntmps62
    go_wp2
    go_ret2
    exact ⟨rfl, Below.refl _ _⟩
def goodL (x y : Nat → Int) (n : Nat) : Bool := (decide (1 ≤ n) && decide (n ≤ 30)) && goodTo x y n
theorem read_all (A : Option Addr) (n c : Nat) (x y : Nat → Int) (w : World) (hA : Sl w A n c x y) (hn : n ≤ 9223372036854775807) :
    Calls Tryd.prog 62 #[.slice A n c] w fun e w' => ((goodL x y n = true ∧ ∃ A' c', e = .returned (.tuple #[.slice A' n c', .bool true]) ∧ Sl w' A' n c' x y) ∨ (goodL x y n = false ∧ e = .returned (.tuple #[.slice none 0 0, .bool false]))) ∧ Below w.heap.size w w' := by
  by_cases h : 1 ≤ n ∧ n ≤ 30
  · refine (read_any A n c x y w (fun h0 => ?_) h).mono ?_
    · rcases hA with ⟨_, h2, _⟩ | ⟨b, off, h1, _, h3⟩ | ⟨_, _, h2⟩
      · omega
      · exact ⟨b, off, h1, h3⟩
      · omega
    · rintro e w1 ⟨⟨h1, v, rfl, ho⟩ | ⟨h1, rfl⟩, hb⟩
      · obtain ⟨A', c', rfl, hS⟩ := Sl.of_own ho
        exact ⟨.inl ⟨by unfold goodL; rw [h1, decide_eq_true h.1, decide_eq_true h.2]; rfl, A', c', rfl, hS⟩, hb⟩
      · exact ⟨.inr ⟨by unfold goodL; rw [h1, Bool.and_false], rfl⟩, hb⟩
  · refine (read_out A n c w (by omega) hn).mono ?_
    rintro e w1 ⟨rfl, hb⟩
    refine ⟨.inr ⟨?_, rfl⟩, hb⟩
    unfold goodL
    by_cases h1 : 1 ≤ n
    · rw [decide_eq_false (show ¬ n ≤ 30 by omega), Bool.and_false, Bool.false_and]
    · rw [decide_eq_false h1]; rfl
end Go.Proofs.YtpfenoioeajkmaaDoor.X
end

section
set_option linter.unusedVariables false
set_option linter.unusedSimpArgs false
namespace Go.Proofs.YtpfenoioeajkmaaDoor.X
open Go.RowKit Go.Proofs.YtpfenoioeajkmaaDoorW.PrintWords Go.Proofs.YtpfenoioeajkmaaDoorW.PrintLast Go.Proofs.YtpfenoioeajkmaaDoorW.PrintMore
theorem ite_min (a b : Int) : (if b < a then b else a) = min a b := by split <;> omega
theorem ite_max (a b : Int) : (if a < b then b else a) = max a b := by split <;> omega
theorem run_min4 (a b c d : Int) (w : World) : (Builtin.min_ #[3, 3, 3, 3] 3 #[.int .i64 a, .int .i64 b, .int .i64 c, .int .i64 d]).run Tryd.prog w = .ok (.int .i64 (min (min (min a b) c) d)) w := by
  rw [min_four]
  simp only [min2_int, Sem.run_bind, Sem.run_pure, Result.andThen_ok, ite_min]
theorem run_max4 (a b c d : Int) (w : World) : (Builtin.max_ #[3, 3, 3, 3] 3 #[.int .i64 a, .int .i64 b, .int .i64 c, .int .i64 d]).run Tryd.prog w = .ok (.int .i64 (max (max (max a b) c) d)) w := by
  rw [max_four]
  simp only [max2_int, Sem.run_bind, Sem.run_pure, Result.andThen_ok, ite_max]
def near (v : Int × Int) : Bool := decide (-100 ≤ v.1 ∧ v.1 ≤ 100 ∧ -100 ≤ v.2 ∧ v.2 ≤ 100)
theorem mul_100 {a b : Int} (ha : -100 ≤ a ∧ a ≤ 100) (hb : -100 ≤ b ∧ b ≤ 100) : -10000 ≤ a * b ∧ a * b ≤ 10000 := by
  have h3 : (a * b).natAbs ≤ 100 * 100 := by rw [Int.natAbs_mul]; exact Nat.mul_le_mul (by omega) (by omega)
  omega
theorem mul_200 {a b : Int} (ha : -200 ≤ a ∧ a ≤ 200) (hb : -100 ≤ b ∧ b ≤ 100) : -20000 ≤ a * b ∧ a * b ≤ 20000 := by
  have h3 : (a * b).natAbs ≤ 200 * 100 := by rw [Int.natAbs_mul]; exact Nat.mul_le_mul (by omega) (by omega)
  omega
def hits (x y : Nat → Int) (v0 v1 u0 u1 D : Int) (i j : Nat) : Bool := Int.tmod ((x i - x j) * u1 - (y i - y j) * u0) D == 0 && Int.tmod (v0 * (y i - y j) - v1 * (x i - x j)) D == 0
def clear' (x y : Nat → Int) (v0 v1 u0 u1 D : Int) (k : Nat) : Prop := ∀ i j, i < k → j < i → hits x y v0 v1 u0 u1 D i j = false
set_option maxHeartbeats 4000000 in
set_option maxRecDepth 100000 in
theorem Fills_room (A : Option Addr) (n c : Nat) (x y : Nat → Int) (v0 v1 u0 u1 : Int) (w : World) (hA : Sl w A n c x y) (hn : n ≤ 9223372036854775807) (hg : goodL x y n = true)
    (hv : (-100 ≤ v0 ∧ v0 ≤ 100) ∧ (-100 ≤ v1 ∧ v1 ≤ 100) ∧ (-100 ≤ u0 ∧ u0 ≤ 100) ∧ (-100 ≤ u1 ∧ u1 ≤ 100)) (D : Int) (hD : v0 * u1 - v1 * u0 = D) (hr : ¬ max D (-D) = n) :
    Calls Tryd.prog 40 #[.slice A n c, ptV v0 v1, ptV u0 u1] w fun e w' => e = .returned (.tuple #[.bool false, .int .i64 0]) ∧ Below w.heap.size w w' := by
  have HA := Lib.hid hA
  have HG := Lib.hid hg
  obtain ⟨k1, k2, k3, k4⟩ := hv
  have p1 := mul_100 k1 k4
  have p2 := mul_100 k2 k3
  have hdet : wrap64 (wrap64 (v0 * u1) - wrap64 (v1 * u0)) = D := by
    rw [← hD]
    generalize v0 * u1 = a at *
    generalize v1 * u0 = b at *
    unfold wrap64
    omega
  have hDb : -20000 ≤ D ∧ D ≤ 20000 := by
    rw [← hD]
    generalize v0 * u1 = a at *
    generalize v1 * u0 = b at *
    omega
  have hneg : wrap64 (-D) = -D := by unfold wrap64; omega
  have hb2 : -100 ≤ min (min (min v0 v1) u0) u1 := by omega
  have hb3 : max (max (max v0 v1) u0) u1 ≤ 100 := by omega
  clear hA hg p1 p2 hD k1 k2 k3 k4
  unfold ptV
  go_enter Tryd.func40, Tryd.ntmps40
  go_wp2_with fail
  refine (read_all A n c x y _ (HA.out.later ((below_one _).alloc (by simp) _)) hn).mono ?_
  rintro e w1 ⟨⟨h1, A', c', rfl, hS⟩ | ⟨h1, rfl⟩, hb1⟩
  · have HB := Lib.hid (((below_one (w := w) _).alloc (by simp) _).trans (hb1.mono (by simp; omega)))
    have a0 : w1.cell? ⟨w.heap.size, 0, none⟩ = some (.int .i64 v0) := by rw [hb1.cell (p := ⟨w.heap.size, 0, none⟩) (by simp; omega)]; simp
    have a1 : w1.cell? ⟨w.heap.size, 1, none⟩ = some (.int .i64 v1) := by rw [hb1.cell (p := ⟨w.heap.size, 1, none⟩) (by simp; omega)]; simp
    have a2 : w1.cell? ⟨w.heap.size + 1, 0, none⟩ = some (.int .i64 u0) := by rw [hb1.cell (p := ⟨w.heap.size + 1, 0, none⟩) (by simp)]; simp
    have a3 : w1.cell? ⟨w.heap.size + 1, 1, none⟩ = some (.int .i64 u1) := by rw [hb1.cell (p := ⟨w.heap.size + 1, 1, none⟩) (by simp)]; simp
    clear h1 hb1 hS
    have hmin := fun w => run_min4 v0 v1 u0 u1 w
    have hmax := fun w => run_max4 v0 v1 u0 u1 w
    generalize min (min (min v0 v1) u0) u1 = MN at hmin hb2
    generalize max (max (max v0 v1) u0) u1 = MX at hmax hb3
    have hne : (max D (-D) == (n : Int)) = false := by simp [hr]
    clear hDb
    go_wp2
    go_ret2
    exact ⟨rfl, HB.out⟩
  · rw [HG.out] at h1; cases h1
theorem goodL_at {x y : Nat → Int} {n : Nat} (h : goodL x y n = true) : (1 ≤ n ∧ n ≤ 30) ∧ ∀ i, i < n → -100 ≤ x i ∧ x i ≤ 100 ∧ -100 ≤ y i ∧ y i ≤ 100 := by
  unfold goodL at h
  rw [Bool.and_eq_true, Bool.and_eq_true, decide_eq_true_eq, decide_eq_true_eq] at h
  exact ⟨h.1, fun i hi => (goodTo_at h.2 hi).1⟩
theorem q_small {a b c d : Int} (ha : -200 ≤ a ∧ a ≤ 200) (hb : -100 ≤ b ∧ b ≤ 100) (hc : -200 ≤ c ∧ c ≤ 200) (hd : -100 ≤ d ∧ d ≤ 100) : wrap64 (wrap64 (a * b) - wrap64 (c * d)) = a * b - c * d := by
  have p1 := mul_200 ha hb
  have p2 := mul_200 hc hd
  generalize a * b = e at *
  generalize c * d = f at *
  unfold wrap64
  omega
theorem two_cells (w : World) (t : TypeId) (u v : Value) : (w.alloc (.cells #[u, v] t)).cell? ⟨w.heap.size, 0, none⟩ = some u ∧ (w.alloc (.cells #[u, v] t)).cell? ⟨w.heap.size, 1, none⟩ = some v := by constructor <;> simp
set_option maxHeartbeats 8000000 in
set_option maxRecDepth 100000 in
theorem Fills_loop (A : Option Addr) (n c : Nat) (x y : Nat → Int) (v0 v1 u0 u1 : Int) (w : World) (hA : Sl w A n c x y) (hn : n ≤ 9223372036854775807) (hg : goodL x y n = true)
    (hv : (-100 ≤ v0 ∧ v0 ≤ 100) ∧ (-100 ≤ v1 ∧ v1 ≤ 100) ∧ (-100 ≤ u0 ∧ u0 ≤ 100) ∧ (-100 ≤ u1 ∧ u1 ≤ 100)) (D : Int) (hD : v0 * u1 - v1 * u0 = D) (hr : max D (-D) = n) (r : Bool) (hres : r = true ↔ clear' x y v0 v1 u0 u1 D n) :
    Calls Tryd.prog 40 #[.slice A n c, ptV v0 v1, ptV u0 u1] w fun e w' => e = .returned (.tuple #[.bool r, .int .i64 0]) ∧ Below w.heap.size w w' := by
  obtain ⟨⟨hn1, hn30⟩, hxy⟩ := goodL_at hg
  have HA := Lib.hid hA
  have HG := Lib.hid hg
  have HR := Lib.hid hres
  have HX := Lib.hid hxy
  have HV := Lib.hid hv
  obtain ⟨k1, k2, k3, k4⟩ := hv
  have p1 := mul_100 k1 k4
  have p2 := mul_100 k2 k3
  have hdet : wrap64 (wrap64 (v0 * u1) - wrap64 (v1 * u0)) = D := by
    rw [← hD]
    generalize v0 * u1 = a at *
    generalize v1 * u0 = b at *
    unfold wrap64
    omega
  have hDb : -20000 ≤ D ∧ D ≤ 20000 := by
    rw [← hD]
    generalize v0 * u1 = a at *
    generalize v1 * u0 = b at *
    omega
  have hneg : wrap64 (-D) = -D := by unfold wrap64; omega
  have hD0 : D ≠ 0 := by omega
  have hb2 : -100 ≤ min (min (min v0 v1) u0) u1 := by omega
  have hb3 : max (max (max v0 v1) u0) u1 ≤ 100 := by omega
  clear hA hg p1 p2 hD k1 k2 k3 k4 hres hxy
  unfold ptV
  go_enter Tryd.func40, Tryd.ntmps40
  go_wp2_with fail
  refine (read_all A n c x y _ (HA.out.later ((below_one _).alloc (by simp) _)) hn).mono ?_
  rintro e w1 ⟨⟨h1, A', c', rfl, hS⟩ | ⟨h1, rfl⟩, hb1⟩
  · have HB := Lib.hid (((below_one (w := w) _).alloc (by simp) _).trans (hb1.mono (by simp; omega)))
    have a0 : w1.cell? ⟨w.heap.size, 0, none⟩ = some (.int .i64 v0) := by rw [hb1.cell (p := ⟨w.heap.size, 0, none⟩) (by simp; omega)]; simp
    have a1 : w1.cell? ⟨w.heap.size, 1, none⟩ = some (.int .i64 v1) := by rw [hb1.cell (p := ⟨w.heap.size, 1, none⟩) (by simp; omega)]; simp
    have a2 : w1.cell? ⟨w.heap.size + 1, 0, none⟩ = some (.int .i64 u0) := by rw [hb1.cell (p := ⟨w.heap.size + 1, 0, none⟩) (by simp)]; simp
    have a3 : w1.cell? ⟨w.heap.size + 1, 1, none⟩ = some (.int .i64 u1) := by rw [hb1.cell (p := ⟨w.heap.size + 1, 1, none⟩) (by simp)]; simp
    have g1 : w.heap.size + 1 < w1.heap.size := World.block_lt_of_cell? _ _ a2
    obtain ⟨b, off, rfl, hnc, hP⟩ : ∃ b off, A' = some ⟨b, off, none⟩ ∧ n ≤ c' ∧ Pts w1 b off n x y := by
      rcases hS with ⟨_, h2, _⟩ | h | ⟨_, _, h2⟩
      · omega
      · exact h
      · omega
    have HP := Lib.hid hP
    clear h1 hb1 hS hP HA
    have hmin := fun w => run_min4 v0 v1 u0 u1 w
    have hmax := fun w => run_max4 v0 v1 u0 u1 w
    generalize min (min (min v0 v1) u0) u1 = MN at hmin hb2
    generalize max (max (max v0 v1) u0) u1 = MX at hmax hb3
    have hne : (max D (-D) == (n : Int)) = true := by simp [hr]
    clear hDb
    go_wp2_with fail
    rw [hdet]
    clear hdet hneg hmin hmax hb2 hb3 hne hr
    have HC := Lib.hid (And.intro a0 (And.intro a1 (And.intro a2 a3)))
    clear a0 a1 a2 a3
    have HB1 := Lib.hid (Below.refl w1.heap.size w1)
    go_loopw [67] (fun i wr => ∃ k : Nat, k ≤ n ∧ i = .int .i64 k ∧ Hid (clear' x y v0 v1 u0 u1 D k) ∧ Hid (Below w1.heap.size w1 wr)) (fun i _ => n - (intOf i).toNat)
    case atStart => exact ⟨0, by omega, rfl, Lib.hid (fun i j h => by omega), HB1⟩
    case round =>
      clear HB1
      obtain ⟨k, hk, rfl, HK, HB1⟩ := hrel
      by_cases hlt : k < n
      · have hp := HP.out.later HB1.out
        have q0 := hp.c0 k hlt
        have q1 := hp.c1 k hlt
        have hkc : k ≤ c' := by omega
        clear hp
        go_wp2_with fail
        obtain ⟨c0, c1⟩ := two_cells wr 63 (.int .i64 (x k)) (.int .i64 (y k))
        have hbo : Below w1.heap.size w1 (wr.alloc (.cells #[.int .i64 (x k), .int .i64 (y k)] 63)) := HB1.out.trans ((below_one _).mono HB1.out.size)
        generalize wr.heap.size = G at c0 c1 ⊢
        generalize wr.alloc (.cells #[.int .i64 (x k), .int .i64 (y k)] 63) = wo at c0 c1 hbo ⊢
        have HO := Lib.hid hbo
        have HC0 := Lib.hid (And.intro c0 c1)
        have HB2 := Lib.hid (Below.refl wo.heap.size wo)
        clear hbo c0 c1 q0 q1
        clear HB1
        clear wr
        go_loopw [76] (fun j wr => ∃ m : Nat, m ≤ k ∧ j = .int .i64 m ∧ Hid (∀ j, j < m → hits x y v0 v1 u0 u1 D k j = false) ∧ Hid (Below wo.heap.size wo wr)) (fun j _ => k - (intOf j).toNat)
        case atStart => exact ⟨0, by omega, rfl, Lib.hid (fun j h => by omega), HB2⟩
        case round =>
          clear HB2
          obtain ⟨m, hm, rfl, HM, HB2⟩ := hrel
          by_cases hmt : m < k
          · have hw1 := HO.out.trans (HB2.out.mono HO.out.size)
            have hp := HP.out.later hw1
            have q0 := hp.c0 m (by omega)
            have q1 := hp.c1 m (by omega)
            have c0 := (HB2.out.cell (p := ⟨G, 0, none⟩) (World.block_lt_of_cell? _ _ HC0.out.1)).trans HC0.out.1
            have c1 := (HB2.out.cell (p := ⟨G, 1, none⟩) (World.block_lt_of_cell? _ _ HC0.out.2)).trans HC0.out.2
            have hGl : G < wr.heap.size := World.block_lt_of_cell? _ _ c0
            have c0' := ((below_one (w := wr) (.cells #[.int .i64 (x m), .int .i64 (y m)] 63)).cell (p := ⟨G, 0, none⟩) hGl).trans c0
            have c1' := ((below_one (w := wr) (.cells #[.int .i64 (x m), .int .i64 (y m)] 63)).cell (p := ⟨G, 1, none⟩) hGl).trans c1
            have HW1 := Lib.hid hw1
            clear hp c0 c1 hw1
            go_wp2_with fail
            refine (minus_calls (x k) (y k) (x m) (y m) _).mono ?_
            rintro e w5 ⟨rfl, hb5⟩
            have hxk := HX.out k hlt
            have hxm := HX.out m (by omega)
            have hdx : wrap64 (x k - x m) = x k - x m := by unfold wrap64; omega
            have hdy : wrap64 (y k - y m) = y k - y m := by unfold wrap64; omega
            rw [hdx, hdy]
            have hq1 := q_small (a := x k - x m) (b := u1) (c := y k - y m) (d := u0) (by omega) HV.out.2.2.2 (by omega) HV.out.2.2.1
            have hq2 : wrap64 (wrap64 (v0 * (y k - y m)) - wrap64 (v1 * (x k - x m))) = v0 * (y k - y m) - v1 * (x k - x m) := by
              have := q_small (a := y k - y m) (b := v0) (c := x k - x m) (d := v1) (by omega) HV.out.1 (by omega) HV.out.2.1
              rw [Int.mul_comm v0, Int.mul_comm v1]
              exact this
            have hh : hits x y v0 v1 u0 u1 D k m = (Int.tmod ((x k - x m) * u1 - (y k - y m) * u0) D == 0 && Int.tmod (v0 * (y k - y m) - v1 * (x k - x m)) D == 0) := rfl
            generalize (x k - x m) * u1 - (y k - y m) * u0 = Q1 at hq1 hh
            generalize v0 * (y k - y m) - v1 * (x k - x m) = Q2 at hq2 hh
            unfold ptV
            generalize x k - x m = dx at hq1 hq2 ⊢
            generalize y k - y m = dy at hq1 hq2 ⊢
            have hb6 : Below w1.heap.size w1 (w5.alloc (.cells #[.int .i64 dx, .int .i64 dy] 63)) := HW1.out.trans ((((below_one _).trans (hb5.mono (by simp))).trans ((below_one _).mono (by have := hb5.size; simp at this; omega))).mono HW1.out.size)
            have hb7 : Below wo.heap.size wo (w5.alloc (.cells #[.int .i64 dx, .int .i64 dy] 63)) := HB2.out.trans ((((below_one _).trans (hb5.mono (by simp))).trans ((below_one _).mono (by have := hb5.size; simp at this; omega))).mono HB2.out.size)
            have r0 := (hb6.cell (p := ⟨w.heap.size, 0, none⟩) (by simp; omega)).trans HC.out.1
            have r1 := (hb6.cell (p := ⟨w.heap.size, 1, none⟩) (by simp; omega)).trans HC.out.2.1
            have r2 := (hb6.cell (p := ⟨w.heap.size + 1, 0, none⟩) (by simp; omega)).trans HC.out.2.2.1
            have r3 := (hb6.cell (p := ⟨w.heap.size + 1, 1, none⟩) (by simp; omega)).trans HC.out.2.2.2
            have HB7 := Lib.hid hb7
            have HB6 := Lib.hid hb6
            have HH := Lib.hid hh
            clear hb5 hb6 hb7 hxk hxm hdx hdy q0 q1 c0' c1' hh hGl
            cases t1 : (Int.tmod Q1 D == 0) with
            | false =>
              go_wp2_with fail
              refine ⟨⟨m + 1, by omega, by go_num, Lib.hid (fun j h1 => ?_), HB7⟩, by simp [intOf]; omega⟩
              by_cases e : j = m
              · subst e
                rw [HH.out, t1]
                rfl
              · exact HM.out j (by omega)
            | true =>
              cases t2 : (Int.tmod Q2 D == 0) with
              | false =>
                go_wp2_with fail
                refine ⟨⟨m + 1, by omega, by go_num, Lib.hid (fun j h1 => ?_), HB7⟩, by simp [intOf]; omega⟩
                by_cases e : j = m
                · subst e
                  rw [HH.out, t1, t2]
                  rfl
                · exact HM.out j (by omega)
              | true =>
                have hrf : r = false := by
                  rw [Bool.eq_false_iff]
                  intro q
                  have := HR.out.1 q k m hlt hmt
                  rw [HH.out, t1, t2] at this
                  cases this
                clear HR
                subst hrf
                go_wp2
                go_ret2
                exact ⟨rfl, HB.out.trans (HB6.out.mono HB.out.size)⟩
          · obtain rfl : m = k := by omega
            go_wp2_with fail
            refine ⟨⟨m + 1, by omega, by go_num, Lib.hid (fun i j h1 h2 => ?_), Lib.hid (HO.out.trans (HB2.out.mono HO.out.size))⟩, by simp [intOf]; omega⟩
            by_cases e : i = m
            · subst e
              exact HM.out j h2
            · exact HK.out i j (by omega) h2
      · obtain rfl : k = n := by omega
        have hrt : r = true := HR.out.2 HK.out
        clear HR
        subst hrt
        go_wp2
        go_ret2
        exact ⟨rfl, HB.out.trans (HB1.out.mono HB.out.size)⟩
  · rw [HG.out] at h1; cases h1
end Go.Proofs.YtpfenoioeajkmaaDoor.X
end

section
set_option linter.unusedVariables false
set_option linter.unusedSimpArgs false
namespace Go.Proofs.YtpfenoioeajkmaaDoor.X
open Go.RowKit Go.Proofs.YtpfenoioeajkmaaDoorW.PrintWords Go.Proofs.YtpfenoioeajkmaaDoorW.PrintLast Go.Proofs.YtpfenoioeajkmaaDoorW.PrintMore
theorem cmpP_iff (a b c d : Int) : cmpP a b c d < 0 ↔ a < c ∨ (a = c ∧ b < d) := by
  unfold cmpP cmpI
  by_cases h1 : a < c
  · simp [h1]
  · by_cases h2 : a > c
    · simp [h1, h2]
      omega
    · have : a = c := by omega
      subst this
      simp
      by_cases h3 : b < d
      · simp [h3]
      · by_cases h4 : d < b
        · simp [h3, h4]
        · simp [h3, h4]
end Go.Proofs.YtpfenoioeajkmaaDoor.X
end

section
set_option linter.unusedVariables false
set_option linter.unusedSimpArgs false
namespace Go.Proofs.YtpfenoioeajkmaaDoor.X
open Go.RowKit Go.Proofs.YtpfenoioeajkmaaDoorW.PrintWords Go.Proofs.YtpfenoioeajkmaaDoorW.PrintLast Go.Proofs.YtpfenoioeajkmaaDoorW.PrintMore Go.Proofs.YtpfenoioeajkmaaDoor.L
def rcb (X Y x y c : Int) : Int := if x < X ∧ c = 117 ∧ Y = y then 1 else if x < X ∧ c = 100 ∧ Y = y + 1 then -1 else 0
def cntTo (s : ByteArray) (x y : Int) : Nat → Int
  | 0 => 0
  | k + 1 => cntTo s x y k + rcb (sumx s k) (rsumy s k) x y (bt s k)
def flatP : List (Int × Int) → List Value
  | [] => []
  | p :: l => [.int .i64 p.1, .int .i64 p.2] ++ flatP l
theorem flatP_app : ∀ (l m : List (Int × Int)), flatP (l ++ m) = flatP l ++ flatP m
  | [], m => rfl
  | p :: l, m => by rw [List.cons_append, flatP, flatP, flatP_app l m, List.append_assoc]
theorem flatP_one (x y : Int) : flatP [(x, y)] = [.int .i64 x, .int .i64 y] := List.append_nil _
def colTo (s : ByteArray) (x : Int) : Nat → List (Int × Int)
  | 0 => []
  | m + 1 => colTo s x m ++ if cntTo s x ((m : Int) - 24) s.size = 1 then [(x, (m : Int) - 24)] else []
def cellsTo (s : ByteArray) : Nat → List (Int × Int)
  | 0 => []
  | m + 1 => cellsTo s m ++ colTo s ((m : Int) - 24) 49
def OwnP (B : Nat) (e : TypeId) (w : World) (v : Value) (l : List (Int × Int)) : Prop := w.ownsRow B e 2 v l.length (flatP l)
end Go.Proofs.YtpfenoioeajkmaaDoor.X
end

section
set_option linter.unusedVariables false
set_option linter.unusedSimpArgs false
namespace Go.Proofs.YtpfenoioeajkmaaDoor.X
open Go.RowKit Go.Proofs.YtpfenoioeajkmaaDoorW.PrintWords Go.Proofs.YtpfenoioeajkmaaDoorW.PrintLast Go.Proofs.YtpfenoioeajkmaaDoorW.PrintMore Go.Proofs.YtpfenoioeajkmaaDoor.L
def pX (l : List (Int × Int)) (i : Nat) : Int := (l.getD i (0, 0)).1
def pY (l : List (Int × Int)) (i : Nat) : Int := (l.getD i (0, 0)).2
theorem flat_take (l : List (Int × Int)) : ∀ k, k ≤ l.length → flat (pX l) (pY l) k = flatP (l.take k)
  | 0, _ => rfl
  | k + 1, h => by
    have hk : k < l.length := by omega
    rw [flat, flat_take l k (by omega), List.take_succ_eq_append_getElem hk, flatP_app]
    congr 1
    show [Value.int .i64 (pX l k), Value.int .i64 (pY l k)] = [.int .i64 l[k].1, .int .i64 l[k].2] ++ []
    unfold pX pY
    rw [List.getD_eq_getElem?_getD, List.getElem?_eq_getElem hk]
    rfl
theorem flat_list (l : List (Int × Int)) : flat (pX l) (pY l) l.length = flatP l := by
  rw [flat_take l _ (Nat.le_refl _), List.take_length]
theorem sl_list {B e : Nat} {w : World} {v : Value} {l : List (Int × Int)} (h : OwnP B e w v l) : ∃ A c, v = .slice A l.length c ∧ Sl w A l.length c (pX l) (pY l) := by
  unfold OwnP at h
  rw [← flat_list] at h
  exact Sl.of_own h
end Go.Proofs.YtpfenoioeajkmaaDoor.X
end

section
set_option linter.unusedVariables false
set_option linter.unusedSimpArgs false
namespace Go.Proofs.YtpfenoioeajkmaaDoor.G
def S (n : Nat) (f : Nat → Int) : Int := match n with
  | 0 => 0
  | n + 1 => S n f + f n
theorem S_succ (n : Nat) (f : Nat → Int) : S (n + 1) f = S n f + f n := rfl
theorem S_congr {n : Nat} {f g : Nat → Int} (h : ∀ i, i < n → f i = g i) : S n f = S n g := by
  induction n with
  | zero => rfl
  | succ n ih => rw [S_succ, S_succ, ih fun i hi => h i (by omega), h n (by omega)]
theorem S_add (n : Nat) (f g : Nat → Int) : S n (fun i => f i + g i) = S n f + S n g := by
  induction n with
  | zero => rfl
  | succ n ih => rw [S_succ, S_succ, S_succ, ih]; omega
theorem S_sub (n : Nat) (f g : Nat → Int) : S n (fun i => f i - g i) = S n f - S n g := by
  induction n with
  | zero => rfl
  | succ n ih => rw [S_succ, S_succ, S_succ, ih]; omega
theorem S_neg (n : Nat) (f : Nat → Int) : S n (fun i => -f i) = -S n f := by
  induction n with
  | zero => rfl
  | succ n ih => rw [S_succ, S_succ, ih]; omega
theorem S_mul (n : Nat) (c : Int) (f : Nat → Int) : S n (fun i => c * f i) = c * S n f := by
  induction n with
  | zero => exact (Int.mul_zero c).symm
  | succ n ih => rw [S_succ, S_succ, ih, Int.mul_add]
theorem S_zero {n : Nat} {f : Nat → Int} (h : ∀ i, i < n → f i = 0) : S n f = 0 := by
  induction n with
  | zero => rfl
  | succ n ih => rw [S_succ, ih fun i hi => h i (by omega), h n (by omega)]; rfl
theorem S_const (n : Nat) (c : Int) : S n (fun _ => c) = n * c := by
  induction n with
  | zero => exact (Int.zero_mul c).symm
  | succ n ih => rw [S_succ, ih, Int.natCast_succ, Int.add_mul, Int.one_mul]
theorem S_swap (n m : Nat) (f : Nat → Nat → Int) : S n (fun i => S m (fun j => f i j)) = S m (fun j => S n (fun i => f i j)) := by
  induction n with
  | zero => exact (S_zero fun _ _ => rfl).symm
  | succ n ih => rw [S_succ, ih, ← S_add]; rfl
theorem S_tel (n : Nat) (f : Nat → Int) : S n (fun i => f (i + 1) - f i) = f n - f 0 := by
  induction n with
  | zero => exact (Int.sub_self _).symm
  | succ n ih => rw [S_succ, ih]; omega
theorem S_one {n k : Nat} {f : Nat → Int} (hk : k < n) (h : ∀ i, i < n → i ≠ k → f i = 0) : S n f = f k := by
  induction n with
  | zero => omega
  | succ n ih =>
    rw [S_succ]
    by_cases e : k = n
    · subst e
      rw [S_zero fun i hi => h i (by omega) (by omega)]
      omega
    · rw [ih (by omega) fun i hi hne => h i (by omega) hne, h n (by omega) (by omega)]
      omega
theorem S_le {n : Nat} {f g : Nat → Int} (h : ∀ i, i < n → f i ≤ g i) : S n f ≤ S n g := by
  induction n with
  | zero => exact Int.le_refl _
  | succ n ih => rw [S_succ, S_succ]; have := ih fun i hi => h i (by omega); have := h n (by omega); omega
theorem S_head (n : Nat) (f : Nat → Int) : S (n + 1) f = f 0 + S n (fun i => f (i + 1)) := by
  induction n with
  | zero => rw [S_succ]; show 0 + f 0 = f 0 + 0; omega
  | succ n ih => rw [S_succ, ih, S_succ]; omega
theorem S_split (n m : Nat) (f : Nat → Int) : S (n + m) f = S n f + S m (fun i => f (n + i)) := by
  induction m with
  | zero => show S n f = S n f + 0; omega
  | succ m ih => rw [← Nat.add_assoc, S_succ, S_succ, ih]; omega
theorem S_pos {n : Nat} {f : Nat → Int} (h : 0 < S n f) : ∃ i, i < n ∧ 0 < f i := by
  refine Classical.byContradiction fun q => ?_
  have h2 : S n f ≤ S n (fun _ => 0) := S_le fun i hi => by
    have : ¬ 0 < f i := fun p => q ⟨i, hi, p⟩
    omega
  rw [S_zero (f := fun _ => 0) fun _ _ => rfl] at h2
  omega
def Z (K : Nat) (f : Int → Int) : Int := S (2 * K) fun i => f ((i : Int) - K)
theorem Z_congr {K : Nat} {f g : Int → Int} (h : ∀ x, -(K : Int) ≤ x → x < K → f x = g x) : Z K f = Z K g := S_congr fun i hi => h _ (by omega) (by omega)
theorem Z_add (K : Nat) (f g : Int → Int) : Z K (fun x => f x + g x) = Z K f + Z K g := S_add _ _ _
theorem Z_sub (K : Nat) (f g : Int → Int) : Z K (fun x => f x - g x) = Z K f - Z K g := S_sub _ _ _
theorem Z_mul (K : Nat) (c : Int) (f : Int → Int) : Z K (fun x => c * f x) = c * Z K f := S_mul _ _ _
theorem Z_zero {K : Nat} {f : Int → Int} (h : ∀ x, -(K : Int) ≤ x → x < K → f x = 0) : Z K f = 0 := S_zero fun i hi => h _ (by omega) (by omega)
theorem Z_S (K n : Nat) (f : Int → Nat → Int) : Z K (fun x => S n (fun i => f x i)) = S n (fun i => Z K (fun x => f x i)) := S_swap _ _ _
theorem Z_one {K : Nat} {a : Int} {f : Int → Int} (h1 : -(K : Int) ≤ a) (h2 : a < K) (h : ∀ x, x ≠ a → f x = 0) : Z K f = f a := by
  unfold Z
  rw [S_one (k := (a + K).toNat) (by omega) fun i hi hne => h _ (by omega)]
  congr 1
  omega
theorem Z_le {K : Nat} {f g : Int → Int} (h : ∀ x, -(K : Int) ≤ x → x < K → f x ≤ g x) : Z K f ≤ Z K g := S_le fun i hi => h _ (by omega) (by omega)
theorem Z_pos {K : Nat} {f : Int → Int} (h : 0 < Z K f) : ∃ x, -(K : Int) ≤ x ∧ x < K ∧ 0 < f x := by
  obtain ⟨i, hi, hp⟩ := S_pos h
  exact ⟨_, by omega, by omega, hp⟩
theorem Z_shift {K : Nat} {f : Int → Int} (h1 : f (-(K : Int) - 1) = 0) (h2 : f ((K : Int) - 1) = 0) : Z K (fun x => f (x - 1)) = Z K f := by
  have h := S_tel (2 * K) fun i => f ((i : Int) - K - 1)
  rw [S_sub] at h
  have e1 : S (2 * K) (fun i => f (((i + 1 : Nat) : Int) - K - 1)) = Z K f := S_congr fun i _ => by congr 1; omega
  have e2 : S (2 * K) (fun i => f ((i : Int) - K - 1)) = Z K (fun x => f (x - 1)) := rfl
  rw [e1, e2, show ((2 * K : Nat) : Int) - K - 1 = (K : Int) - 1 by omega, show ((0 : Nat) : Int) - K - 1 = -(K : Int) - 1 by omega, h1, h2] at h
  omega
theorem Z_count {K : Nat} {a : Int} (h1 : -(K : Int) ≤ a) (h2 : a ≤ K) : Z K (fun x => if x < a then 1 else 0) = a + K := by
  unfold Z
  have : ∀ m : Nat, S m (fun i => if (i : Int) - K < a then 1 else 0) = if (m : Int) ≤ a + K then (m : Int) else a + K := by
    intro m
    induction m with
    | zero => rw [if_pos (by omega)]; rfl
    | succ m ih =>
      rw [S_succ, ih]
      by_cases e : (m : Int) - K < a
      · rw [if_pos e, if_pos (by omega), if_pos (by omega)]; omega
      · rw [if_neg e]
        split <;> split <;> omega
  rw [this]
  split <;> omega
end Go.Proofs.YtpfenoioeajkmaaDoor.G
end

section
set_option linter.unusedVariables false
set_option linter.unusedSimpArgs false
namespace Go.Proofs.YtpfenoioeajkmaaDoor.G
def ux (d : Nat) : Int := if d = 0 then 1 else if d = 2 then -1 else 0
def uy (d : Nat) : Int := if d = 1 then 1 else if d = 3 then -1 else 0
structure Loop (n : Nat) (X Y : Nat → Int) (D : Nat → Nat) : Prop where
  n4 : 4 ≤ n
  d4 : ∀ i, D i < 4
  sx : ∀ i, X (i + 1) = X i + ux (D i)
  sy : ∀ i, Y (i + 1) = Y i + uy (D i)
  px : ∀ i, X (i + n) = X i
  py : ∀ i, Y (i + n) = Y i
  pd : ∀ i, D (i + n) = D i
  inj : ∀ i j, X i = X j → Y i = Y j → i % n = j % n
theorem d_cases {d : Nat} (h : d < 4) : d = 0 ∨ d = 1 ∨ d = 2 ∨ d = 3 := by omega
def wi (X Y : Nat → Int) (D : Nat → Nat) (x y : Int) (i : Nat) : Int := if D i = 1 ∧ x < X i ∧ Y i = y then 1 else if D i = 3 ∧ x < X i ∧ Y i = y + 1 then -1 else 0
def W (n : Nat) (X Y : Nat → Int) (D : Nat → Nat) (x y : Int) : Int := S n (wi X Y D x y)
def cx (a : Int) (k : Nat) : Int := if k = 0 then a else if k = 1 then a - 1 else if k = 2 then a - 1 else a
def cy (b : Int) (k : Nat) : Int := if k = 0 then b else if k = 1 then b else if k = 2 then b - 1 else b - 1
def ti (X Y : Nat → Int) (D : Nat → Nat) (a b : Int) (k i : Nat) : Int :=
  (if D i = k ∧ X i = a ∧ Y i = b then 1 else 0) - (if D i = (k + 2) % 4 ∧ X (i + 1) = a ∧ Y (i + 1) = b then 1 else 0)
section
variable {n : Nat} {X Y : Nat → Int} {D : Nat → Nat}
theorem Loop.mod_x (L : Loop n X Y D) (i : Nat) : X (i % n) = X i := by
  have : ∀ q r, X (r + q * n) = X r := fun q r => by
    induction q with
    | zero => rw [Nat.zero_mul, Nat.add_zero]
    | succ q ih => rw [Nat.succ_mul, ← Nat.add_assoc, L.px, ih]
  rw [← this (i / n) (i % n), Nat.mul_comm, Nat.mod_add_div]
theorem Loop.mod_y (L : Loop n X Y D) (i : Nat) : Y (i % n) = Y i := by
  have : ∀ q r, Y (r + q * n) = Y r := fun q r => by
    induction q with
    | zero => rw [Nat.zero_mul, Nat.add_zero]
    | succ q ih => rw [Nat.succ_mul, ← Nat.add_assoc, L.py, ih]
  rw [← this (i / n) (i % n), Nat.mul_comm, Nat.mod_add_div]
theorem Loop.mod_d (L : Loop n X Y D) (i : Nat) : D (i % n) = D i := by
  have : ∀ q r, D (r + q * n) = D r := fun q r => by
    induction q with
    | zero => rw [Nat.zero_mul, Nat.add_zero]
    | succ q ih => rw [Nat.succ_mul, ← Nat.add_assoc, L.pd, ih]
  rw [← this (i / n) (i % n), Nat.mul_comm, Nat.mod_add_div]
theorem mod_add_cancel {n b i j : Nat} (h : (b + i) % n = (b + j) % n) : i % n = j % n := by
  have e : ((i : Int) % n) = ((j : Int) % n) := by
    have h1 : (((b + i : Nat) : Int) % n) = (((b + j : Nat) : Int) % n) := by rw [← Int.natCast_emod, ← Int.natCast_emod, h]
    rw [Int.emod_eq_emod_iff_emod_sub_eq_zero] at h1 ⊢
    rw [← h1]
    congr 1
    omega
  rw [← Int.natCast_emod, ← Int.natCast_emod] at e
  exact Int.ofNat_inj.1 e
theorem Loop.shift (L : Loop n X Y D) (b : Nat) : Loop n (fun i => X (b + i)) (fun i => Y (b + i)) (fun i => D (b + i)) where
  n4 := L.n4
  d4 i := L.d4 _
  sx i := L.sx _
  sy i := L.sy _
  px i := by have := L.px (b + i); rwa [Nat.add_assoc] at this
  py i := by have := L.py (b + i); rwa [Nat.add_assoc] at this
  pd i := by have := L.pd (b + i); rwa [Nat.add_assoc] at this
  inj i j hx hy := mod_add_cancel (L.inj _ _ hx hy)
theorem mod_ne_add {n d i : Nat} (h0 : 0 < d) (h1 : d < n) : (i + d) % n ≠ i % n := by
  intro h
  have : d % n = 0 % n := mod_add_cancel (b := i) (by rw [Nat.add_zero]; exact h)
  rw [Nat.mod_eq_of_lt h1, Nat.zero_mod] at this
  omega
theorem Loop.no_u (L : Loop n X Y D) (i : Nat) : D (i + 1) ≠ (D i + 2) % 4 := by
  intro h
  have h4 := L.n4
  have h1 := L.d4 i
  refine mod_ne_add (n := n) (d := 2) (i := i) (by omega) (by omega) (L.inj _ _ ?_ ?_)
  · rw [L.sx (i + 1), L.sx i, h]
    rcases d_cases h1 with e | e | e | e <;> rw [e] <;> simp [ux] <;> omega
  · rw [L.sy (i + 1), L.sy i, h]
    rcases d_cases h1 with e | e | e | e <;> rw [e] <;> simp [uy] <;> omega
theorem cross_v (L : Loop n X Y D) (x y : Int) : W n X Y D (x - 1) y - W n X Y D x y = S n fun i => (if D i = 1 ∧ X i = x ∧ Y i = y then 1 else 0) - (if D i = 3 ∧ X i = x ∧ Y i = y + 1 then 1 else 0) := by
  unfold W
  rw [← S_sub]
  refine S_congr fun i _ => ?_
  unfold wi
  rcases d_cases (L.d4 i) with e | e | e | e <;> rw [e] <;> simp <;> (try split) <;> (try split) <;> (try split) <;> omega
theorem cross_h (L : Loop n X Y D) (x y : Int) : W n X Y D x y - W n X Y D x (y - 1) = S n fun i => (if D i = 0 ∧ X i = x ∧ Y i = y then 1 else 0) - (if D i = 2 ∧ X i = x + 1 ∧ Y i = y then 1 else 0) := by
  have ht := S_tel n fun i => if x < X i ∧ Y i = y then (1 : Int) else 0
  have hx := L.px 0
  have hy := L.py 0
  rw [Nat.zero_add] at hx hy
  rw [hx, hy, Int.sub_self] at ht
  have : W n X Y D x y - W n X Y D x (y - 1) = W n X Y D x y - W n X Y D x (y - 1) + 0 := by omega
  rw [this, ← ht]
  unfold W
  rw [← S_sub, ← S_add]
  refine S_congr fun i _ => ?_
  unfold wi
  rw [L.sx i, L.sy i]
  rcases d_cases (L.d4 i) with e | e | e | e <;> rw [e] <;> simp [ux, uy] <;> (repeat' split) <;> omega
theorem cross (L : Loop n X Y D) (a b : Int) {k : Nat} (hk : k < 4) : W n X Y D (cx a k) (cy b k) - W n X Y D (cx a ((k + 3) % 4)) (cy b ((k + 3) % 4)) = S n (ti X Y D a b k) := by
  rcases d_cases hk with e | e | e | e <;> subst e
  · show W n X Y D a b - W n X Y D a (b - 1) = _
    rw [cross_h L]
    refine S_congr fun i _ => ?_
    unfold ti
    rw [L.sx i, L.sy i]
    rcases d_cases (L.d4 i) with e | e | e | e <;> rw [e] <;> simp [ux, uy] <;> (repeat' split) <;> omega
  · show W n X Y D (a - 1) b - W n X Y D a b = _
    rw [cross_v L]
    refine S_congr fun i _ => ?_
    unfold ti
    rw [L.sx i, L.sy i]
    rcases d_cases (L.d4 i) with e | e | e | e <;> rw [e] <;> simp [ux, uy] <;> (repeat' split) <;> omega
  · show W n X Y D (a - 1) (b - 1) - W n X Y D (a - 1) b = _
    have h := cross_h L (a - 1) b
    have : W n X Y D (a - 1) (b - 1) - W n X Y D (a - 1) b = -(W n X Y D (a - 1) b - W n X Y D (a - 1) (b - 1)) := by omega
    rw [this, h, ← S_neg]
    refine S_congr fun i _ => ?_
    unfold ti
    rw [L.sx i, L.sy i]
    rcases d_cases (L.d4 i) with e | e | e | e <;> rw [e] <;> simp [ux, uy] <;> (repeat' split) <;> omega
  · show W n X Y D a (b - 1) - W n X Y D (a - 1) (b - 1) = _
    have h := cross_v L a (b - 1)
    have : W n X Y D a (b - 1) - W n X Y D (a - 1) (b - 1) = -(W n X Y D (a - 1) (b - 1) - W n X Y D a (b - 1)) := by omega
    rw [this, h, ← S_neg]
    refine S_congr fun i _ => ?_
    unfold ti
    rw [L.sx i, L.sy i]
    rcases d_cases (L.d4 i) with e | e | e | e <;> rw [e] <;> simp [ux, uy] <;> (repeat' split) <;> omega
theorem Loop.sum_from (L : Loop n X Y D) (m k : Nat) : S n (fun i => if D i = k ∧ X i = X m ∧ Y i = Y m then 1 else 0) = if D m = k then 1 else 0 := by
  have h4 := L.n4
  have hm : m % n < n := Nat.mod_lt _ (by omega)
  rw [S_one (k := m % n) hm, L.mod_d, L.mod_x, L.mod_y]
  · simp
  · intro i hi hne
    rw [if_neg]
    rintro ⟨-, h1, h2⟩
    have := L.inj _ _ h1 h2
    rw [Nat.mod_eq_of_lt hi] at this
    exact hne this
theorem Loop.sum_to (L : Loop n X Y D) (m k : Nat) : S n (fun i => if D i = k ∧ X (i + 1) = X (m + 1) ∧ Y (i + 1) = Y (m + 1) then 1 else 0) = if D m = k then 1 else 0 := by
  have h4 := L.n4
  have hm : m % n < n := Nat.mod_lt _ (by omega)
  have e1 : X (m % n + 1) = X (m + 1) := by rw [L.sx, L.sx, L.mod_x, L.mod_d]
  have e2 : Y (m % n + 1) = Y (m + 1) := by rw [L.sy, L.sy, L.mod_y, L.mod_d]
  rw [S_one (k := m % n) hm, L.mod_d, e1, e2]
  · simp
  · intro i hi hne
    rw [if_neg]
    rintro ⟨-, h1, h2⟩
    have := L.inj _ _ h1 h2
    have := mod_add_cancel (b := 1) (i := i) (j := m) (by rw [Nat.add_comm 1, Nat.add_comm 1]; exact this)
    rw [Nat.mod_eq_of_lt hi] at this
    exact hne this
theorem Loop.at_point (L : Loop n X Y D) (j : Nat) {k : Nat} (hk : k < 4) :
    W n X Y D (cx (X (j + 1)) k) (cy (Y (j + 1)) k) - W n X Y D (cx (X (j + 1)) ((k + 3) % 4)) (cy (Y (j + 1)) ((k + 3) % 4)) = (if D (j + 1) = k then 1 else 0) - (if D j = (k + 2) % 4 then 1 else 0) := by
  rw [cross L _ _ hk]
  unfold ti
  rw [S_sub, L.sum_from, L.sum_to]
def turn (e f : Nat) : Int := if f = e then 0 else if f = (e + 1) % 4 then 1 else -1
def LW (n : Nat) (X Y : Nat → Int) (D : Nat → Nat) (j : Nat) : Int := W n X Y D (cx (X j) (D j)) (cy (Y j) (D j))
theorem around_pure (G : Nat → Int) {e f : Nat} {l : Int} (he : e < 4) (hf : f < 4) (hu : f ≠ (e + 2) % 4) (h : ∀ k, k < 4 → G k - G ((k + 3) % 4) = (if f = k then 1 else 0) - (if e = (k + 2) % 4 then 1 else 0)) (hl : l = G ((e + 1) % 4)) :
    G f = l ∧ (∀ k, k < 4 → G k = l ∨ G k = l - 1) ∧ G 0 + G 1 + G 2 + G 3 = 4 * (l - 1) + (2 - turn e f) ∧ G ((f + 3) % 4) = l - 1 := by
  have h0 := h 0 (by omega)
  have h1 := h 1 (by omega)
  have h2 := h 2 (by omega)
  have h3 := h 3 (by omega)
  have hk : (∀ k, k < 4 → G k = l ∨ G k = l - 1) ↔ (G 0 = l ∨ G 0 = l - 1) ∧ (G 1 = l ∨ G 1 = l - 1) ∧ (G 2 = l ∨ G 2 = l - 1) ∧ (G 3 = l ∨ G 3 = l - 1) :=
    ⟨fun q => ⟨q 0 (by omega), q 1 (by omega), q 2 (by omega), q 3 (by omega)⟩, fun ⟨a, b, c, d⟩ k hk => by rcases d_cases hk with e | e | e | e <;> subst e <;> assumption⟩
  rw [hk]
  clear h hk
  rcases d_cases he with e | e | e | e <;> rcases d_cases hf with g | g | g | g <;> subst e <;> subst g <;> simp [turn] at h0 h1 h2 h3 hl hu ⊢ <;> omega
theorem Loop.around (L : Loop n X Y D) (j : Nat) : LW n X Y D (j + 1) = LW n X Y D j ∧
    (∀ k, k < 4 → W n X Y D (cx (X (j + 1)) k) (cy (Y (j + 1)) k) = LW n X Y D j ∨ W n X Y D (cx (X (j + 1)) k) (cy (Y (j + 1)) k) = LW n X Y D j - 1) ∧
    W n X Y D (cx (X (j + 1)) 0) (cy (Y (j + 1)) 0) + W n X Y D (cx (X (j + 1)) 1) (cy (Y (j + 1)) 1) + W n X Y D (cx (X (j + 1)) 2) (cy (Y (j + 1)) 2) + W n X Y D (cx (X (j + 1)) 3) (cy (Y (j + 1)) 3) = 4 * (LW n X Y D j - 1) + (2 - turn (D j) (D (j + 1))) ∧
    W n X Y D (cx (X (j + 1)) (D (j + 1))) (cy (Y (j + 1)) (D (j + 1))) = LW n X Y D j ∧ W n X Y D (cx (X (j + 1)) ((D (j + 1) + 3) % 4)) (cy (Y (j + 1)) ((D (j + 1) + 3) % 4)) = LW n X Y D j - 1 := by
  have hl : LW n X Y D j = W n X Y D (cx (X (j + 1)) ((D j + 1) % 4)) (cy (Y (j + 1)) ((D j + 1) % 4)) := by
    unfold LW
    rw [L.sx j, L.sy j]
    rcases d_cases (L.d4 j) with e | e | e | e <;> rw [e] <;> simp [cx, cy, ux, uy] <;> (try congr 1) <;> omega
  obtain ⟨q1, q2, q3, q4⟩ := around_pure (fun k => W n X Y D (cx (X (j + 1)) k) (cy (Y (j + 1)) k)) (L.d4 j) (L.d4 (j + 1)) (L.no_u j) (fun k hk => L.at_point j hk) hl
  exact ⟨q1, q2, q3, q1, q4⟩
end
end Go.Proofs.YtpfenoioeajkmaaDoor.G
end

section
set_option linter.unusedVariables false
set_option linter.unusedSimpArgs false
namespace Go.Proofs.YtpfenoioeajkmaaDoor.G
section
variable {n : Nat} {X Y : Nat → Int} {D : Nat → Nat}
theorem W_right {x : Int} (y : Int) (h : ∀ i, X i ≤ x) : W n X Y D x y = 0 := S_zero fun i _ => by
  have := h i
  unfold wi
  rw [if_neg (by omega), if_neg (by omega)]
theorem Loop.W_up (L : Loop n X Y D) (x : Int) {y : Int} (h : ∀ i, Y i ≤ y) : W n X Y D x y = 0 := S_zero fun i _ => by
  have h1 := h i
  have h2 := h (i + 1)
  rw [L.sy] at h2
  unfold wi
  by_cases e : D i = 1
  · rw [e] at h2
    simp [uy] at h2
    rw [if_neg (by omega), if_neg (by omega)]
  · rw [if_neg (by omega), if_neg (by omega)]
theorem Loop.W_down (L : Loop n X Y D) (x : Int) {y : Int} (h : ∀ i, y < Y i) : W n X Y D x y = 0 := S_zero fun i _ => by
  have h1 := h i
  have h2 := h (i + 1)
  rw [L.sy] at h2
  unfold wi
  by_cases e : D i = 3
  · rw [e] at h2
    simp [uy] at h2
    rw [if_neg (by omega), if_neg (by omega)]
  · rw [if_neg (by omega), if_neg (by omega)]
theorem Loop.W_left (L : Loop n X Y D) {x : Int} (y : Int) (h : ∀ i, x < X i) : W n X Y D x y = 0 := by
  have ht := S_tel n fun i => if y < Y i then (1 : Int) else 0
  have hy := L.py 0
  rw [Nat.zero_add] at hy
  rw [hy, Int.sub_self] at ht
  rw [← ht]
  refine S_congr fun i _ => ?_
  have h1 := h i
  unfold wi
  rw [L.sy i]
  rcases d_cases (L.d4 i) with e | e | e | e <;> rw [e] <;> simp [uy, h1] <;> (repeat' split) <;> omega
theorem Loop.LW_eq (L : Loop n X Y D) (j : Nat) : LW n X Y D j = LW n X Y D 0 := by
  induction j with
  | zero => rfl
  | succ j ih => rw [(L.around j).1, ih]
theorem Loop.right (L : Loop n X Y D) (i : Nat) : W n X Y D (cx (X i) ((D i + 3) % 4)) (cy (Y i) ((D i + 3) % 4)) = LW n X Y D 0 - 1 := by
  have h4 := L.n4
  obtain ⟨j, hj⟩ : ∃ j, i + n = j + 1 := ⟨i + n - 1, by omega⟩
  have h := (L.around j).2.2.2.2
  rw [← hj, L.px, L.py, L.pd, L.LW_eq] at h
  exact h
theorem Loop.left (L : Loop n X Y D) (i : Nat) : W n X Y D (cx (X i) (D i)) (cy (Y i) (D i)) = LW n X Y D 0 := L.LW_eq i
theorem max_of (X : Nat → Int) : ∀ n, 0 < n → ∃ i, i < n ∧ ∀ j, j < n → X j ≤ X i
  | 1, _ => ⟨0, by omega, fun j hj => by obtain rfl : j = 0 := by omega
                                         exact Int.le_refl _⟩
  | n + 2, _ => by
    obtain ⟨i, hi, h⟩ := max_of X (n + 1) (by omega)
    by_cases e : X (n + 1) ≤ X i
    · exact ⟨i, by omega, fun j hj => by
        by_cases q : j = n + 1
        · rw [q]; exact e
        · exact h j (by omega)⟩
    · exact ⟨n + 1, by omega, fun j hj => by
        by_cases q : j = n + 1
        · rw [q]; exact Int.le_refl _
        · have := h j (by omega); omega⟩
theorem Loop.maxX (L : Loop n X Y D) : ∃ i, ∀ j, X j ≤ X i := by
  have h4 := L.n4
  obtain ⟨i, hi, h⟩ := max_of X n (by omega)
  exact ⟨i, fun j => by rw [← L.mod_x j]; exact h _ (Nat.mod_lt _ (by omega))⟩
theorem Loop.extreme (L : Loop n X Y D) : ∃ i, (∀ j, X j ≤ X i) ∧ (D i = 1 ∨ D i = 3) := by
  obtain ⟨i0, h⟩ := L.maxX
  have h4 := L.n4
  obtain ⟨j, hj⟩ : ∃ j, i0 + n = j + 1 := ⟨i0 + n - 1, by omega⟩
  have hX : X (j + 1) = X i0 := by rw [← hj, L.px]
  have hu := L.no_u j
  have s1 := L.sx j
  have s2 := L.sx (j + 1)
  have m1 := h j
  have m2 := h (j + 1 + 1)
  rcases d_cases (L.d4 (j + 1)) with e | e | e | e
  · rw [e] at s2
    simp [ux] at s2
    omega
  · exact ⟨j + 1, fun k => by rw [hX]; exact h k, .inl e⟩
  · rcases d_cases (L.d4 j) with f | f | f | f
    · rw [e, f] at hu
      simp at hu
    · rw [f] at s1
      simp [ux] at s1
      exact ⟨j, fun k => by rw [← s1, hX]; exact h k, .inl f⟩
    · rw [f] at s1
      simp [ux] at s1
      omega
    · rw [f] at s1
      simp [ux] at s1
      exact ⟨j, fun k => by rw [← s1, hX]; exact h k, .inr f⟩
  · exact ⟨j + 1, fun k => by rw [hX]; exact h k, .inr e⟩
theorem Loop.left01 (L : Loop n X Y D) : LW n X Y D 0 = 0 ∨ LW n X Y D 0 = 1 := by
  obtain ⟨i, h, e | e⟩ := L.extreme
  · have := L.right i
    rw [e] at this
    rw [show cx (X i) ((1 + 3) % 4) = X i from rfl, W_right _ h] at this
    omega
  · have := L.left i
    rw [e] at this
    rw [show cx (X i) 3 = X i from rfl, W_right _ h] at this
    omega
theorem sum_ne {n : Nat} {f : Nat → Int} (h : S n f ≠ 0) : ∃ i, i < n ∧ f i ≠ 0 := by
  refine Classical.byContradiction fun q => h (S_zero fun i hi => ?_)
  exact Classical.byContradiction fun p => q ⟨i, hi, p⟩
theorem Loop.cases3 (L : Loop n X Y D) (y : Int) {M : Int} (hM : ∀ i, X i ≤ M) : ∀ (m : Nat) (x : Int), M - m ≤ x → W n X Y D x y = 0 ∨ W n X Y D x y = LW n X Y D 0 ∨ W n X Y D x y = LW n X Y D 0 - 1
  | 0, x, hx => .inl (W_right y fun i => by have := hM i; omega)
  | m + 1, x, hx => by
    have ih := L.cases3 y hM m (x + 1) (by omega)
    have hc := cross_v L (x + 1) y
    rw [show x + 1 - 1 = x by omega] at hc
    by_cases h0 : W n X Y D x y - W n X Y D (x + 1) y = 0
    · rw [show W n X Y D x y = W n X Y D (x + 1) y by omega]
      exact ih
    · rw [hc] at h0
      obtain ⟨i, hi, hne⟩ := sum_ne h0
      by_cases e1 : D i = 1 ∧ X i = x + 1 ∧ Y i = y
      · have := L.left i
        rw [e1.1] at this
        rw [show cx (X i) 1 = x by show X i - 1 = x; omega, show cy (Y i) 1 = y from e1.2.2] at this
        exact .inr (.inl this)
      · rw [if_neg e1] at hne
        by_cases e3 : D i = 3 ∧ X i = x + 1 ∧ Y i = y + 1
        · have := L.right i
          rw [e3.1] at this
          rw [show cx (X i) ((3 + 3) % 4) = x by show X i - 1 = x; omega, show cy (Y i) ((3 + 3) % 4) = y by show Y i - 1 = y; omega] at this
          exact .inr (.inr this)
        · rw [if_neg e3] at hne
          exact absurd rfl hne
def Box (K : Nat) (X Y : Nat → Int) : Prop := ∀ i, -(K : Int) < X i ∧ X i < K ∧ -(K : Int) < Y i ∧ Y i < K
theorem Loop.three (L : Loop n X Y D) (x y : Int) : W n X Y D x y = 0 ∨ W n X Y D x y = LW n X Y D 0 ∨ W n X Y D x y = LW n X Y D 0 - 1 := by
  obtain ⟨i, h⟩ := L.maxX
  exact L.cases3 y h (X i - x).toNat x (by omega)
theorem Loop.area (L : Loop n X Y D) {K : Nat} (hB : Box K X Y) : Z K (fun x => Z K fun y => W n X Y D x y) = S n fun i => X i * uy (D i) := by
  unfold W
  have e1 : (fun x => Z K fun y => S n (wi X Y D x y)) = fun x => S n fun i => Z K fun y => wi X Y D x y i := by
    funext x
    exact Z_S K n fun y i => wi X Y D x y i
  rw [e1, Z_S K n fun x i => Z K fun y => wi X Y D x y i]
  have hs : S n (fun i => uy (D i)) = 0 := by
    have ht := S_tel n Y
    have hy := L.py 0
    rw [Nat.zero_add] at hy
    rw [hy, Int.sub_self] at ht
    rw [← ht]
    exact S_congr fun i _ => by rw [L.sy i]; omega
  have h2 : S n (fun i => X i * uy (D i)) = S n (fun i => (X i + K) * uy (D i)) := by
    have : (fun i => (X i + K) * uy (D i)) = fun i => X i * uy (D i) + (K : Int) * uy (D i) := by funext i; rw [Int.add_mul]
    rw [this, S_add, S_mul, hs, Int.mul_zero, Int.add_zero]
  rw [h2]
  refine S_congr fun i _ => ?_
  obtain ⟨b1, b2, b3, b4⟩ := hB i
  have e2 : ∀ x : Int, (Z K fun y => wi X Y D x y i) = uy (D i) * (if x < X i then 1 else 0) := by
    intro x
    rcases d_cases (L.d4 i) with e | e | e | e
    · rw [Z_zero fun y _ _ => by unfold wi; rw [e]; simp, e]; simp [uy]
    · have : ∀ y, wi X Y D x y i = if y = Y i then (if x < X i then 1 else 0) else 0 := by
        intro y
        unfold wi
        rw [e]
        simp
        (repeat' split) <;> omega
      rw [Z_congr fun y _ _ => this y, Z_one (a := Y i) (by omega) (by omega) fun y hy => if_neg hy, if_pos rfl, e]
      simp [uy]
    · rw [Z_zero fun y _ _ => by unfold wi; rw [e]; simp, e]; simp [uy]
    · have hn := hB (i + 1)
      rw [L.sy i, e] at hn
      simp [uy] at hn
      have : ∀ y, wi X Y D x y i = if y = Y i - 1 then (if x < X i then -1 else 0) else 0 := by
        intro y
        unfold wi
        rw [e]
        simp
        (repeat' split) <;> omega
      rw [Z_congr fun y _ _ => this y, Z_one (a := Y i - 1) (by omega) (by omega) fun y hy => if_neg hy, if_pos rfl, e]
      simp [uy]
      split <;> rfl
  rw [Z_congr fun x _ _ => e2 x, Z_mul, Z_count (by omega) (by omega), Int.mul_comm]
theorem Loop.pos (L : Loop n X Y D) {K : Nat} (hB : Box K X Y) (hA : 0 < S n fun i => X i * uy (D i)) : LW n X Y D 0 = 1 := by
  rcases L.left01 with h | h
  · exfalso
    rw [← L.area hB] at hA
    have : (Z K fun x => Z K fun y => W n X Y D x y) ≤ Z K fun x => Z K fun y => 0 := Z_le fun x _ _ => Z_le fun y _ _ => by
      have := L.three x y
      rw [h] at this
      omega
    rw [Z_zero (f := fun x => Z K fun y => 0) fun _ _ _ => Z_zero fun _ _ _ => rfl] at this
    omega
  · exact h
theorem Loop.zo (L : Loop n X Y D) (h1 : LW n X Y D 0 = 1) (x y : Int) : W n X Y D x y = 0 ∨ W n X Y D x y = 1 := by
  have := L.three x y
  rw [h1] at this
  omega
end
end Go.Proofs.YtpfenoioeajkmaaDoor.G
end

section
set_option linter.unusedVariables false
set_option linter.unusedSimpArgs false
namespace Go.Proofs.YtpfenoioeajkmaaDoor.G
theorem S_rot {n : Nat} {f : Nat → Int} (h : ∀ i, f (i + n) = f i) (b : Nat) : S n (fun i => f (b + i)) = S n f := by
  induction b with
  | zero => exact S_congr fun i _ => by rw [Nat.zero_add]
  | succ b ih =>
    have h1 := S_head n fun i => f (b + i)
    have h2 := S_succ n fun i => f (b + i)
    rw [h2, ih] at h1
    have h3 : S n (fun i => f (b + 1 + i)) = S n fun i => f (b + (i + 1)) := S_congr fun i _ => by congr 1; omega
    rw [h3]
    have h4 := h b
    rw [Nat.add_zero] at h1
    omega
section
variable {n : Nat} {X Y : Nat → Int} {D : Nat → Nat}
theorem unit_of (d : Nat) (h : d < 4) : (ux d = 1 ∧ uy d = 0) ∨ (ux d = 0 ∧ uy d = 1) ∨ (ux d = -1 ∧ uy d = 0) ∨ (ux d = 0 ∧ uy d = -1) := by
  rcases d_cases h with e | e | e | e <;> subst e <;> simp [ux, uy]
end
end Go.Proofs.YtpfenoioeajkmaaDoor.G
end
