/- Texts of this claim, merged by a program (wip/tools/shake.py); what nothing names is left out. -/
import Derived.Below
import Derived.Deep.Draws
import Derived.Deep.AppendLies
import Derived.Maps.AppendAt
import Derived.OwnWalk
import Derived.Laws.BytesArg
import Derived.Laws.MakeOwn
import Derived.Laws.OwnMore
import Derived.Deep.OwnRows
import Derived.Tactics
import Derived.Lib.ConvBytes
import Derived.Laws.Slices
import Derived.WalkKit
import Derived.KernelRfl
import Derived.RowKit3
import Derived.Deep.LoopGhost
import Derived.Deep.QuietTactic
import Derived.BigQuiet
import Derived.WideLaws
import Derived.Deep.DeepCutAuto
import Derived.Deep.CutBlock
import Derived.Deep.RegionHeld3
import Derived.Laws.Rows
import Derived.Lib.AppendStr
import Derived.ArgAppend
import Derived.Laws.IdiomCopy
import Derived.RowKit
import Derived.OrdersHeld
import Derived.Laws.BitsLemmas
import Derived.Shelf.Strings.Builder1
import Derived.Shelf.Strings.Trim
import Derived.Shelf.Small.Utf8
import Derived.Shelf.Small.Strs
import Derived.Shelf.Strings.Search1
import Derived.Shelf.Unicode.Decode
import Derived.Shelf.Strings.Runes
import Derived.Shelf.Strings.AsciiSet
import Derived.Shelf.Unicode.DecodeSlow
import Derived.Shelf.Unicode.DecodeAny
import Derived.Ground.SlgnProg
import Derived.Shelf.SlicesE.Clone
import Derived.Test.YtpfenoioeajkmaaDoorProg
import Derived.Lib.Hide
import Derived.Shelf.Strings.SlTrimAscii
import Derived.Laws.RangeString
import Derived.Outline
import Derived.Laws.StructEq
import Derived.MapKept
import Derived.Laws.Cover2
import Derived.Lib.MinMaxS
import Derived.RangeFuncFrom
section
set_option linter.unusedVariables false
set_option linter.unusedSimpArgs false
namespace Go.Proofs.YtpfenoioeajkmaaDoorW.PrintWords
open Go.RowKit
structure Aside0 (p : Prop) : Prop where mk :: (out : p)
structure Drawn0 (w w' : World) : Prop where mk :: (out : ∃ n, w' = w.drewN n)
theorem Drawn0.refl (w : World) : Drawn0 w w := ⟨⟨0, rfl⟩⟩
theorem Drawn0.step {w w' : World} (h : Drawn0 w w') (n : Nat) : Drawn0 w (w'.drewN n) := by
  obtain ⟨m, rfl⟩ := h
  exact ⟨⟨m + n, World.drewN_drewN ..⟩⟩
theorem Drawn0.grown {w w' : World} (h : Drawn0 w w') : Grown w w' := by
  obtain ⟨n, rfl⟩ := h
  induction n with
  | zero => exact Grown.refl _
  | succ n ih => rw [← World.drew_drewN]; exact Grown.drew ih
theorem Drawn0.below {w w' : World} (h : Drawn0 w w') : Below w.heap.size w w' := by
  obtain ⟨n, rfl⟩ := h
  induction n with
  | zero => exact Below.refl _ _
  | succ n ih => rw [← World.drew_drewN]; exact ih.drew
def rd (xs : List Int) (i : Int) : Int := xs.getD i.toNat 0
def bt (s : ByteArray) (i : Int) : Int := if h : i.toNat < s.size then ((s[i.toNat]'h).toNat : Int) else 0
theorem bt_at (s : ByteArray) (i : Int) : ∀ h : i.toNat < s.size, ((s[i.toNat]'h).toNat : Int) = bt s i := fun h => by simp [bt, h]
def nums (k : IntKind) (xs : List Int) : List Value := xs.map fun x => .int k x
theorem below_alloc {w W : World} (h : Below w.heap.size w W) (o : Obj) : Below w.heap.size w (W.alloc o) := h.alloc h.size o
theorem pw_below_drewN {B : Nat} {w W : World} (h : Below B w W) (n : Nat) : Below B w (W.drewN n) := ⟨h.os, h.tape, h.output, h.size, h.block⟩
theorem below_then {B : Nat} {w w1 w2 : World} (h : Below B w w1) (hB : B ≤ w1.heap.size) (k : Below w1.heap.size w1 w2) : Below B w w2 :=
  h.trans ⟨k.os, k.tape, k.output, k.size, fun i hi => k.block i (Nat.lt_of_lt_of_le hi hB)⟩
theorem grown_of_below {w w1 : World} (h : Below w.heap.size w w1) (row : Option Nat) : w.grownBy w1 row := ⟨h.os, h.tape, h.output, h.size, fun i hi _ => h.block i hi⟩
theorem pw_cell_below {w w1 : World} (h : Below w.heap.size w w1) {a : Addr} {v : Value} (hc : w.cell? a = some v) : w1.cell? a = some v := (h.cell (World.block_lt_of_cell? w a hc)).trans hc
def ReadsInt (w : World) (k : IntKind) (A : Option Addr) (n : Nat) (xs : List Int) : Prop :=
  xs.length = n ∧ n ≤ 9223372036854775807 ∧ (0 < n → ∃ ad, A = some ad ∧ ∀ j, j < n → w.cell? (ad.add j) = some (.int k (xs.getD j 0)))
theorem ReadsInt.at_ {w : World} {k : IntKind} {A : Option Addr} {n : Nat} {xs : List Int} (h : ReadsInt w k A n xs) (i : Int) (h0 : 0 ≤ i) (h1 : i < n) : ∃ ad, A = some ad ∧ w.cell? (ad.add i.toNat) = some (.int k (rd xs i)) := by
  obtain ⟨ad, e, hc⟩ := h.2.2 (by omega)
  exact ⟨ad, e, hc _ (by omega)⟩
theorem ReadsInt.below {w w1 : World} {k : IntKind} {A : Option Addr} {n : Nat} {xs : List Int} (h : ReadsInt w k A n xs) (hb : Below w.heap.size w w1) : ReadsInt w1 k A n xs :=
  ⟨h.1, h.2.1, fun hn => by
    obtain ⟨ad, e, hc⟩ := h.2.2 hn
    exact ⟨ad, e, fun j hj => pw_cell_below hb (hc j hj)⟩⟩
theorem own_base {w : World} {base : Nat} {e : TypeId} {size n : Nat} {v : Value} {xs : List Value} (h : w.ownsRow base e size v n xs) (k : Nat) (hk : v.ownBlock = some k) : base ≤ k := by
  rcases h.2 with ⟨rfl, _⟩ | ⟨g, cap, cur, rfl, hb, _⟩
  · simp [Value.ownBlock] at hk
  · have : g = k := by simpa [Value.ownBlock] using hk
    omega
theorem own_lt {w : World} {base : Nat} {e : TypeId} {size n : Nat} {v : Value} {xs : List Value} (h : w.ownsRow base e size v n xs) (k : Nat) (hk : v.ownBlock = some k) : k < w.heap.size := by
  rcases h.2 with ⟨rfl, _⟩ | ⟨g, cap, cur, rfl, hb, hh, _⟩
  · simp [Value.ownBlock] at hk
  · have : g = k := by simpa [Value.ownBlock] using hk
    subst this
    exact (Array.getElem?_eq_some_iff.1 hh).1
theorem pw_own_below {w w1 : World} {base : Nat} {e : TypeId} {size n : Nat} {v : Value} {xs : List Value} (h : w.ownsRow base e size v n xs) (hb : Below w.heap.size w w1) : w1.ownsRow base e size v n xs :=
  h.kept (grown_of_below hb none) (by cases v.ownBlock <;> simp)
theorem own_lit (W : World) (base : Nat) (e : TypeId) (k : IntKind) (xs : List Int) (hb : base ≤ W.heap.size) (hm : xs.length ≤ 9223372036854775807) :
    (W.alloc (.cells (nums k xs).toArray e)).ownsRow base e 1 (.slice (some ⟨W.heap.size, 0, none⟩) xs.length xs.length) xs.length (nums k xs) := by
  have h := World.ownsRow_lit (base := base) (e := e) (size := 1) W (nums k xs).toArray xs.length hb (by simpa [maxLen] using hm) (by simp [nums])
  simpa using h
theorem data_length (s : ByteArray) : s.data.toList.length = s.size := by rw [Array.length_toList]; rfl
theorem ReadsInt.take_ {w : World} {k : IntKind} {A : Option Addr} {n : Nat} {xs : List Int} (h : ReadsInt w k A n xs) (i : Nat) (hi : i ≤ n) : ReadsInt w k A i (xs.take i) := by
  refine ⟨by rw [List.length_take, h.1]; omega, by have := h.2.1; omega, fun hp => ?_⟩
  obtain ⟨ad, e, hc⟩ := h.2.2 (by omega)
  refine ⟨ad, e, fun j hj => ?_⟩
  rw [hc j (by omega)]
  simp [List.getD_eq_getElem?_getD, hj]
def LeO {α : Type} (a b : Option α) : Prop := ∀ r, a = some r → b = some r
theorem LeO.refl {α : Type} (a : Option α) : LeO a a := fun _ h => h
theorem LeO.none {α : Type} (b : Option α) : LeO Option.none b := fun _ h => by cases h
theorem LeO.trans {α : Type} {a b c : Option α} (h : LeO a b) (k : LeO b c) : LeO a c := fun r hr => k r (h r hr)
theorem LeO.bind {α β : Type} {a a' : Option α} {f f' : α → Option β} (h : LeO a a') (k : ∀ x, LeO (f x) (f' x)) : LeO (a.bind f) (a'.bind f') := by
  intro r hr
  obtain ⟨x, hx, hf⟩ := Option.bind_eq_some_iff.1 hr
  exact Option.bind_eq_some_iff.2 ⟨x, h x hx, k x r hf⟩
theorem LeO.map {α β : Type} {a a' : Option α} (f : α → β) (h : LeO a a') : LeO (a.map f) (a'.map f) := by
  intro r hr
  obtain ⟨x, hx, hf⟩ := Option.map_eq_some_iff.1 hr
  exact Option.map_eq_some_iff.2 ⟨x, h x hx, hf⟩
theorem more_rounds {α : Type} {g : Nat → Option α} (h : ∀ k, LeO (g k) (g (k + 1))) (k : Nat) : ∀ j, LeO (g k) (g (k + j))
  | 0 => LeO.refl _
  | j + 1 => (more_rounds h k j).trans (h (k + j))
theorem at_rounds {α : Type} {g : Nat → Option α} (h : ∀ k, LeO (g k) (g (k + 1))) {k k' : Nat} (hk : k ≤ k') {r : α} (hr : g k = some r) : g k' = some r := by
  have := more_rounds h k (k' - k) r hr
  rwa [Nat.add_sub_cancel' hk] at this
def Reps {α : Type} (R : α → List Value → Prop) (size : Nat) (ps : List α) (cs : List Value) : Prop :=
  cs.length = ps.length * size ∧ ∀ j p, ps[j]? = some p → R p ((cs.drop (j * size)).take size)
theorem Reps.none {α : Type} (R : α → List Value → Prop) (size : Nat) : Reps R size [] [] := ⟨by simp, fun j p h => by simp at h⟩
theorem Reps.imp_ {α : Type} {R R' : α → List Value → Prop} {size : Nat} {ps : List α} {cs : List Value} (h : Reps R size ps cs) (hR : ∀ p c, R p c → R' p c) : Reps R' size ps cs := ⟨h.1, fun j p hj => hR _ _ (h.2 j p hj)⟩
def ReadsRow {α : Type} (R : α → List Value → Prop) (size : Nat) (w : World) (A : Option Addr) (n : Nat) (ps : List α) : Prop :=
  ps.length = n ∧ n ≤ 9223372036854775807 ∧ (0 < n → ∃ ad, A = some ad ∧ ∀ j p, ps[j]? = some p → ∃ c, c.length = size ∧ R p c ∧ ∀ i u, c[i]? = some u → w.cell? (ad.add (j * size + i)) = some u)
theorem ReadsRow.imp_ {α : Type} {R R' : α → List Value → Prop} {size : Nat} {w w1 : World} {A : Option Addr} {n : Nat} {ps : List α} (h : ReadsRow R size w A n ps) (hb : Below w.heap.size w w1) (hR : ∀ p c, R p c → R' p c) : ReadsRow R' size w1 A n ps :=
  ⟨h.1, h.2.1, fun hn => by
    obtain ⟨ad, e, hc⟩ := h.2.2 hn
    refine ⟨ad, e, fun j p hj => ?_⟩
    obtain ⟨c, hs, hr, hcell⟩ := hc j p hj
    exact ⟨c, hs, hR _ _ hr, fun i u hu => pw_cell_below hb (hcell i u hu)⟩⟩
theorem own_reads_row {α : Type} {R : α → List Value → Prop} {w : World} {base n size : Nat} {e : TypeId} {v : Value} {ps : List α} {cs : List Value} (h : w.ownsRow base e size v n cs) (hR : Reps R size ps cs) (hn : ps.length = n) :
    ∃ A c, v = .slice A n c ∧ ReadsRow R size w A n ps := by
  rcases Nat.eq_zero_or_pos n with h0 | h0
  · rcases h.2 with ⟨rfl, rfl⟩ | ⟨g, cap, cur, rfl, _⟩
    · exact ⟨none, 0, rfl, hn, by omega, fun hp => absurd hp (by omega)⟩
    · exact ⟨_, cap, rfl, hn, by omega, fun hp => absurd hp (by omega)⟩
  · obtain ⟨g, cap, rfl, _, _⟩ := h.form h0
    have hm : n ≤ 9223372036854775807 := by
      rcases h.2 with ⟨_, h1⟩ | ⟨g', cap', cur, he, _, _, h1, h2, _⟩
      · omega
      · simp only [maxLen] at h2
        omega
    refine ⟨_, cap, rfl, hn, hm, fun _ => ⟨_, rfl, fun j p hj => ⟨(cs.drop (j * size)).take size, ?_, hR.2 j p hj, fun i u hu => ?_⟩⟩⟩
    · have hjl := (List.getElem?_eq_some_iff.1 hj).1
      have h1 : j * size + size ≤ cs.length := by rw [hR.1, ← Nat.succ_mul]; exact Nat.mul_le_mul_right _ hjl
      rw [List.length_take, List.length_drop]
      omega
    · refine h.cells (g := g) rfl _ u ?_
      rw [List.getElem?_take] at hu
      split at hu
      · rw [List.getElem?_drop] at hu
        exact hu
      · cases hu
theorem own_ne {w : World} {base : Nat} {e t : TypeId} {size n g : Nat} {v : Value} {xs : List Value} {cs : Array Value} (h : w.ownsRow base e size v n xs) (hg : w.heap[g]? = some (.cells cs t (0, 0))) (hne : e ≠ t) : some g ≠ v.ownBlock := by
  rcases h.2 with ⟨rfl, _⟩ | ⟨g', cap, cur, rfl, _, hh, _⟩
  · simp [Value.ownBlock]
  · intro he
    have : g = g' := by simpa [Value.ownBlock] using he
    subst this
    rw [hg] at hh
    injection hh with hh
    injection hh with _ ht
    exact hne ht.symm
theorem blk_lt {w : World} {g : Nat} {o : Obj} (h : w.heap[g]? = some o) : g < w.heap.size := (Array.getElem?_eq_some_iff.1 h).1
theorem blk_cell {w : World} {g : Nat} {t : TypeId} {cs : Array Value} (h : w.heap[g]? = some (.cells cs t (0, 0))) (i : Nat) : w.cell? ⟨g, i, none⟩ = cs[i]? := cell_of_row w g i cs t (0, 0) h
theorem blk_frozen {w : World} {g : Nat} {t : TypeId} {cs : Array Value} (h : w.heap[g]? = some (.cells cs t (0, 0))) (i : Nat) : w.frozen? ⟨g, i, none⟩ = false := by simp [World.frozen?, h]
def KeepBut (w w' : World) (g : Nat) (row : Option Nat) : Prop := w.heap.size ≤ w'.heap.size ∧ ∀ i, i < w.heap.size → i ≠ g → some i ≠ row → w'.heap[i]? = w.heap[i]?
theorem KeepBut.refl (w : World) (g : Nat) (row : Option Nat) : KeepBut w w g row := ⟨Nat.le_refl _, fun _ _ _ _ => rfl⟩
theorem KeepBut.of_below {w w1 : World} (h : Below w.heap.size w w1) (g : Nat) (row : Option Nat) : KeepBut w w1 g row := ⟨h.size, fun i hi _ _ => h.block i hi⟩
theorem KeepBut.trans {w w1 w2 : World} {g : Nat} {row row1 : Option Nat} (h : KeepBut w w1 g row) (k : KeepBut w1 w2 g row1) (hr : row1 = row ∨ ∃ b, row1 = some b ∧ w.heap.size ≤ b) : KeepBut w w2 g row :=
  ⟨Nat.le_trans h.1 k.1, fun i hi hg hn => by
    refine (k.2 i (Nat.lt_of_lt_of_le hi h.1) hg ?_).trans (h.2 i hi hg hn)
    rcases hr with rfl | ⟨b, rfl, hb⟩
    · exact hn
    · intro e
      injection e with e
      omega⟩
theorem KeepBut.blk {w w1 : World} {g g' : Nat} {row : Option Nat} {o : Obj} (h : KeepBut w w1 g row) (hb : w.heap[g']? = some o) (hg : g' ≠ g) (hr : some g' ≠ row) : w1.heap[g']? = some o := (h.2 g' (blk_lt hb) hg hr).trans hb
theorem KeepBut.own {w w1 : World} {g : Nat} {row : Option Nat} {base : Nat} {e : TypeId} {size n : Nat} {v : Value} {xs : List Value} (h : KeepBut w w1 g row) (ho : w.ownsRow base e size v n xs) (hg : v.ownBlock ≠ some g) (hr : v.ownBlock = none ∨ v.ownBlock ≠ row) : w1.ownsRow base e size v n xs := by
  obtain ⟨h1, h2⟩ := ho
  refine ⟨h1, ?_⟩
  rcases h2 with h2 | ⟨b, cap, cur, rfl, hb, hh, r⟩
  · exact .inl h2
  · refine .inr ⟨b, cap, cur, rfl, hb, h.blk hh ?_ ?_, r⟩
    · intro e
      exact hg (by rw [← e]; rfl)
    · rcases hr with hr | hr
      · simp [Value.ownBlock] at hr
      · exact hr
def Ev {α : Type} (g : Nat → Option α) (r : α) : Prop := ∃ K, ∀ k, K ≤ k → g k = some r
theorem Ev.of {α : Type} {g : Nat → Option α} {r : α} (hg : ∀ k, LeO (g k) (g (k + 1))) {k : Nat} (h : g k = some r) : Ev g r := ⟨k, fun _ hk => at_rounds hg hk h⟩
theorem Ev.bind {α β : Type} {g : Nat → Option α} {f : Nat → α → Option β} {a : α} {r : β} (h : Ev g a) (k : Ev (fun n => f n a) r) : Ev (fun n => (g n).bind (f n)) r := by
  obtain ⟨K, h⟩ := h
  obtain ⟨K', k⟩ := k
  refine ⟨max K K', fun n hn => ?_⟩
  have h1 := h n (by omega)
  have h2 := k n (by omega)
  simp only [h1, Option.bind_some]
  exact h2
theorem Ev.step {α : Type} {g f : Nat → Option α} {r : α} (h : ∀ k, g (k + 1) = f k) (k : Ev f r) : Ev g r := by
  obtain ⟨K, k⟩ := k
  refine ⟨K + 1, fun n hn => ?_⟩
  obtain ⟨m, rfl⟩ : ∃ m, n = m + 1 := ⟨n - 1, by omega⟩
  rw [h]
  exact k m (by omega)
theorem Ev.congr {α : Type} {g f : Nat → Option α} {r : α} (h : ∀ k, g k = f k) (k : Ev f r) : Ev g r := by
  obtain ⟨K, k⟩ := k
  exact ⟨K, fun n hn => (h n).trans (k n hn)⟩
theorem own_weaken {w : World} {base base' : Nat} {e : TypeId} {size n : Nat} {v : Value} {xs : List Value} (h : w.ownsRow base e size v n xs) (hb : base' ≤ base) : w.ownsRow base' e size v n xs := by
  obtain ⟨h1, h2⟩ := h
  refine ⟨h1, ?_⟩
  rcases h2 with h2 | ⟨g, cap, cur, rfl, hg, r⟩
  · exact .inl h2
  · exact .inr ⟨g, cap, cur, rfl, Nat.le_trans hb hg, r⟩
section
variable {α : Type} {enc : α → Value} {d : α}
def rdOf (d : α) (xs : List α) (i : Int) : α := xs.getD i.toNat d
def ReadsOf (enc : α → Value) (d : α) (w : World) (A : Option Addr) (n : Nat) (xs : List α) : Prop :=
  xs.length = n ∧ n ≤ 9223372036854775807 ∧ (0 < n → ∃ ad, A = some ad ∧ ∀ j, j < n → w.cell? (ad.add j) = some (enc (xs.getD j d)))
theorem ReadsOf.at_ {w : World} {A : Option Addr} {n : Nat} {xs : List α} (h : ReadsOf enc d w A n xs) (i : Int) (h0 : 0 ≤ i) (h1 : i < n) : ∃ ad, A = some ad ∧ w.cell? (ad.add i.toNat) = some (enc (rdOf d xs i)) := by
  obtain ⟨ad, e, hc⟩ := h.2.2 (by omega)
  exact ⟨ad, e, hc _ (by omega)⟩
theorem ReadsOf.below {w w1 : World} {A : Option Addr} {n : Nat} {xs : List α} (h : ReadsOf enc d w A n xs) (hb : Below w.heap.size w w1) : ReadsOf enc d w1 A n xs :=
  ⟨h.1, h.2.1, fun hn => by
    obtain ⟨ad, e, hc⟩ := h.2.2 hn
    exact ⟨ad, e, fun j hj => pw_cell_below hb (hc j hj)⟩⟩
theorem ReadsOf.take_ {w : World} {A : Option Addr} {n : Nat} {xs : List α} (h : ReadsOf enc d w A n xs) (i : Nat) (hi : i ≤ n) : ReadsOf enc d w A i (xs.take i) := by
  refine ⟨by rw [List.length_take, h.1]; omega, by have := h.2.1; omega, fun hp => ?_⟩
  obtain ⟨ad, e, hc⟩ := h.2.2 (by omega)
  refine ⟨ad, e, fun j hj => ?_⟩
  rw [hc j (by omega)]
  simp [List.getD_eq_getElem?_getD, hj]
end
theorem blk_new (w : World) (o : Obj) : (w.alloc o).heap[w.heap.size]? = some o := heap_alloc_new w o
theorem own_le {w : World} {base n m c size : Nat} {e : TypeId} {A : Option Addr} {xs : List Value} (h : w.ownsRow base e size (.slice A m c) n xs) : m ≤ c := by
  rcases h.2 with ⟨he, _⟩ | ⟨g, cap, cur, he, _, _, hnc, _⟩
  · injection he with _ h2 h3
    omega
  · injection he with _ h2 h3
    omega
def OwnRow {α : Type} (R : α → List Value → Prop) (e : TypeId) (size : Nat) (w : World) (base : Nat) (v : Value) (ps : List α) : Prop :=
  ∃ inner, w.ownsRow base e size v ps.length inner ∧ Reps R size ps inner
section
variable {α : Type} {R R' : α → List Value → Prop} {e : TypeId} {size : Nat} {w w1 : World} {base : Nat} {v : Value} {ps : List α}
theorem OwnRow.imp_ (h : OwnRow R e size w base v ps) (hR : ∀ p c, R p c → R' p c) : OwnRow R' e size w base v ps := by
  obtain ⟨inner, ho, hr⟩ := h
  exact ⟨inner, ho, hr.imp_ hR⟩
theorem OwnRow.below (h : OwnRow R e size w base v ps) (hb : Below w.heap.size w w1) : OwnRow R e size w1 base v ps := by
  obtain ⟨inner, ho, hr⟩ := h
  exact ⟨inner, pw_own_below ho hb, hr⟩
theorem OwnRow.keep (h : OwnRow R e size w base v ps) {g : Nat} {t : TypeId} {cells : Array Value} (hb : w.heap[g]? = some (.cells cells t (0, 0))) (ht : e ≠ t) (hk : KeepBut w w1 g none) : OwnRow R e size w1 base v ps := by
  obtain ⟨inner, ho, hr⟩ := h
  exact ⟨inner, hk.own ho (Ne.symm (own_ne ho hb ht)) (by cases v.ownBlock <;> simp), hr⟩
theorem OwnRow.reads (h : OwnRow R e size w base v ps) : ∃ A c, v = .slice A ps.length c ∧ ps.length ≤ c ∧ ReadsRow R size w A ps.length ps := by
  obtain ⟨inner, ho, hr⟩ := h
  obtain ⟨A, c, rfl, hrow⟩ := own_reads_row ho hr rfl
  exact ⟨A, c, rfl, own_le ho, hrow⟩
end
section
variable {α : Type} {P : Program}
theorem ReadsOf.len_ {enc : α → Value} {d : α} {w : World} {A : Option Addr} {n : Nat} {xs : List α} (h : ReadsOf enc d w A n xs) : ReadsOf enc d w A xs.length xs := by rw [h.1]; exact h
end
structure Kd (α : Type) where
  sz : Nat
  E : List Nat
  K : World → α → List Value → Prop
  M : World → Nat → (Nat → Prop) → α → List Value → Prop
  K_len : ∀ {w x cs}, K w x cs → cs.length = sz
  K_one : ∀ {w x cs}, K w x cs → ∀ u ∈ cs, u.oneCell' = true
  K_below : ∀ {w w1 : World} {x cs}, Below w.heap.size w w1 → K w x cs → K w1 x cs
  K_of_M : ∀ {w base ok x cs}, M w base ok x cs → K w x cs
  M_mono : ∀ {w base ok ok' x cs}, (∀ k, ok k → ok' k) → M w base ok x cs → M w base ok' x cs
  M_bound : ∀ {w : World} {base ok x cs}, M w base ok x cs → M w base (fun k => ok k ∧ base ≤ k ∧ k < w.heap.size ∧ ∃ q, q ∈ E ∧ ∃ cells, w.heap[k]? = some (.cells cells q (0, 0))) x cs
  M_move : ∀ {w w1 : World} {base ok x cs}, (∀ k, ok k → w1.heap[k]? = w.heap[k]?) → M w base ok x cs → M w1 base ok x cs
  M_lower : ∀ {w base base' ok x cs}, base' ≤ base → M w base ok x cs → M w base' ok x cs
theorem own_move {w w1 : World} {base : Nat} {e : TypeId} {size n : Nat} {v : Value} {xs : List Value} (h : w.ownsRow base e size v n xs) (hm : ∀ k, v.ownBlock = some k → w1.heap[k]? = w.heap[k]?) : w1.ownsRow base e size v n xs := by
  obtain ⟨h1, h2⟩ := h
  refine ⟨h1, ?_⟩
  rcases h2 with h2 | ⟨g, cap, cur, rfl, hg, hh, r⟩
  · exact .inl h2
  · exact .inr ⟨g, cap, cur, rfl, hg, (hm g (by simp [Value.ownBlock])).trans hh, r⟩
theorem own_typed {w : World} {base : Nat} {e : TypeId} {size n : Nat} {v : Value} {xs : List Value} (h : w.ownsRow base e size v n xs) (k : Nat) (hk : v.ownBlock = some k) : ∃ cells, w.heap[k]? = some (.cells cells e (0, 0)) := by
  rcases h.2 with ⟨rfl, _⟩ | ⟨g, cap, cur, rfl, hg, hh, r⟩
  · simp [Value.ownBlock] at hk
  · have : g = k := by simpa [Value.ownBlock] using hk
    subst this
    exact ⟨cur, hh⟩
namespace Kd
def C {α : Type} (d : Kd α) (w : World) (A : Option Addr) (n : Nat) (xs : List α) : Prop := ReadsRow (d.K w) d.sz w A n xs
def R {α : Type} (d : Kd α) (e : Nat) (w : World) (base : Nat) (ok : Nat → Prop) (v : Value) (xs : List α) : Prop :=
  (∀ k, v.ownBlock = some k → ok k) ∧ OwnRow (d.M w base (fun k => ok k ∧ some k ≠ v.ownBlock)) e d.sz w base v xs
section
variable {α : Type} {d : Kd α} {e : Nat} {w w1 : World} {base : Nat} {ok ok' : Nat → Prop} {v : Value} {xs : List α}
theorem C_below {A : Option Addr} {n : Nat} (h : d.C w A n xs) (hb : Below w.heap.size w w1) : d.C w1 A n xs := ReadsRow.imp_ h hb (fun _ _ hp => d.K_below hb hp)
theorem R_mono (h : d.R e w base ok v xs) (hok : ∀ k, ok k → ok' k) : d.R e w base ok' v xs := ⟨fun k hk => hok k (h.1 k hk), h.2.imp_ (fun _ _ hp => d.M_mono (fun k hk => ⟨hok k hk.1, hk.2⟩) hp)⟩
theorem R_bound (h : d.R e w base ok v xs) : d.R e w base (fun k => ok k ∧ base ≤ k ∧ k < w.heap.size ∧ ∃ q, q ∈ e :: d.E ∧ ∃ cells, w.heap[k]? = some (.cells cells q (0, 0))) v xs := by
  obtain ⟨h0, inner, ho, hr⟩ := h
  refine ⟨fun k hk => ?_, inner, ho, hr.imp_ (fun _ _ hp => d.M_mono (fun k hk => ?_) (d.M_bound hp))⟩
  · obtain ⟨cells, hc⟩ := own_typed ho k hk
    exact ⟨h0 k hk, own_base ho k hk, own_lt ho k hk, e, List.mem_cons_self, cells, hc⟩
  · obtain ⟨⟨h1, h2⟩, h3, h4, q, hq, hc⟩ := hk
    exact ⟨⟨h1, h3, h4, q, List.mem_cons_of_mem _ hq, hc⟩, h2⟩
theorem R_move (h : d.R e w base ok v xs) (hm : ∀ k, ok k → w1.heap[k]? = w.heap[k]?) : d.R e w1 base ok v xs := by
  obtain ⟨h0, inner, ho, hr⟩ := h
  exact ⟨h0, inner, own_move ho (fun k hk => hm k (h0 k hk)), hr.imp_ (fun _ _ hp => d.M_move (fun k hk => hm k hk.1) hp)⟩
theorem R_lower {base' : Nat} (h : d.R e w base ok v xs) (hb : base' ≤ base) : d.R e w base' ok v xs := by
  obtain ⟨h0, inner, ho, hr⟩ := h
  exact ⟨h0, inner, own_weaken ho hb, hr.imp_ (fun _ _ hp => d.M_lower hb hp)⟩
theorem R_reads (h : d.R e w base ok v xs) : ∃ A c, v = .slice A xs.length c ∧ xs.length ≤ c ∧ d.C w A xs.length xs := by
  obtain ⟨A, c, he, hl, hr⟩ := OwnRow.reads h.2
  exact ⟨A, c, he, hl, hr.imp_ (Below.refl _ _) (fun _ _ hp => d.K_of_M hp)⟩
end
def scalar {α : Type} (enc : α → Value) (h1 : ∀ x, (enc x).oneCell' = true) : Kd α where
  sz := 1
  E := []
  K := fun _ x cs => cs = [enc x]
  M := fun _ _ _ x cs => cs = [enc x]
  K_len := fun h => by rw [h]; rfl
  K_one := fun h u hu => by
    rw [h] at hu
    rw [List.mem_singleton.1 hu]
    exact h1 _
  K_below := fun _ h => h
  K_of_M := fun h => h
  M_mono := fun _ h => h
  M_bound := fun h => h
  M_move := fun _ h => h
  M_lower := fun _ h => h
def int (k : IntKind) : Kd Int := scalar (Value.int k) (fun _ => rfl)
def bool : Kd Bool := scalar Value.bool (fun _ => rfl)
def string : Kd ByteArray := scalar Value.string (fun _ => rfl)
def slice {α : Type} (e : Nat) (d : Kd α) : Kd (List α) where
  sz := 1
  E := e :: d.E
  K := fun w xs cs => ∃ A c, cs = [.slice A xs.length c] ∧ xs.length ≤ c ∧ d.C w A xs.length xs
  M := fun w base ok xs cs => ∃ v, cs = [v] ∧ d.R e w base ok v xs
  K_len := by
    rintro w x cs ⟨A, c, rfl, _⟩
    rfl
  K_one := by
    rintro w x cs ⟨A, c, rfl, _⟩ u hu
    rw [List.mem_singleton.1 hu]
    rfl
  K_below := by
    rintro w w1 x cs hb ⟨A, c, rfl, hl, hr⟩
    exact ⟨A, c, rfl, hl, C_below hr hb⟩
  K_of_M := by
    rintro w base ok x cs ⟨v, rfl, h⟩
    obtain ⟨A, c, rfl, hl, hr⟩ := R_reads h
    exact ⟨A, c, rfl, hl, hr⟩
  M_mono := by
    rintro w base ok ok' x cs hok ⟨v, rfl, h⟩
    exact ⟨v, rfl, R_mono h hok⟩
  M_bound := by
    rintro w base ok x cs ⟨v, rfl, h⟩
    exact ⟨v, rfl, R_bound h⟩
  M_move := by
    rintro w w1 base ok x cs hm ⟨v, rfl, h⟩
    exact ⟨v, rfl, R_move h hm⟩
  M_lower := by
    rintro w base base' ok x cs hb ⟨v, rfl, h⟩
    exact ⟨v, rfl, R_lower h hb⟩
def iso {α β : Type} (d : Kd α) (f : β → α) : Kd β where
  sz := d.sz
  E := d.E
  K := fun w x cs => d.K w (f x) cs
  M := fun w base ok x cs => d.M w base ok (f x) cs
  K_len := d.K_len
  K_one := d.K_one
  K_below := d.K_below
  K_of_M := d.K_of_M
  M_mono := d.M_mono
  M_bound := d.M_bound
  M_move := d.M_move
  M_lower := d.M_lower
theorem C_of_reads {α : Type} {enc : α → Value} {d : α} {h1 : ∀ x, (enc x).oneCell' = true} {w : World} {A : Option Addr} {n : Nat} {xs : List α} (h : ReadsOf enc d w A n xs) : (scalar enc h1).C w A n xs := by
  refine ⟨h.1, h.2.1, fun hn => ?_⟩
  obtain ⟨ad, e, hc⟩ := h.2.2 hn
  refine ⟨ad, e, fun j p hj => ⟨[enc p], rfl, rfl, fun i u hu => ?_⟩⟩
  obtain ⟨hl, hp⟩ := List.getElem?_eq_some_iff.1 hj
  have h2 := hc j (by have := h.1; omega)
  rw [List.getD_eq_getElem?_getD, hj] at h2
  cases i with
  | zero =>
    have : enc p = u := by simpa using hu
    subst this
    simpa [scalar] using h2
  | succ i => simp at hu
theorem reads_of_C {α : Type} {enc : α → Value} {d : α} {h1 : ∀ x, (enc x).oneCell' = true} {w : World} {A : Option Addr} {n : Nat} {xs : List α} (h : (scalar enc h1).C w A n xs) : ReadsOf enc d w A n xs := by
  refine ⟨h.1, h.2.1, fun hn => ?_⟩
  obtain ⟨ad, e, hc⟩ := h.2.2 hn
  refine ⟨ad, e, fun j hj => ?_⟩
  have hl : j < xs.length := by have := h.1; omega
  obtain ⟨c, _, hK, hcell⟩ := hc j _ (List.getElem?_eq_getElem hl)
  have hK' : c = [enc xs[j]] := hK
  subst hK'
  have := hcell 0 _ rfl
  simpa [scalar, List.getD_eq_getElem?_getD, List.getElem?_eq_getElem hl] using this
end Kd
namespace Kd
end Kd
namespace Kd
end Kd
namespace Kd
section
variable {w W : World} {A : Option Addr} {n : Nat}
theorem at_int {k : IntKind} {xs : List Int} (h : (Kd.int k).C w A n xs) (i : Int) (h0 : 0 ≤ i) (h1 : i < n) : ∃ ad, A = some ad ∧ w.cell? (ad.add i.toNat) = some (.int k (rd xs i)) :=
  ReadsOf.at_ (reads_of_C (enc := Value.int k) (d := (0 : Int)) (h1 := fun _ => rfl) h) i h0 h1
variable {α : Type} {enc : α → Value} {h1 : ∀ x, (enc x).oneCell' = true} {e base g cap : Nat} {ok : Nat → Prop} {xs : List α}
end
section
variable {P : Program} {ops : Array Oper} {rest : List Oper} {o : Oper} {a : Act} {Q : Exit → Act → World → Prop}
theorem event_run {W w1 : World} {v : Value} (hgd : o.guard = none) (hrun : (execOp a.eval o).run P W = .ok (.value v) w1) (h : wpList P ops Q rest (a.put o.dst v) w1) : wpList P ops Q (o :: rest) a W := by
  refine wpList_plain hgd fun K hK => ?_
  unfold Oper.wp
  rw [hrun]
  exact hK _ _ h
variable {α : Type}
end
end Kd
def QRow (w : World) (base : Nat) (e : TypeId) (size : Nat) (v : Value) (n : Nat) (xs : List Value) : Prop :=
  xs.length = n * size ∧
  ((n = 0 ∧ ∃ A, v = .slice A 0 0 ∧ ∀ a, A = some a → base ≤ a.block ∧ ∃ cur, w.heap[a.block]? = some (.cells cur e (0, 0))) ∨
   ∃ g off cap cur, v = .slice (some ⟨g, off * size, none⟩) n cap ∧ base ≤ g ∧ w.heap[g]? = some (.cells cur e (0, 0)) ∧ n ≤ cap ∧ off + cap ≤ maxLen ∧ cur.size = (off + cap) * size ∧ (cur.toList.drop (off * size)).take (n * size) = xs)
namespace Kd
def Q {α : Type} (d : Kd α) (e : Nat) (w : World) (base : Nat) (ok : Nat → Prop) (v : Value) (xs : List α) : Prop :=
  (∀ k, v.ownBlock = some k → ok k) ∧ ∃ inner, QRow w base e d.sz v xs.length inner ∧ Reps (d.M w base (fun k => ok k ∧ some k ≠ v.ownBlock)) d.sz xs inner
end Kd
namespace Kd
end Kd
namespace Kd
end Kd
namespace Kd
end Kd
namespace Kd
end Kd
namespace Kd
end Kd
namespace Kd
end Kd
theorem below_step {w W w2 : World} (h : Below w.heap.size w W) (k : Below W.heap.size W w2) : Below w.heap.size w w2 := below_then h h.size k
theorem ReadsInt.nil (W : World) (k : IntKind) : ReadsInt W k none ([] : List Int).length [] := ⟨rfl, by simp, fun h => absurd h (Nat.lt_irrefl 0)⟩
theorem ReadsInt.drewN {W : World} {k : IntKind} {A : Option Addr} {n : Nat} {xs : List Int} (h : ReadsInt W k A n xs) (m : Nat) : ReadsInt (W.drewN m) k A n xs := h
theorem keep_cell {w W : World} {g : Nat} (h : KeepBut w W g none) {a : Addr} {v : Value} (hc : w.cell? a = some v) (hne : a.block ≠ g) : W.cell? a = some v := by
  have := h.2 a.block (World.block_lt_of_cell? w a hc) hne (by simp)
  simpa [World.cell?, this] using hc
theorem add_block (a : Addr) (i : Nat) : (a.add i).block = a.block := by unfold Addr.add; split <;> rfl
theorem ReadsOf.nil {α : Type} (enc : α → Value) (d : α) (W : World) : ReadsOf enc d W none ([] : List α).length [] := ⟨rfl, by simp, fun h => absurd h (Nat.lt_irrefl 0)⟩
theorem ReadsOf.drewN {α : Type} {enc : α → Value} {d : α} {W : World} {A : Option Addr} {n : Nat} {xs : List α} (h : ReadsOf enc d W A n xs) (m : Nat) : ReadsOf enc d (W.drewN m) A n xs := h
theorem ReadsInt.keep {w W : World} {k : IntKind} {A : Option Addr} {n g : Nat} {xs : List Int} (h : ReadsInt w k A n xs) (hk : KeepBut w W g none) (hf : ∀ ad, A = some ad → 0 < n → ad.block ≠ g) : ReadsInt W k A n xs :=
  ⟨h.1, h.2.1, fun hn => by
    obtain ⟨ad, e, hc⟩ := h.2.2 hn
    exact ⟨ad, e, fun j hj => keep_cell hk (hc j hj) (by rw [add_block]; exact hf ad e hn)⟩⟩
theorem ReadsOf.keep {α : Type} {enc : α → Value} {d : α} {w W : World} {A : Option Addr} {n g : Nat} {xs : List α} (h : ReadsOf enc d w A n xs) (hk : KeepBut w W g none) (hf : ∀ ad, A = some ad → 0 < n → ad.block ≠ g) : ReadsOf enc d W A n xs :=
  ⟨h.1, h.2.1, fun hn => by
    obtain ⟨ad, e, hc⟩ := h.2.2 hn
    exact ⟨ad, e, fun j hj => keep_cell hk (hc j hj) (by rw [add_block]; exact hf ad e hn)⟩⟩
theorem below_drew1 {base : Nat} {w W : World} (h : Below base w W) : Below base w W.drew := h.drew
namespace Kd
end Kd
namespace Kd
end Kd
namespace Kd
end Kd
namespace Kd
end Kd
section
variable {P : Program} {ops : Array Oper} {o : Oper} {a : Act} {Q : Exit → Act → World → Prop} {Kc : Act → World → Prop}
namespace Kd
variable {α : Type}
end Kd
end
namespace Kd
end Kd
end Go.Proofs.YtpfenoioeajkmaaDoorW.PrintWords
end

section
namespace Go.Proofs.YtpfenoioeajkmaaDoorW.PrintLast
section
variable {P : Program} {ops : Array Oper} {Q : Exit → Act → World → Prop} {md : Region.Mode} {S : World → Prop} {ds : List Nat}
def Region.reachB (md : Region.Mode) (ops : Array Oper) (i : Nat) : Nat → Nat → Bool
  | 0, _ => false
  | fuel + 1, d => match ops[d]? with
    | some o => o.after.any fun e => Region.binds md e && (e.on == i || Region.reachB md ops i fuel e.on)
    | none => false
def Region.closedB (md : Region.Mode) (ops : Array Oper) (listed : Array Bool) : Bool :=
  (List.range ops.size).all fun j => !listed.getD j false || match ops[j]? with
    | some o => o.after.all fun e => !Region.binds md e || listed.getD e.on false
    | none => true
def Region.lastB (md : Region.Mode) (ops : Array Oper) (listed : Array Bool) (ds : List Nat) (i : Nat) : Bool :=
  ds.all fun d => listed.getD d true || Region.reachB md ops i ops.size d
def ListedClosed (md : Region.Mode) (ops : Array Oper) (listed : Array Bool) : Prop :=
  ∀ j oj, ops[j]? = some oj → listed.getD j false = true → ∀ e ∈ oj.after, Region.binds md e = true → listed.getD e.on false = true
theorem Region.closedB_spec {listed : Array Bool} (h : Region.closedB md ops listed = true) : ListedClosed md ops listed := by
  intro j oj hj hl e he hb
  have hlt : j < ops.size := (Array.getElem?_eq_some_iff.1 hj).1
  have h1 := List.all_eq_true.1 h j (List.mem_range.2 hlt)
  simp only [hl, hj, Bool.not_true, Bool.false_or] at h1
  have h2 := Array.all_eq_true_iff_forall_mem.1 h1 e he
  simpa [hb] using h2
theorem ListedClosed.set {listed : Array Bool} {i : Nat} (h : ListedClosed md ops listed) (hi : i ∈ Region.ready md ops listed) : ListedClosed md ops (listed.setIfInBounds i true) := by
  obtain ⟨_, oi, hoi, hall⟩ := mem_ready.1 hi
  intro j oj hj hl e he hb
  by_cases hij : i = j
  · subst hij
    have : oj = oi := Option.some.inj (hj.symm.trans hoi)
    subst this
    exact getD_set_true (hall e he hb)
  · rw [getD_set_ne false hij] at hl
    exact getD_set_true (h j oj hj hl e he hb)
theorem Region.reach_listed {listed : Array Bool} {i : Nat} (hc : ListedClosed md ops listed) : ∀ (fuel d : Nat), Region.reachB md ops i fuel d = true → listed.getD d false = true → listed.getD i false = true
  | 0, _, h, _ => by simp [Region.reachB] at h
  | fuel + 1, d, h, hl => by
    unfold Region.reachB at h
    cases ho : ops[d]? with
    | none => rw [ho] at h; simp at h
    | some o =>
      rw [ho] at h
      obtain ⟨e, he, h1⟩ := Array.any_eq_true'.1 h
      simp only [Bool.and_eq_true, Bool.or_eq_true, beq_iff_eq] at h1
      have hle := hc d o ho hl e he h1.1
      rcases h1.2 with h2 | h2
      · rw [← h2]; exact hle
      · exact Region.reach_listed hc fuel e.on h2 hle
theorem Region.reach_not_ready {listed : Array Bool} {i d fuel : Nat} (hc : ListedClosed md ops listed) (hr : Region.reachB md ops i fuel d = true) (hun : listed.getD i true = false) : d ∉ Region.ready md ops listed := by
  intro hd
  obtain ⟨_, o, ho, hall⟩ := mem_ready.1 hd
  have hi : listed.getD i false = true := by
    cases fuel with
    | zero => simp [Region.reachB] at hr
    | succ n =>
      unfold Region.reachB at hr
      rw [ho] at hr
      obtain ⟨e, he, h1⟩ := Array.any_eq_true'.1 hr
      simp only [Bool.and_eq_true, Bool.or_eq_true, beq_iff_eq] at h1
      have hle := hall e he h1.1
      rcases h1.2 with h2 | h2
      · rw [← h2]; exact hle
      · exact Region.reach_listed hc n e.on h2 hle
  rcases Nat.lt_or_ge i listed.size with h' | h'
  · simp [h'] at hun hi
    rw [hun] at hi
    cases hi
  · simp [Array.getElem?_eq_none h'] at hun
def wpAnyLast (P : Program) (md : Region.Mode) (ops : Array Oper) (Q : Exit → Act → World → Prop) (S : World → Prop) (ds : List Nat) : Nat → Array Bool → Act → World → Prop
  | 0, listed, a, w => Region.ready md ops listed = [] ∧ Q .normal a w
  | fuel + 1, listed, a, w =>
    (Region.ready md ops listed = [] → Q .normal a w) ∧
    ∀ i ∈ Region.ready md ops listed, wpOp P ops Q i (fun a' w' => (i ∉ ds → S w → S w') ∧ wpAnyLast P md ops Q S ds fuel (listed.setIfInBounds i true) a' w') a w
theorem wpAny_of_last : ∀ (fuel : Nat) (listed : Array Bool) (a : Act) (w : World), wpAnyLast P md ops Q S ds fuel listed a w → wpAny P md ops Q fuel listed a w
  | 0, _, _, _, h => h
  | fuel + 1, _, _, _, h => ⟨h.1, fun i hi => wpOp_mono (fun a' w' h' => wpAny_of_last fuel _ a' w' h'.2) (h.2 i hi)⟩
theorem wpAnyLast_first {i : Nat} {oi : Oper} {v : Value} (hi : ops[i]? = some oi) (hsel : ∀ (j : Nat) (o : Oper) cs b, ops[j]? = some o → o.op ≠ .select cs b)
    (hQ : ∀ c a w, Q (.panic c) (a.put oi.dst v) w → Q (.panic c) a w) (n : Nat) :
    ∀ (fuel : Nat) (listed : Array Bool) (a : Act) (w : World),
      (∀ j oj, ops[j]? = some oj → j ≠ i → listed.getD j true = false → (∀ e ∈ oj.after, Region.binds md e = true → e.on ≠ i) → oi.apart ops oj = true) →
      ListedClosed md ops listed → (∀ d ∈ ds, listed.getD d true = false → Region.reachB md ops i n d = true) →
      i ∈ Region.ready md ops listed → YieldsIf P ops S oi v a → S w →
      wpAnyLast P md ops Q S ds fuel (listed.setIfInBounds i true) (a.put oi.dst v) w → wpAnyLast P md ops Q S ds (fuel + 1) listed a w := by
  intro fuel
  induction fuel with
  | zero =>
    intro listed a w _ _ _ hr hy hS H
    refine ⟨fun h => (by rw [h] at hr; cases hr), fun j hj => ?_⟩
    by_cases hji : j = i
    · subst hji; exact hy.wpOp hi hS ⟨fun _ h => h, H⟩
    · have := ready_mono hj hji
      rw [H.1] at this
      cases this
  | succ fuel ih =>
    intro listed a w hfree hc hd hr hy hS H
    refine ⟨fun h => (by rw [h] at hr; cases hr), fun j hj => ?_⟩
    by_cases hji : j = i
    · subst hji; exact hy.wpOp hi hS ⟨fun _ h => h, H⟩
    · have h1 := H.2 j (ready_mono hj hji)
      obtain ⟨hjun, oj, hoj, hall⟩ := mem_ready.1 hj
      have hiun := (mem_ready.1 hr).1
      have hnot : ∀ e ∈ oj.after, Region.binds md e = true → e.on ≠ i := fun e he hb heq => by
        have h1 := hall e he hb
        rw [heq] at h1
        rcases Nat.lt_or_ge i listed.size with h' | h'
        · simp [h'] at hiun h1; rw [hiun] at h1; cases h1
        · simp [Array.getElem?_eq_none h'] at h1
      have hjd : j ∉ ds := fun hm => Region.reach_not_ready hc (hd j hm hjun) hiun hj
      have h2 := wpOp_putIf hoj (hfree j oj hoj hji hjun hnot) (fun cs b => hsel i oi cs b hi) (fun cs b => hsel j oj cs b hoj) hQ hy h1
      have hfree' : ∀ k ok, ops[k]? = some ok → k ≠ i → (listed.setIfInBounds j true).getD k true = false →
          (∀ e ∈ ok.after, Region.binds md e = true → e.on ≠ i) → oi.apart ops ok = true := fun k ok hk hki hun hno => by
        refine hfree k ok hk hki ?_ hno
        by_cases hjk : j = k
        · subst hjk; exact hjun
        · rw [getD_set_ne true hjk] at hun; exact hun
      have hd' : ∀ d ∈ ds, (listed.setIfInBounds j true).getD d true = false → Region.reachB md ops i n d = true := fun d hm hun => by
        refine hd d hm ?_
        by_cases hjk : j = d
        · subst hjk; exact hjun
        · rw [getD_set_ne true hjk] at hun; exact hun
      refine wpOp_mono (fun a' w' h3 => ⟨h3.2.1, ih (listed.setIfInBounds j true) a' w' hfree' (hc.set hj) hd' (ready_mono hr (Ne.symm hji)) h3.1 (h3.2.1 hjd hS) ?_⟩) h2
      rw [Array.setIfInBounds_comm _ _ hji]
      exact h3.2.2
theorem wpAnyLast_any {i : Nat} {oi : Oper} {v : Value} (hi : ops[i]? = some oi) (hsel : ∀ (j : Nat) (o : Oper) cs b, ops[j]? = some o → o.op ≠ .select cs b)
    (hQ : ∀ c a w, Q (.panic c) (a.put oi.dst v) w → Q (.panic c) a w) :
    ∀ (fuel : Nat) (listed : Array Bool) (a : Act) (w : World),
      (∀ j oj, ops[j]? = some oj → j ≠ i → listed.getD j true = false → (∀ e ∈ oj.after, Region.binds md e = true → e.on ≠ i) → oi.apart ops oj = true) →
      i ∈ Region.ready md ops listed → Yields P ops oi v a →
      wpAnyLast P md ops Q S ds fuel (listed.setIfInBounds i true) (a.put oi.dst v) w → wpAnyLast P md ops Q S ds (fuel + 1) listed a w := by
  intro fuel
  induction fuel with
  | zero =>
    intro listed a w _ hr hy H
    refine ⟨fun h => (by rw [h] at hr; cases hr), fun j hj => ?_⟩
    by_cases hji : j = i
    · subst hji; exact (hy.yieldsIf (S := fun _ => True)).wpOp hi trivial ⟨fun _ h => h, H⟩
    · have := ready_mono hj hji
      rw [H.1] at this
      cases this
  | succ fuel ih =>
    intro listed a w hfree hr hy H
    refine ⟨fun h => (by rw [h] at hr; cases hr), fun j hj => ?_⟩
    by_cases hji : j = i
    · subst hji; exact (hy.yieldsIf (S := fun _ => True)).wpOp hi trivial ⟨fun _ h => h, H⟩
    · have h1 := H.2 j (ready_mono hj hji)
      obtain ⟨hjun, oj, hoj, hall⟩ := mem_ready.1 hj
      have hiun := (mem_ready.1 hr).1
      have hnot : ∀ e ∈ oj.after, Region.binds md e = true → e.on ≠ i := fun e he hb heq => by
        have h1 := hall e he hb
        rw [heq] at h1
        rcases Nat.lt_or_ge i listed.size with h' | h'
        · simp [h'] at hiun h1; rw [hiun] at h1; cases h1
        · simp [Array.getElem?_eq_none h'] at h1
      have h2 := wpOp_put hoj (hfree j oj hoj hji hjun hnot) (fun cs b => hsel i oi cs b hi) (fun cs b => hsel j oj cs b hoj) hQ hy h1
      have hfree' : ∀ k ok, ops[k]? = some ok → k ≠ i → (listed.setIfInBounds j true).getD k true = false →
          (∀ e ∈ ok.after, Region.binds md e = true → e.on ≠ i) → oi.apart ops ok = true := fun k ok hk hki hun hno => by
        refine hfree k ok hk hki ?_ hno
        by_cases hjk : j = k
        · subst hjk; exact hjun
        · rw [getD_set_ne true hjk] at hun; exact hun
      refine wpOp_mono (fun a' w' h3 => ⟨h3.2.1, ih (listed.setIfInBounds j true) a' w' hfree' (ready_mono hr (Ne.symm hji)) h3.1 ?_⟩) h2
      rw [Array.setIfInBounds_comm _ _ hji]
      exact h3.2.2
theorem wpAnyLast_take {i : Nat} {oi : Oper} {v : Value} {fuel : Nat} {listed : Array Bool} {a : Act} {w : World} (hi : ops[i]? = some oi)
    (hs : Region.noSelect ops = true) (hf : Region.free md ops listed i = true) (hr : (Region.ready md ops listed).contains i = true)
    (hc : Region.closedB md ops listed = true) (hl : Region.lastB md ops listed ds i = true)
    (hQ : ∀ c a w, Q (.panic c) (a.put oi.dst v) w → Q (.panic c) a w) (hy : YieldsIf P ops S oi v a) (hS : S w)
    (h : wpAnyLast P md ops Q S ds fuel (listed.setIfInBounds i true) (a.put oi.dst v) w) : wpAnyLast P md ops Q S ds (fuel + 1) listed a w :=
  wpAnyLast_first hi (Region.noSelect_spec hs) hQ ops.size fuel listed a w (Region.free_spec hi hf) (Region.closedB_spec hc)
    (fun d hm hun => by have := List.all_eq_true.1 hl d hm; rw [hun] at this; simpa using this) (by simpa using hr) hy hS h
theorem wpAnyLast_all {rs : List Nat} {fuel : Nat} {listed : Array Bool} {a : Act} {w : World} (hr : Region.ready md ops listed = rs) (hne : rs ≠ [])
    (h : ∀ i ∈ rs, wpOp P ops Q i (fun a' w' => (i ∉ ds → S w → S w') ∧ wpAnyLast P md ops Q S ds fuel (listed.setIfInBounds i true) a' w') a w) : wpAnyLast P md ops Q S ds (fuel + 1) listed a w :=
  ⟨fun h0 => absurd (hr ▸ h0) hne, hr ▸ h⟩
theorem wpAnyLast_done {listed : Array Bool} {a : Act} {w : World} (hr : Region.ready md ops listed = []) (h : Q .normal a w) :
    ∀ fuel, wpAnyLast P md ops Q S ds fuel listed a w
  | 0 => ⟨hr, h⟩
  | _ + 1 => ⟨fun _ => h, by rw [hr]; simp⟩
theorem wp_region_last {id : Nat} {a : Act} {w : World} (hm : P.follows .mixedOrders = true)
    (h : wpAnyLast P .any ops Q S ds ops.size (Array.replicate ops.size false) a { w with drawn := w.drawn + 1 }) : (Code.region id ops true).wp P Q a w :=
  wp_region_any hm (wpAny_of_last _ _ _ _ h)
end
section
variable {P : Program} {ops : Array Oper} {Q : Exit → Act → World → Prop} {md : Region.Mode} {S : World → Prop} {ds : List Nat}
def AllReadyL (P : Program) (md : Region.Mode) (ops : Array Oper) (Q : Exit → Act → World → Prop) (S : World → Prop) (ds : List Nat) (fuel : Nat) (listed : Array Bool) (a : Act) (w : World) (rs : List Nat) : Prop :=
  ∀ i ∈ rs, wpOp P ops Q i (fun a' w' => (i ∉ ds → S w → S w') ∧ wpAnyLast P md ops Q S ds fuel (listed.setIfInBounds i true) a' w') a w
theorem AllReadyL.nil {fuel : Nat} {listed : Array Bool} {a : Act} {w : World} : AllReadyL P md ops Q S ds fuel listed a w [] := fun _ h => by cases h
theorem AllReadyL.cons {fuel : Nat} {listed : Array Bool} {a : Act} {w : World} {i : Nat} {o : Oper} {rs : List Nat} (ho : ops[i]? = some o) (hd : i ∉ ds)
    (h : ∀ K' : Act → World → Prop, Shut (∀ a w, S w → (S w → wpAnyLast P md ops Q S ds fuel (listed.setIfInBounds i true) a w) → K' a w) → if Region.wanted o (yielded ops a.tmps) = true then Oper.wp P o a w K' Q else K' (a.put o.dst undef) w)
    (hs : AllReadyL P md ops Q S ds fuel listed a w rs) : AllReadyL P md ops Q S ds fuel listed a w (i :: rs) := fun j hj => by
  rcases List.mem_cons.1 hj with rfl | hj
  · exact wpOp_step ho (fun K' hK => h K' (fun a w hS hW => hK a w ⟨fun _ _ => hS, hW hS⟩))
  · exact hs j hj
theorem AllReadyL.cons_last {fuel : Nat} {listed : Array Bool} {a : Act} {w : World} {i : Nat} {o : Oper} {rs : List Nat} (ho : ops[i]? = some o) (hd : i ∈ ds)
    (h : ∀ K' : Act → World → Prop, Shut (∀ a w, wpAnyLast P md ops Q S ds fuel (listed.setIfInBounds i true) a w → K' a w) → if Region.wanted o (yielded ops a.tmps) = true then Oper.wp P o a w K' Q else K' (a.put o.dst undef) w)
    (hs : AllReadyL P md ops Q S ds fuel listed a w rs) : AllReadyL P md ops Q S ds fuel listed a w (i :: rs) := fun j hj => by
  rcases List.mem_cons.1 hj with rfl | hj
  · exact wpOp_step ho (fun K' hK => h K' (fun a w hW => hK a w ⟨fun hn => absurd hd hn, hW⟩))
  · exact hs j hj
theorem wpAnyLast_ready {rs : List Nat} {fuel : Nat} {listed : Array Bool} {a : Act} {w : World} (hr : Region.ready md ops listed = rs) (hne : rs ≠ [])
    (h : AllReadyL P md ops Q S ds fuel listed a w rs) : wpAnyLast P md ops Q S ds (fuel + 1) listed a w := wpAnyLast_all hr hne h
theorem start_ {id n : Nat} {a : Act} {w : World} (l : Array Bool) (hm : P.follows .mixedOrders = true) (hn : ops.size = n) (hl : Array.replicate n false = l) (hS : S w.drew)
    (h : S w.drew → wpAnyLast P .any ops Q S ds n l a w.drew) : (Code.region id ops true).wp P Q a w := by
  subst hn
  subst hl
  exact wp_region_last hm (h hS)
def takeB (md : Region.Mode) (ops : Array Oper) (ds : List Nat) (l l' : Array Bool) (i : Nat) : Bool :=
  Region.noSelect ops && Region.free md ops l i && (Region.ready md ops l).contains i && Region.closedB md ops l && Region.lastB md ops l ds i && (l.setIfInBounds i true == l')
theorem take_ {i : Nat} {N : Option Tmp} {oi : Oper} {v : Value} {fuel : Nat} {l : Array Bool} {a : Act} {w : World} (l' : Array Bool) (hi : ops[i]? = some oi) (hN : oi.dst = N) (hc : takeB md ops ds l l' i = true)
    (hQ : ∀ c a w, Q (.panic c) (a.put oi.dst v) w → Q (.panic c) a w) (hy : YieldsIf P ops S oi v a) (hS : S w) {a' : Act} (ha : a.put N v = a')
    (h : wpAnyLast P md ops Q S ds fuel l' a' w) : wpAnyLast P md ops Q S ds (fuel + 1) l a w := by
  subst ha
  subst hN
  simp only [takeB, Bool.and_eq_true, beq_iff_eq] at hc
  obtain ⟨⟨⟨⟨⟨h1, h2⟩, h3⟩, h4⟩, h5⟩, h6⟩ := hc
  subst h6
  exact wpAnyLast_take hi h1 h2 h3 h4 h5 hQ hy hS h
def anyB (md : Region.Mode) (ops : Array Oper) (l l' : Array Bool) (i : Nat) : Bool :=
  Region.noSelect ops && Region.free md ops l i && (Region.ready md ops l).contains i && (l.setIfInBounds i true == l')
theorem pure_ {i : Nat} {N : Option Tmp} {oi : Oper} {v : Value} {fuel : Nat} {l : Array Bool} {a : Act} {w : World} (l' : Array Bool) (hi : ops[i]? = some oi) (hN : oi.dst = N) (hc : anyB md ops l l' i = true)
    (hQ : ∀ c a w, Q (.panic c) (a.put oi.dst v) w → Q (.panic c) a w) (hy : Yields P ops oi v a) {a' : Act} (ha : a.put N v = a')
    (h : wpAnyLast P md ops Q S ds fuel l' a' w) : wpAnyLast P md ops Q S ds (fuel + 1) l a w := by
  subst ha
  subst hN
  simp only [anyB, Bool.and_eq_true, beq_iff_eq] at hc
  obtain ⟨⟨⟨h1, h2⟩, h3⟩, h6⟩ := hc
  subst h6
  exact wpAnyLast_any hi (Region.noSelect_spec h1) hQ fuel l a w (Region.free_spec hi h2) (by simpa using h3) hy h
def readyB (md : Region.Mode) (ops : Array Oper) (l l' : Array Bool) (i : Nat) : Bool := (Region.ready md ops l == [i]) && (l.setIfInBounds i true == l')
theorem one_ {i : Nat} {N : Option Tmp} {oi : Oper} {fuel : Nat} {l : Array Bool} {a : Act} {w : World} (l' : Array Bool) (hi : ops[i]? = some oi) (hN : oi.dst = N) (hc : readyB md ops l l' i = true) (hd : i ∉ ds)
    (h : ∀ K : Act → World → Prop, Shut (∀ a' w', S w' → (S w' → wpAnyLast P md ops Q S ds fuel l' a' w') → K a' w') → if Region.wanted oi (yielded ops a.tmps) = true then Oper.wp P oi a w K Q else K (a.put N undef) w) :
    wpAnyLast P md ops Q S ds (fuel + 1) l a w := by
  subst hN
  simp only [readyB, Bool.and_eq_true, beq_iff_eq] at hc
  obtain ⟨h1, h2⟩ := hc
  subst h2
  exact wpAnyLast_ready h1 (by simp) (AllReadyL.cons hi hd (fun K hK => h K hK) AllReadyL.nil)
theorem last_ {i : Nat} {N : Option Tmp} {oi : Oper} {fuel : Nat} {l : Array Bool} {a : Act} {w : World} (l' : Array Bool) (hi : ops[i]? = some oi) (hN : oi.dst = N) (hc : readyB md ops l l' i = true) (hd : i ∈ ds)
    (h : ∀ K : Act → World → Prop, Shut (∀ a' w', wpAnyLast P md ops Q S ds fuel l' a' w' → K a' w') → if Region.wanted oi (yielded ops a.tmps) = true then Oper.wp P oi a w K Q else K (a.put N undef) w) :
    wpAnyLast P md ops Q S ds (fuel + 1) l a w := by
  subst hN
  simp only [readyB, Bool.and_eq_true, beq_iff_eq] at hc
  obtain ⟨h1, h2⟩ := hc
  subst h2
  exact wpAnyLast_ready h1 (by simp) (AllReadyL.cons_last hi hd (fun K hK => h K hK) AllReadyL.nil)
theorem done_ {l : Array Bool} {a : Act} {w : World} {n : Nat} (hr : (Region.ready md ops l == []) = true) (h : Q .normal a w) : wpAnyLast P md ops Q S ds n l a w := wpAnyLast_done (by simpa using hr) h n
theorem two_ {i j : Nat} {Ni Nj : Option Tmp} {oi oj : Oper} {fuel : Nat} {l : Array Bool} {a : Act} {w : World} (li lj : Array Bool) (hi : ops[i]? = some oi) (hj : ops[j]? = some oj) (hNi : oi.dst = Ni) (hNj : oj.dst = Nj)
    (hc : (Region.ready md ops l == [i, j] && l.setIfInBounds i true == li && l.setIfInBounds j true == lj) = true) (hdi : i ∉ ds) (hdj : j ∉ ds)
    (h1 : ∀ K : Act → World → Prop, Shut (∀ a' w', S w' → (S w' → wpAnyLast P md ops Q S ds fuel li a' w') → K a' w') → if Region.wanted oi (yielded ops a.tmps) = true then Oper.wp P oi a w K Q else K (a.put Ni undef) w)
    (h2 : ∀ K : Act → World → Prop, Shut (∀ a' w', S w' → (S w' → wpAnyLast P md ops Q S ds fuel lj a' w') → K a' w') → if Region.wanted oj (yielded ops a.tmps) = true then Oper.wp P oj a w K Q else K (a.put Nj undef) w) :
    wpAnyLast P md ops Q S ds (fuel + 1) l a w := by
  subst hNi
  subst hNj
  simp only [Bool.and_eq_true, beq_iff_eq] at hc
  obtain ⟨⟨h3, h4⟩, h5⟩ := hc
  subst h4
  subst h5
  exact wpAnyLast_ready h3 (by simp) (AllReadyL.cons hi hdi (fun K hK => h1 K hK) (AllReadyL.cons hj hdj (fun K hK => h2 K hK) AllReadyL.nil))
theorem norm_ {fuel : Nat} {l : Array Bool} {a a' : Act} {w : World} (ha : a = a') (h : wpAnyLast P md ops Q S ds fuel l a' w) : wpAnyLast P md ops Q S ds fuel l a w := by
  subst ha
  exact h
theorem call_ {oi : Oper} {N : Option Tmp} {a : Act} {w : World} {K : Act → World → Prop} (f : FuncId) (args : Array Value) (hw : Region.wanted oi (yielded ops a.tmps) = true) (hN : oi.dst = N) (hrun : (execOp a.eval oi).run P w = .ok (.enter f args) w)
    (h : Calls P f args w fun e w' => ∃ v, e = .returned v ∧ K (a.put N v) w') : if Region.wanted oi (yielded ops a.tmps) = true then Oper.wp P oi a w K Q else K (a.put N undef) w := by
  rw [if_pos hw]
  subst hN
  unfold Oper.wp
  rw [hrun, Oper.upon_enter]
  refine h.mono fun e w'' hh => ?_
  obtain ⟨v, rfl, hk⟩ := hh
  exact hk
theorem enters_ {f : FuncId} {fn : Func} (hf : P.funcs[f]? = some fn) (hname : (fn.name == "runtime.NumGoroutine") = false) (hb : fn.body.isSome = true) (args : Array Value) (w : World) : (callFunc f args).run P w = .ok (.enter f args) w := by
  have h1 : fn.name ≠ "runtime.NumGoroutine" := by simpa using hname
  obtain ⟨c, hc⟩ := Option.isSome_iff_exists.1 hb
  simp [callFunc, hf, h1, hc]
theorem goes_ {oi : Oper} {N : Option Tmp} {a : Act} {w : World} {K : Act → World → Prop} {f : FuncId} {fn : Func} {as0 : Array Operand} {ts : Array TypeId} (hf : P.funcs[f]? = some fn) (hname : (fn.name == "runtime.NumGoroutine") = false) (hb : fn.body.isSome = true) (args : Array Value)
    (hw : Region.wanted oi (yielded ops a.tmps) = true) (hN : oi.dst = N) (hop : oi.op = .call { callee := .value (.func f), args := as0, argTypes := ts }) (hargs : as0.map a.eval = args)
    (h : Calls P f args w fun e w' => ∃ v, e = .returned v ∧ K (a.put N v) w') : if Region.wanted oi (yielded ops a.tmps) = true then Oper.wp P oi a w K Q else K (a.put N undef) w := by
  refine call_ f args hw hN ?_ h
  have he := enters_ hf hname hb args w
  unfold execOp
  simp [hop, resolve, Deferred.ofValue, invoke, Act.eval, hargs, he]
theorem goesL_ {rest : List Oper} {oi : Oper} {a : Act} {w : World} (N : Option Tmp) (hd : oi.dst = N) (hg : oi.guard = none) {f : FuncId} {fn : Func} {as0 : Array Operand} {ts : Array TypeId} (hf : P.funcs[f]? = some fn) (hname : (fn.name == "runtime.NumGoroutine") = false) (hb : fn.body.isSome = true) (args : Array Value)
    (hop : oi.op = .call { callee := .value (.func f), args := as0, argTypes := ts }) (hargs : as0.map a.eval = args)
    (h : Calls P f args w fun e w' => ∃ v, e = .returned v ∧ wpList P ops Q rest (a.put N v) w') : wpList P ops Q (oi :: rest) a w := by
  refine wpList_plain hg fun K hK => ?_
  have he := enters_ hf hname hb args w
  have hrun : (execOp a.eval oi).run P w = .ok (.enter f args) w := by
    unfold execOp
    simp [hop, resolve, Deferred.ofValue, invoke, Act.eval, hargs, he]
  unfold Oper.wp
  rw [hrun, Oper.upon_enter]
  refine h.mono fun e w'' hh => ?_
  obtain ⟨v, rfl, hk⟩ := hh
  subst hd
  exact hK _ _ hk
theorem off_ {oi : Oper} {N : Option Tmp} {a : Act} {w : World} {K : Act → World → Prop} (hw : Region.wanted oi (yielded ops a.tmps) = false) (h : K (a.put N undef) w) : if Region.wanted oi (yielded ops a.tmps) = true then Oper.wp P oi a w K Q else K (a.put N undef) w := by
  rw [hw, if_neg (by simp)]
  exact h
theorem i64_w (n : Int) : IntKind.i64.wrap n = Go.RowKit.wrap64 n := by unfold Go.RowKit.wrap64; exact IntKind.wrap_i64 n
theorem i32_w (n : Int) : IntKind.i32.wrap n = Go.RowKit.wrap32 n := by unfold Go.RowKit.wrap32; exact IntKind.wrap_i32 n
end
end Go.Proofs.YtpfenoioeajkmaaDoorW.PrintLast
end

section
namespace Go.Proofs.YtpfenoioeajkmaaDoorW.PrintWords
open Go.RowKit
namespace Kd
def tag {α : Type} (f : Nat → Nat) (d : Kd α) : Kd (α × Nat) where
  sz := d.sz
  E := d.E
  K := fun w x cs => d.K w x.1 cs
  M := fun w base ok x cs => d.M w base (fun k => ok k ∧ f k = x.2) x.1 cs
  K_len := fun h => d.K_len h
  K_one := fun h => d.K_one h
  K_below := fun hb h => d.K_below hb h
  K_of_M := fun h => d.K_of_M h
  M_mono := fun hok h => d.M_mono (fun k hk => ⟨hok k hk.1, hk.2⟩) h
  M_bound := fun h => d.M_mono (fun _ hk => ⟨⟨hk.1.1, hk.2⟩, hk.1.2⟩) (d.M_bound h)
  M_move := fun hm h => d.M_move (fun k hk => hm k hk.1) h
  M_lower := fun hb h => d.M_lower hb h
def raw (sz : Nat) : Kd (List Value) where
  sz := sz
  E := []
  K := fun _ x cs => cs = x ∧ cs.length = sz ∧ ∀ u ∈ cs, u.oneCell' = true
  M := fun _ _ _ x cs => cs = x ∧ cs.length = sz ∧ ∀ u ∈ cs, u.oneCell' = true
  K_len := fun h => h.2.1
  K_one := fun h => h.2.2
  K_below := fun _ h => h
  K_of_M := fun h => h
  M_mono := fun _ h => h
  M_bound := fun h => h
  M_move := fun _ h => h
  M_lower := fun _ h => h
def S {α : Type} (d : Kd α) (e : Nat) (w : World) (base : Nat) (ok : Nat → Prop) (v : Value) (xs : List α) : Prop := ∃ f, (tag f d).R e w base ok v xs.zipIdx
def gap {α : Type} (f : Nat → Nat) (d : Kd α) (i : Nat) (c : List Value) : Kd (α × Nat) where
  sz := d.sz
  E := d.E
  K := fun w x cs => (x.2 = i → cs = c ∧ cs.length = d.sz ∧ ∀ u ∈ cs, u.oneCell' = true) ∧ (x.2 ≠ i → d.K w x.1 cs)
  M := fun w base ok x cs => (x.2 = i → cs = c ∧ cs.length = d.sz ∧ ∀ u ∈ cs, u.oneCell' = true) ∧ (x.2 ≠ i → d.M w base (fun k => ok k ∧ f k = x.2) x.1 cs)
  K_len := fun {w x cs} h => by
    by_cases hx : x.2 = i
    · exact (h.1 hx).2.1
    · exact d.K_len (h.2 hx)
  K_one := fun {w x cs} h => by
    by_cases hx : x.2 = i
    · exact (h.1 hx).2.2
    · exact d.K_one (h.2 hx)
  K_below := fun hb h => ⟨h.1, fun hx => d.K_below hb (h.2 hx)⟩
  K_of_M := fun h => ⟨h.1, fun hx => d.K_of_M (h.2 hx)⟩
  M_mono := fun hok h => ⟨h.1, fun hx => d.M_mono (fun k hk => ⟨hok k hk.1, hk.2⟩) (h.2 hx)⟩
  M_bound := fun h => ⟨h.1, fun hx => d.M_mono (fun _ hk => ⟨⟨hk.1.1, hk.2⟩, hk.1.2⟩) (d.M_bound (h.2 hx))⟩
  M_move := fun hm h => ⟨h.1, fun hx => d.M_move (fun k hk => hm k hk.1) (h.2 hx)⟩
  M_lower := fun hb h => ⟨h.1, fun hx => d.M_lower hb (h.2 hx)⟩
def H {α : Type} (d : Kd α) (e : Nat) (w : World) (base : Nat) (ok : Nat → Prop) (v : Value) (xs : List α) (i : Int) (oki : Nat → Prop) (c : List Value) : Prop :=
  (∀ k, oki k → ok k) ∧ ∃ f, (gap f d i.toNat c).R e w base (fun k => ok k ∧ ¬ oki k) v xs.zipIdx
end Kd
end Go.Proofs.YtpfenoioeajkmaaDoorW.PrintWords
end

section
namespace Go.Proofs.YtpfenoioeajkmaaDoorW.PrintWords
open Go.RowKit
namespace Kd
structure Heap {α : Type} (d : Kd α) : Prop where
  K : ∀ {w w1 : World} {x : α} {cs : List Value}, (∀ k, k < w.heap.size → w1.heap[k]? = w.heap[k]?) → d.K w x cs → d.K w1 x cs
theorem cell_heap {w w1 : World} (hb : ∀ k, k < w.heap.size → w1.heap[k]? = w.heap[k]?) {a : Addr} {v : Value} (h : w.cell? a = some v) : w1.cell? a = some v := by
  have := hb a.block (World.block_lt_of_cell? w a h)
  simpa [World.cell?, this] using h
theorem Heap.C {α : Type} {d : Kd α} (hd : Heap d) {w w1 : World} {A : Option Addr} {n : Nat} {xs : List α} (hb : ∀ k, k < w.heap.size → w1.heap[k]? = w.heap[k]?) (h : d.C w A n xs) : d.C w1 A n xs :=
  ⟨h.1, h.2.1, fun hn => by
    obtain ⟨ad, e, hc⟩ := h.2.2 hn
    refine ⟨ad, e, fun j p hj => ?_⟩
    obtain ⟨c, hs, hr, hcell⟩ := hc j p hj
    exact ⟨c, hs, hd.K hb hr, fun i u hu => cell_heap hb (hcell i u hu)⟩⟩
end Kd
end Go.Proofs.YtpfenoioeajkmaaDoorW.PrintWords
end

section
namespace Go.Proofs.YtpfenoioeajkmaaDoorW.PrintWords
open Go.RowKit
def Kept (w W : World) (S : Nat → Prop) : Prop := w.heap.size ≤ W.heap.size ∧ ∀ i, i < w.heap.size → ¬ S i → W.heap[i]? = w.heap[i]?
section
variable {w W W2 : World} {S S2 S' : Nat → Prop}
theorem Kept.refl (w : World) (S : Nat → Prop) : Kept w w S := ⟨Nat.le_refl _, fun _ _ _ => rfl⟩
theorem Kept.of_below (h : Below w.heap.size w W) (S : Nat → Prop) : Kept w W S := ⟨h.size, fun i hi _ => h.block i hi⟩
theorem Kept.then_ (h : Kept w W S) (k : Kept W W2 S2) (hs : ∀ k, S2 k → S k ∨ w.heap.size ≤ k) : Kept w W2 S :=
  ⟨Nat.le_trans h.1 k.1, fun i hi hn => (k.2 i (Nat.lt_of_lt_of_le hi h.1) (fun h2 => (hs i h2).elim hn (fun h3 => by omega))).trans (h.2 i hi hn)⟩
theorem Kept.below (h : Kept w W S) (hb : Below W.heap.size W W2) : Kept w W2 S := h.then_ (Kept.of_below hb (fun _ => False)) (fun _ hk => hk.elim)
theorem Kept.alloc (h : Kept w W S) (o : Obj) : Kept w (W.alloc o) S := h.below (below_alloc (Below.refl _ _) o)
theorem Kept.drew (h : Kept w W S) : Kept w W.drew S := h
theorem Kept.drewN (h : Kept w W S) (m : Nat) : Kept w (W.drewN m) S := h
theorem Kept.setCell (h : Kept w W S) {p : Addr} (hp : S p.block ∨ w.heap.size ≤ p.block) (u : Value) : Kept w (W.setCell p u) S :=
  h.then_ (S2 := fun k => k = p.block) ⟨by simp [World.setCell], fun i _ hn => Below.heap_setCell W p u i hn⟩ (fun k hk => by rw [hk]; exact hp)
theorem Kept.keep {g : Nat} (h : KeepBut w W g none) (k : Kept W W2 S2) (hs : ∀ k, S2 k → w.heap.size ≤ k) : KeepBut w W2 g none :=
  ⟨Nat.le_trans h.1 k.1, fun i hi hg hr => (k.2 i (Nat.lt_of_lt_of_le hi h.1) (fun h2 => by have := hs i h2; omega)).trans (h.2 i hi hg hr)⟩
end
namespace Kd
end Kd
end Go.Proofs.YtpfenoioeajkmaaDoorW.PrintWords
end

section
namespace Go.Proofs.YtpfenoioeajkmaaDoorW.PrintWords
open Go.RowKit
def Foot (P : World → Prop) (W : World) (ok : Nat → Prop) : Prop := ∀ W' : World, (∀ k, ok k → k < W.heap.size → W'.heap[k]? = W.heap[k]?) → P W'
theorem heap_lt {W W1 : World} {k : Nat} (h : W1.heap[k]? = W.heap[k]?) (hlt : k < W.heap.size) : k < W1.heap.size := by
  rw [Array.getElem?_eq_getElem hlt] at h
  exact (Array.getElem?_eq_some_iff.1 h).1
namespace Foot
variable {P Q : World → Prop} {W W1 : World} {ok ok' : Nat → Prop}
theorem mono (h : Foot P W ok) (hok : ∀ k, ok k → ok' k) : Foot P W ok' := fun W' hW => h W' (fun k hk hlt => hW k (hok k hk) hlt)
theorem step (h : Foot P W ok) (hm : ∀ k, ok k → k < W.heap.size → W1.heap[k]? = W.heap[k]?) : Foot P W1 ok := fun W' hW => h W' (fun k hk hlt => (hW k hk (heap_lt (hm k hk hlt) hlt)).trans (hm k hk hlt))
theorem imp (h : Foot P W ok) (hi : ∀ W', P W' → Q W') : Foot Q W ok := fun W' hW => hi W' (h W' hW)
end Foot
namespace Kd
def F {α : Type} (d : Kd α) (W : World) (ok : Nat → Prop) (A : Option Addr) (n : Nat) (xs : List α) : Prop := Foot (fun W => d.C W A n xs) W ok
def FK {α : Type} (d : Kd α) (W : World) (ok : Nat → Prop) (x : α) (c : List Value) : Prop := Foot (fun W => d.K W x c) W ok
end Kd
end Go.Proofs.YtpfenoioeajkmaaDoorW.PrintWords
end

section
namespace Go.Proofs.YtpfenoioeajkmaaDoorW.PrintWords
open Go.RowKit
namespace Kd
section
variable {α : Type} {d : Kd α} {e base n cc g : Nat} {ok ok' okp S : Nat → Prop} {w w1 W W1 : World} {A : Option Addr} {u v v1 : Value} {xs : List α} {x : α} {c : List Value}
def N {α : Type} (d : Kd α) (e : Nat) (w : World) (base : Nat) (ok : Nat → Prop) (v : Value) (xs : List α) : Prop :=
  (∀ k, v.ownBlock = some k → ok k) ∧ ∃ rows : List (List Value), rows.length = xs.length ∧ (raw d.sz).R e w base (fun k => some k = v.ownBlock) v rows ∧ ∀ (j : Nat) (x : α) (c : List Value), xs[j]? = some x → rows[j]? = some c → FK d w (fun k => ok k ∧ some k ≠ v.ownBlock) x c
end
end Kd
end Go.Proofs.YtpfenoioeajkmaaDoorW.PrintWords
end

section
namespace Go.Proofs.YtpfenoioeajkmaaDoorW.PrintWords
open Go.RowKit
section
variable {w w' u : World} {m B g : Nat} {o : Obj} {row : Option Nat} {S : Nat → Prop} {a : Addr} {v : Value}
theorem cell_at (hq : w.drewN m = w') (h : w.cell? a = some v) : w'.cell? a = some v := by subst hq; exact h
end
namespace Kd
end Kd
end Go.Proofs.YtpfenoioeajkmaaDoorW.PrintWords
end

section
namespace Go.Proofs.YtpfenoioeajkmaaDoorW.PrintWords
theorem Reps.front {α : Type} {R : α → List Value → Prop} {size : Nat} {ps : List α} {cs c all : List Value} {p : α} (hp : R p c) (hc : c.length = size) (h : Reps R size ps cs) (ha : c ++ cs = all) : Reps R size (p :: ps) all := by
  subst ha
  refine ⟨by rw [List.length_append, hc, h.1, List.length_cons, Nat.succ_mul, Nat.add_comm], fun j q hq => ?_⟩
  cases j with
  | zero =>
    simp only [List.getElem?_cons_zero, Option.some.injEq] at hq
    subst hq
    rw [Nat.zero_mul, List.drop_zero, List.take_append_of_le_length (by omega), List.take_of_length_le (by omega)]
    exact hp
  | succ j =>
    simp only [List.getElem?_cons_succ] at hq
    have h1 := h.2 j q hq
    rw [Nat.succ_mul, List.drop_append, List.drop_of_length_le (by rw [hc]; exact Nat.le_add_left _ _), List.nil_append, hc, Nat.add_sub_cancel]
    exact h1
theorem Reps.c2 {α : Type} {R : α → List Value → Prop} {ps : List α} {cs : List Value} {p : α} {va vb : Value} (hp : R p [va, vb]) (h : Reps R 2 ps cs) : Reps R 2 (p :: ps) (va :: vb :: cs) := Reps.front hp rfl h rfl
theorem Reps.c3 {α : Type} {R : α → List Value → Prop} {ps : List α} {cs : List Value} {p : α} {va vb vc : Value} (hp : R p [va, vb, vc]) (h : Reps R 3 ps cs) : Reps R 3 (p :: ps) (va :: vb :: vc :: cs) := Reps.front hp rfl h rfl
theorem Reps.c4 {α : Type} {R : α → List Value → Prop} {ps : List α} {cs : List Value} {p : α} {va vb vc vd : Value} (hp : R p [va, vb, vc, vd]) (h : Reps R 4 ps cs) : Reps R 4 (p :: ps) (va :: vb :: vc :: vd :: cs) := Reps.front hp rfl h rfl
theorem Reps.c5 {α : Type} {R : α → List Value → Prop} {ps : List α} {cs : List Value} {p : α} {va vb vc vd ve : Value} (hp : R p [va, vb, vc, vd, ve]) (h : Reps R 5 ps cs) : Reps R 5 (p :: ps) (va :: vb :: vc :: vd :: ve :: cs) := Reps.front hp rfl h rfl
theorem Reps.c6 {α : Type} {R : α → List Value → Prop} {ps : List α} {cs : List Value} {p : α} {va vb vc vd ve vf : Value} (hp : R p [va, vb, vc, vd, ve, vf]) (h : Reps R 6 ps cs) : Reps R 6 (p :: ps) (va :: vb :: vc :: vd :: ve :: vf :: cs) := Reps.front hp rfl h rfl
theorem Reps.c7 {α : Type} {R : α → List Value → Prop} {ps : List α} {cs : List Value} {p : α} {va vb vc vd ve vf vg : Value} (hp : R p [va, vb, vc, vd, ve, vf, vg]) (h : Reps R 7 ps cs) : Reps R 7 (p :: ps) (va :: vb :: vc :: vd :: ve :: vf :: vg :: cs) := Reps.front hp rfl h rfl
theorem Reps.c8 {α : Type} {R : α → List Value → Prop} {ps : List α} {cs : List Value} {p : α} {va vb vc vd ve vf vg vh : Value} (hp : R p [va, vb, vc, vd, ve, vf, vg, vh]) (h : Reps R 8 ps cs) : Reps R 8 (p :: ps) (va :: vb :: vc :: vd :: ve :: vf :: vg :: vh :: cs) := Reps.front hp rfl h rfl
theorem Reps.c9 {α : Type} {R : α → List Value → Prop} {ps : List α} {cs : List Value} {p : α} {va vb vc vd ve vf vg vh vi : Value} (hp : R p [va, vb, vc, vd, ve, vf, vg, vh, vi]) (h : Reps R 9 ps cs) : Reps R 9 (p :: ps) (va :: vb :: vc :: vd :: ve :: vf :: vg :: vh :: vi :: cs) := Reps.front hp rfl h rfl
theorem Reps.c10 {α : Type} {R : α → List Value → Prop} {ps : List α} {cs : List Value} {p : α} {va vb vc vd ve vf vg vh vi vj : Value} (hp : R p [va, vb, vc, vd, ve, vf, vg, vh, vi, vj]) (h : Reps R 10 ps cs) : Reps R 10 (p :: ps) (va :: vb :: vc :: vd :: ve :: vf :: vg :: vh :: vi :: vj :: cs) := Reps.front hp rfl h rfl
end Go.Proofs.YtpfenoioeajkmaaDoorW.PrintWords
end

section
namespace Go.Proofs.YtpfenoioeajkmaaDoorW.PrintLast
def up (b : Nat → Bool) (i : Nat) : Nat → Bool := fun j => if j = i then true else b j
end Go.Proofs.YtpfenoioeajkmaaDoorW.PrintLast
end

section
namespace Go.Proofs.YtpfenoioeajkmaaDoorW.PrintMore
open Go.RowKit Go.Proofs.YtpfenoioeajkmaaDoorW.PrintWords
namespace Kd
open Go.Proofs.YtpfenoioeajkmaaDoorW.PrintWords.Kd
end Kd
namespace Kd
open Go.Proofs.YtpfenoioeajkmaaDoorW.PrintWords.Kd
end Kd
theorem max2_int (k k' : IntKind) (x y : Int) : Builtin.max2 (.int k x) (.int k' y) = pure (.int k (if x < y then y else x)) := by simp only [Builtin.max2, gt_iff_lt]
theorem min2_int (k k' : IntKind) (x y : Int) : Builtin.min2 (.int k x) (.int k' y) = pure (.int k (if y < x then y else x)) := by simp only [Builtin.min2]
theorem max_two (ats : Array TypeId) (ty : TypeId) (a b : Value) : Builtin.max_ ats ty #[a, b] = (Builtin.max2 a b >>= fun s => pure s) := by simp only [Builtin.max_, List.foldlM_cons, List.foldlM_nil]
theorem min_two (ats : Array TypeId) (ty : TypeId) (a b : Value) : Builtin.min_ ats ty #[a, b] = (Builtin.min2 a b >>= fun s => pure s) := by simp only [Builtin.min_, List.foldlM_cons, List.foldlM_nil]
theorem max_three (ats : Array TypeId) (ty : TypeId) (a b c : Value) : Builtin.max_ ats ty #[a, b, c] = (Builtin.max2 a b >>= fun s => Builtin.max2 s c >>= fun s => pure s) := by simp only [Builtin.max_, List.foldlM_cons, List.foldlM_nil]
theorem min_three (ats : Array TypeId) (ty : TypeId) (a b c : Value) : Builtin.min_ ats ty #[a, b, c] = (Builtin.min2 a b >>= fun s => Builtin.min2 s c >>= fun s => pure s) := by simp only [Builtin.min_, List.foldlM_cons, List.foldlM_nil]
theorem max_four (ats : Array TypeId) (ty : TypeId) (a b c d : Value) : Builtin.max_ ats ty #[a, b, c, d] = (Builtin.max2 a b >>= fun s => Builtin.max2 s c >>= fun s => Builtin.max2 s d >>= fun s => pure s) := by simp only [Builtin.max_, List.foldlM_cons, List.foldlM_nil]
theorem min_four (ats : Array TypeId) (ty : TypeId) (a b c d : Value) : Builtin.min_ ats ty #[a, b, c, d] = (Builtin.min2 a b >>= fun s => Builtin.min2 s c >>= fun s => Builtin.min2 s d >>= fun s => pure s) := by simp only [Builtin.min_, List.foldlM_cons, List.foldlM_nil]
end Go.Proofs.YtpfenoioeajkmaaDoorW.PrintMore
namespace Go.Proofs.YtpfenoioeajkmaaDoorW.PrintWords
open Go.RowKit
section
variable {P : Program} {ops : Array Oper} {rest : List Oper} {o : Oper} {a : Act} {Q : Exit → Act → World → Prop} {W : World}
theorem gate_callee {f : FuncId} {as0 : Array Operand} {ts : Array TypeId} (_ho : o.op = .call { callee := .value (.func f), args := as0, argTypes := ts }) (h : wpList P ops Q (o :: rest) a W) : wpList P ops Q (o :: rest) a W := h
end
def mn (a b : Int) : Int := if b < a then b else a
namespace Kd
end Kd
end Go.Proofs.YtpfenoioeajkmaaDoorW.PrintWords
namespace Go.Proofs.YtpfenoioeajkmaaDoorW.PrintWords
open Go.RowKit
namespace Kd
def V {α : Type} (d : Kd α) (_e : Nat) (W : World) (_base : Nat) (ok : Nat → Prop) (v : Value) (xs : List α) : Prop := ∃ A c, v = .slice A xs.length c ∧ xs.length ≤ c ∧ F d W ok A xs.length xs
end Kd
end Go.Proofs.YtpfenoioeajkmaaDoorW.PrintWords
end

section
namespace Go.Proofs
open Go.Shelf
def Tryd.lays170_ren : Go.Shelf.Ren := ⟨fun | 170 => 68 | n => n, fun | 70 => 77 | 3 => 3 | 0 => 0 | 72 => 80 | 37 => 78 | 5 => 5 | n => n, fun | n => n⟩
theorem Tryd.lays170 : Go.Proofs.Lays.n170 Tryd.prog Tryd.lays170_ren := {
  mixed := by kernel_rfl
  f170 := Tryd.func68.trans (congrArg some (by kernel_rfl))
  t0 := Tryd.underlying0
  a0 := Tryd.isAgg0
  z0 := Tryd.sizeOf0
  v0 := Tryd.zeroValue0
  t3 := Tryd.underlying3
  a3 := Tryd.isAgg3
  z3 := Tryd.sizeOf3
  v3 := Tryd.zeroValue3
  t37 := Tryd.underlying78
  a37 := Tryd.isAgg78
  z37 := Tryd.sizeOf78
  v37 := Tryd.zeroValue78
  t70 := Tryd.underlying77
  a70 := Tryd.isAgg77
  z70 := Tryd.sizeOf77
  v70 := Tryd.zeroValue77
  t72 := Tryd.underlying80
  a72 := Tryd.isAgg80
  z72 := Tryd.sizeOf80
  v72 := Tryd.zeroValue80 }
def Tryd.lays169_ren : Go.Shelf.Ren := ⟨fun | 169 => 71 | n => n, fun | 70 => 77 | 9 => 9 | 0 => 0 | 72 => 80 | 37 => 78 | 127 => 99 | 3 => 3 | 5 => 5 | n => n, fun | n => n⟩
theorem Tryd.lays169 : Go.Proofs.Lays.n169 Tryd.prog Tryd.lays169_ren := {
  mixed := by kernel_rfl
  f169 := Tryd.func71.trans (congrArg some (by kernel_rfl))
  t0 := Tryd.underlying0
  a0 := Tryd.isAgg0
  z0 := Tryd.sizeOf0
  v0 := Tryd.zeroValue0
  t3 := Tryd.underlying3
  a3 := Tryd.isAgg3
  z3 := Tryd.sizeOf3
  v3 := Tryd.zeroValue3
  t9 := Tryd.underlying9
  a9 := Tryd.isAgg9
  z9 := Tryd.sizeOf9
  v9 := Tryd.zeroValue9
  t37 := Tryd.underlying78
  a37 := Tryd.isAgg78
  z37 := Tryd.sizeOf78
  v37 := Tryd.zeroValue78
  t70 := Tryd.underlying77
  a70 := Tryd.isAgg77
  z70 := Tryd.sizeOf77
  v70 := Tryd.zeroValue77
  t72 := Tryd.underlying80
  a72 := Tryd.isAgg80
  z72 := Tryd.sizeOf80
  v72 := Tryd.zeroValue80
  t127 := Tryd.underlying99
  a127 := Tryd.isAgg99
  z127 := Tryd.sizeOf99
  v127 := Tryd.zeroValue99 }
theorem Tryd.Builder_Extra_169 : Builder.Extra Tryd.prog Tryd.lays169_ren := {
  sizeBuilder := by kernel_rfl
  liesBuilder := by kernel_rfl
  t5 := Tryd.underlying5
  a5 := Tryd.isAgg5
  z5 := Tryd.sizeOf5
  v5 := Tryd.zeroValue5
  infoByte := by kernel_rfl
  cellsByte := by kernel_rfl
  sizeByte := by kernel_rfl
  neB5 := by decide }
def Tryd.lays160_ren : Go.Shelf.Ren := ⟨fun | 160 => 74 | 232 => 83 | 231 => 82 | 227 => 84 | 234 => 86 | 233 => 85 | 236 => 88 | 235 => 87 | 228 => 95 | 271 => 98 | 151 => 97 | 197 => 96 | 120 => 122 | 152 => 121 | 260 => 120 | 137 => 76 | 119 => 131 | 224 => 132 | 225 => 133 | 217 => 89 | 266 => 99 | n => n, fun | 9 => 9 | 4 => 4 | 3 => 3 | 5 => 5 | 117 => 106 | 116 => 105 | 0 => 0 | 124 => 109 | 21 => 21 | 105 => 117 | 46 => 28 | 119 => 147 | 139 => 150 | 138 => 149 | n => n, fun | 3 => 1 | 4 => 2 | n => n⟩
theorem Tryd.lays160 : Go.Proofs.Lays.n160 Tryd.prog Tryd.lays160_ren := {
  mixed := by kernel_rfl
  f119 := Tryd.func131.trans (congrArg some (by kernel_rfl))
  f120 := Tryd.func122.trans (congrArg some (by kernel_rfl))
  f137 := Tryd.func76.trans (congrArg some (by kernel_rfl))
  f151 := Tryd.func97.trans (congrArg some (by kernel_rfl))
  f152 := Tryd.func121.trans (congrArg some (by kernel_rfl))
  f160 := Tryd.func74.trans (congrArg some (by kernel_rfl))
  f197 := Tryd.func96.trans (congrArg some (by kernel_rfl))
  f217 := Tryd.func89.trans (congrArg some (by kernel_rfl))
  f224 := Tryd.func132.trans (congrArg some (by kernel_rfl))
  f225 := Tryd.func133.trans (congrArg some (by kernel_rfl))
  f227 := Tryd.func84.trans (congrArg some (by kernel_rfl))
  f228 := Tryd.func95.trans (congrArg some (by kernel_rfl))
  f231 := Tryd.func82.trans (congrArg some (by kernel_rfl))
  f232 := Tryd.func83.trans (congrArg some (by kernel_rfl))
  f233 := Tryd.func85.trans (congrArg some (by kernel_rfl))
  f234 := Tryd.func86.trans (congrArg some (by kernel_rfl))
  f235 := Tryd.func87.trans (congrArg some (by kernel_rfl))
  f236 := Tryd.func88.trans (congrArg some (by kernel_rfl))
  f260 := Tryd.func120.trans (congrArg some (by kernel_rfl))
  f266 := Tryd.func99.trans (congrArg some (by kernel_rfl))
  f271 := Tryd.func98.trans (congrArg some (by kernel_rfl))
  t0 := Tryd.underlying0
  a0 := Tryd.isAgg0
  z0 := Tryd.sizeOf0
  v0 := Tryd.zeroValue0
  t3 := Tryd.underlying3
  a3 := Tryd.isAgg3
  z3 := Tryd.sizeOf3
  v3 := Tryd.zeroValue3
  t4 := Tryd.underlying4
  a4 := Tryd.isAgg4
  z4 := Tryd.sizeOf4
  v4 := Tryd.zeroValue4
  t5 := Tryd.underlying5
  a5 := Tryd.isAgg5
  z5 := Tryd.sizeOf5
  v5 := Tryd.zeroValue5
  t9 := Tryd.underlying9
  a9 := Tryd.isAgg9
  z9 := Tryd.sizeOf9
  v9 := Tryd.zeroValue9
  t21 := Tryd.underlying21
  a21 := Tryd.isAgg21
  z21 := Tryd.sizeOf21
  v21 := Tryd.zeroValue21
  t46 := Tryd.underlying28
  a46 := Tryd.isAgg28
  z46 := Tryd.sizeOf28
  v46 := Tryd.zeroValue28
  t105 := Tryd.underlying117
  a105 := Tryd.isAgg117
  z105 := Tryd.sizeOf117
  v105 := Tryd.zeroValue117
  t116 := Tryd.underlying105
  a116 := Tryd.isAgg105
  z116 := Tryd.sizeOf105
  t117 := Tryd.underlying106
  a117 := Tryd.isAgg106
  z117 := Tryd.sizeOf106
  v117 := Tryd.zeroValue106
  t119 := Tryd.underlying147
  a119 := Tryd.isAgg147
  z119 := Tryd.sizeOf147
  t124 := Tryd.underlying109
  a124 := Tryd.isAgg109
  z124 := Tryd.sizeOf109
  v124 := Tryd.zeroValue109
  t138 := Tryd.underlying149
  a138 := Tryd.isAgg149
  z138 := Tryd.sizeOf149
  v138 := Tryd.zeroValue149
  t139 := Tryd.underlying150
  a139 := Tryd.isAgg150
  z139 := Tryd.sizeOf150
  v139 := Tryd.zeroValue150
  g3 := by kernel_rfl
  g4 := by kernel_rfl }
def Tryd.laysSlE041_f64_ren : Go.Shelf.Ren := ⟨fun | 41 => 64 | n => n, fun | 22 => 45 | 23 => 29 | 4 => 4 | n => n, fun | n => n⟩
theorem Tryd.laysSlE041_f64 : Go.Proofs.SlLaysE0.n41 Tryd.prog Tryd.laysSlE041_f64_ren := {
  mixed := by kernel_rfl
  f41 := ⟨Tryd.f64.name, by decide, Tryd.func64.trans (congrArg some (by kernel_rfl))⟩
  t4 := Tryd.underlying4
  a4 := Tryd.isAgg4
  z4 := Tryd.sizeOf4
  v4 := Tryd.zeroValue4
  t22 := Tryd.underlying45
  a22 := Tryd.isAgg45
  z22 := Tryd.sizeOf45
  v22 := Tryd.zeroValue45 }
open Go.RowKit Go.Lib in
theorem Tryd.slices_Clone (i0 : TypeInfo) (z : Value) (size bytes : Nat) (hi : Tryd.prog.info? 29 = some i0) (hz0 : i0.zero = some z) (hz1 : i0.size = size) (hz2 : i0.bytes = bytes) (hzs : z.cells.size = size) (hsz : 0 < size) (z23 : ∀ w, (Go.sizeOf 29).run Tryd.prog w = .ok size w) (b off n c : Nat) (news : List Value) (w : World) (hl : news.length = n * size) (hn : n ≤ maxLen) (hbig : n * bytes ≤ 140737488355328) (hc : ∀ j u, news[j]? = some u → w.cell? ⟨b, off + j, none⟩ = some u) (h1 : ∀ u ∈ news, u.oneCell' = true) :
    Calls Tryd.prog 64 #[.slice (some ⟨b, off, none⟩) n c] w fun e w' => ∃ v', e = .returned v' ∧ w'.ownsRow w.heap.size 29 size v' n news ∧ v' ≠ .slice none 0 0 ∧ Below w.heap.size w w' := AnyE.slices_Clone Tryd.laysSlE041_f64 i0 z size bytes hi hz0 hz1 hz2 hzs hsz z23 b off n c news w hl hn hbig hc h1
open Go.RowKit Go.Lib in
theorem Tryd.slices_Clone_nil (n c : Nat) (w : World) :
    Calls Tryd.prog 64 #[.slice none n c] w fun e w' => e = .returned (.slice none 0 0) ∧ w' = w := AnyE.slices_Clone_nil Tryd.laysSlE041_f64 n c w
end Go.Proofs
end

section
namespace Go.Proofs.YtpfenoioeajkmaaDoor.X
open Go.RowKit Go.Proofs.YtpfenoioeajkmaaDoorW.PrintWords Go.Proofs.YtpfenoioeajkmaaDoorW.PrintLast Go.Proofs.YtpfenoioeajkmaaDoorW.PrintMore
def errW : Option Int → Value
  | none => .nilIface
  | some c => .iface 0 (.int .i64 c)
theorem errW_none : errW none = .nilIface := rfl
theorem errW_some (c : Int) : errW (some c) = .iface 0 (.int .i64 c) := rfl
theorem skip_step {P : Program} {ops : Array Oper} {oi : Oper} {a : Act} {Q : Exit → Act → World → Prop} {K : Act → World → Prop} {W w1 : World} (hw : Region.wanted oi (yielded ops a.tmps) = true) (hrun : (execOp a.eval oi).run P W = .ok .skip w1) (h : K (a.put oi.dst undef) w1) :
    if Region.wanted oi (yielded ops a.tmps) = true then Oper.wp P oi a W K Q else K (a.put none undef) W := by
  rw [if_pos hw]
  unfold Oper.wp
  rw [hrun]
  exact h
theorem alloc_step {P : Program} {ops : Array Oper} {oi : Oper} {N : Option Tmp} {a : Act} {Q : Exit → Act → World → Prop} {K : Act → World → Prop} {W : World} {cs : Array Value} {t : TypeId} (hw : Region.wanted oi (yielded ops a.tmps) = true) (hN : oi.dst = N)
    (hrun : (execOp a.eval oi).run P W = .ok (.value (.pointer (some ⟨W.heap.size, 0, none⟩))) (W.alloc (.cells cs t (0, 0))))
    (h : ∀ g, g = W.heap.size → ∀ w1, w1.heap[g]? = some (.cells cs t (0, 0)) → Below W.heap.size W w1 → K (a.put N (.pointer (some ⟨g, 0, none⟩))) w1) :
    if Region.wanted oi (yielded ops a.tmps) = true then Oper.wp P oi a W K Q else K (a.put N undef) W := by
  subst hN
  rw [if_pos hw]
  unfold Oper.wp
  rw [hrun]
  exact h _ rfl _ (blk_new W _) (below_alloc (Below.refl _ _) _)
theorem cell_set_self {w : World} {p : Addr} {u : Value} (v : Value) (h : w.cell? p = some u) : (w.setCell p v).cell? p = some v := by
  unfold World.cell? at h ⊢
  simp only [World.setCell, Array.getElem?_modify]
  split at h
  · rename_i c e f hb
    simp only [hb, if_true, Option.map_some]
    split at h
    · simp at h
    · rename_i hs
      rw [if_neg hs]
      rw [if_neg hs]
      have := (Array.getElem?_eq_some_iff.1 h).1
      rw [Array.getElem?_setIfInBounds_self_of_lt this]
  · simp at h
theorem cell_set_other {w : World} {p q : Addr} (v : Value) (hne : q.block ≠ p.block) : (w.setCell p v).cell? q = w.cell? q :=
  World.cell?_of_block (Below.heap_setCell w p v q.block hne)
theorem cell_set_off {w : World} {b i j : Nat} (v : Value) (hne : i ≠ j) : (w.setCell ⟨b, i, none⟩ v).cell? ⟨b, j, none⟩ = w.cell? ⟨b, j, none⟩ := by
  unfold World.cell?
  simp only [World.setCell, Array.getElem?_modify]
  cases hb : w.heap[b]? with
  | none => simp
  | some o => cases o <;> simp [Array.getElem?_setIfInBounds_ne hne]
end Go.Proofs.YtpfenoioeajkmaaDoor.X
end

section
set_option linter.unusedVariables false
set_option linter.unusedSimpArgs false
namespace Go.Proofs.YtpfenoioeajkmaaDoor.X
open Go.RowKit Go.Proofs.YtpfenoioeajkmaaDoorW.PrintWords Go.Proofs.YtpfenoioeajkmaaDoorW.PrintLast Go.Proofs.YtpfenoioeajkmaaDoorW.PrintMore
def ptV (x y : Int) : Value := .agg #[.int .i64 x, .int .i64 y]
def stepx (c : Int) : Int := if c = 114 then 1 else if c = 117 then 0 else if c = 108 then -1 else 0
def stepy (c : Int) : Int := if c = 114 then 0 else if c = 117 then 1 else if c = 108 then 0 else -1
theorem below_one {w : World} (o : Obj) : Below w.heap.size w (w.alloc o) := (Below.refl _ _).alloc (Nat.le_refl _) _
set_option maxHeartbeats 1000000 in
theorem step_calls (c : Int) (w : World) : Calls Tryd.prog 69 #[.int .u8 c] w fun e w' => e = .returned (ptV (stepx c) (stepy c)) ∧ Below w.heap.size w w' := by
  by_cases h1 : c = 114
  · subst h1
    go_enter Tryd.func69, Tryd.ntmps69
    go_wp2
    exact bodyPost_ret (v := ptV 1 0) (by simp [results, Tryd.results69, go_sem, ptV, Result.andThen]) rfl ⟨rfl, below_one _⟩
  by_cases h2 : c = 117
  · subst h2
    go_enter Tryd.func69, Tryd.ntmps69
    go_wp2
    exact bodyPost_ret (v := ptV 0 1) (by simp [results, Tryd.results69, go_sem, ptV, Result.andThen]) rfl ⟨rfl, below_one _⟩
  by_cases h3 : c = 108
  · subst h3
    go_enter Tryd.func69, Tryd.ntmps69
    go_wp2
    exact bodyPost_ret (v := ptV (-1) 0) (by simp [results, Tryd.results69, go_sem, ptV, Result.andThen]) rfl ⟨rfl, below_one _⟩
  have e : ptV (stepx c) (stepy c) = ptV 0 (-1) := by simp [stepx, stepy, h1, h2, h3]
  rw [e]
  have k1 : (c == 114) = false := by simp [h1]
  have k2 : (c == 117) = false := by simp [h2]
  have k3 : (c == 108) = false := by simp [h3]
  clear h1 h2 h3 e
  go_enter Tryd.func69, Tryd.ntmps69
  go_wp2
  exact bodyPost_ret (v := ptV 0 (-1)) (by simp [results, Tryd.results69, go_sem, ptV, Result.andThen]) rfl ⟨rfl, below_one _⟩
set_option maxHeartbeats 1000000 in
theorem plus_calls (a b c d : Int) (w : World) : Calls Tryd.prog 65 #[ptV a b, ptV c d] w fun e w' => e = .returned (ptV (wrap64 (a + c)) (wrap64 (b + d))) ∧ Below w.heap.size w w' := by
  unfold ptV
  go_enter Tryd.func65, Tryd.ntmps65
  go_wp2
  exact bodyPost_ret (v := ptV (wrap64 (a + c)) (wrap64 (b + d))) (by simp [results, Tryd.results65, go_sem, ptV, Result.andThen]) rfl ⟨rfl, ((below_one _).alloc (by simp) _).alloc (by simp; omega) _⟩
end Go.Proofs.YtpfenoioeajkmaaDoor.X
end

section
set_option linter.unusedVariables false
set_option linter.unusedSimpArgs false
namespace Go.Proofs.YtpfenoioeajkmaaDoor.X
open Go.RowKit Go.Proofs.YtpfenoioeajkmaaDoorW.PrintWords Go.Proofs.YtpfenoioeajkmaaDoorW.PrintLast Go.Proofs.YtpfenoioeajkmaaDoorW.PrintMore
theorem bytes_world (w : World) (s : ByteArray) : (∀ i : Nat, i < s.size → (Lib.bytesWorld w 5 s).cell? ⟨w.heap.size, i, none⟩ = some (.int .u8 (bt s i))) ∧ Below w.heap.size w (Lib.bytesWorld w 5 s) ∧ (Lib.bytesWorld w 5 s).heap.size = w.heap.size + 1 := by
  refine ⟨fun i hi => ?_, ?_, Lib.bytesWorld_size _ _ _⟩
  · rw [Lib.bytesWorld_cell w 5 s i hi]
    congr 2
    have hl : i < s.data.toList.length := by rw [data_length]; exact hi
    rw [← bt_at s i (by simpa using hi), List.getD_eq_getElem?_getD, List.getElem?_eq_getElem hl]
    simp
    rfl
  · exact ⟨rfl, rfl, rfl, by rw [Lib.bytesWorld_size]; omega, fun k hk => Lib.bytesWorld_at_old w 5 s k hk⟩
def sumx (s : ByteArray) : Nat → Int
  | 0 => 0
  | k + 1 => sumx s k + stepx (bt s k)
def sumy (s : ByteArray) : Nat → Int
  | 0 => 0
  | k + 1 => sumy s k + stepy (bt s k)
theorem stepx_le (c : Int) : -1 ≤ stepx c ∧ stepx c ≤ 1 := by unfold stepx; split <;> (try split) <;> (try split) <;> omega
theorem stepy_le (c : Int) : -1 ≤ stepy c ∧ stepy c ≤ 1 := by unfold stepy; split <;> (try split) <;> (try split) <;> omega
theorem sumx_le (s : ByteArray) : ∀ k : Nat, -(k : Int) ≤ sumx s k ∧ sumx s k ≤ k
  | 0 => by simp [sumx]
  | k + 1 => by
    have h1 := sumx_le s k
    have h2 := stepx_le (bt s k)
    rw [sumx]
    omega
theorem sumy_le (s : ByteArray) : ∀ k : Nat, -(k : Int) ≤ sumy s k ∧ sumy s k ≤ k
  | 0 => by simp [sumy]
  | k + 1 => by
    have h1 := sumy_le s k
    have h2 := stepy_le (bt s k)
    rw [sumy]
    omega
theorem sumx_succ (s : ByteArray) (k : Nat) (hk : k ≤ 1000) : wrap64 (sumx s k + stepx (bt s k)) = sumx s (k + 1) := by
  have h1 := sumx_le s k
  have h2 := stepx_le (bt s k)
  rw [sumx]
  unfold wrap64
  omega
theorem sumy_succ (s : ByteArray) (k : Nat) (hk : k ≤ 1000) : wrap64 (sumy s k + stepy (bt s k)) = sumy s (k + 1) := by
  have h1 := sumy_le s k
  have h2 := stepy_le (bt s k)
  rw [sumy]
  unfold wrap64
  omega
structure WalkS (w : World) (s : ByteArray) (x y : Int) (wr : World) : Prop where
  r0 : wr.cell? ⟨w.heap.size, 0, none⟩ = some (.int .i64 0)
  r1 : wr.cell? ⟨w.heap.size, 1, none⟩ = some (.int .i64 0)
  rf : wr.frozen? ⟨w.heap.size, 0, none⟩ = false
  rg : wr.frozen? ⟨w.heap.size, 1, none⟩ = false
  p0 : wr.cell? ⟨w.heap.size + 1, 0, none⟩ = some (.int .i64 x)
  p1 : wr.cell? ⟨w.heap.size + 1, 1, none⟩ = some (.int .i64 y)
  pf : wr.frozen? ⟨w.heap.size + 1, 0, none⟩ = false
  pg : wr.frozen? ⟨w.heap.size + 1, 1, none⟩ = false
  bs : ∀ i : Nat, i < s.size → wr.cell? ⟨w.heap.size + 2, i, none⟩ = some (.int .u8 (bt s i))
  sz : w.heap.size + 2 < wr.heap.size
  bl : Below w.heap.size w wr
theorem WalkS.later {w : World} {s : ByteArray} {x y : Int} {wr w2 : World} (h : WalkS w s x y wr) (hb : Below wr.heap.size wr w2) : WalkS w s x y w2 where
  r0 := (hb.cell (p := ⟨w.heap.size, 0, none⟩) (by have := h.sz; simp; omega)).trans h.r0
  r1 := (hb.cell (p := ⟨w.heap.size, 1, none⟩) (by have := h.sz; simp; omega)).trans h.r1
  rf := (hb.frozen (p := ⟨w.heap.size, 0, none⟩) (by have := h.sz; simp; omega)).trans h.rf
  rg := (hb.frozen (p := ⟨w.heap.size, 1, none⟩) (by have := h.sz; simp; omega)).trans h.rg
  p0 := (hb.cell (p := ⟨w.heap.size + 1, 0, none⟩) (by have := h.sz; simp; omega)).trans h.p0
  p1 := (hb.cell (p := ⟨w.heap.size + 1, 1, none⟩) (by have := h.sz; simp; omega)).trans h.p1
  pf := (hb.frozen (p := ⟨w.heap.size + 1, 0, none⟩) (by have := h.sz; simp; omega)).trans h.pf
  pg := (hb.frozen (p := ⟨w.heap.size + 1, 1, none⟩) (by have := h.sz; simp; omega)).trans h.pg
  bs := fun i hi => (hb.cell (p := ⟨w.heap.size + 2, i, none⟩) (by have := h.sz; simp; omega)).trans (h.bs i hi)
  sz := Nat.lt_of_lt_of_le h.sz hb.size
  bl := h.bl.trans (hb.mono h.bl.size)
theorem WalkS.draw {w : World} {s : ByteArray} {x y : Int} {wr : World} (h : WalkS w s x y wr) : WalkS w s x y wr.drew := h.later (Below.refl _ _).drew
theorem WalkS.put {w : World} {s : ByteArray} {x y : Int} {wr : World} (h : WalkS w s x y wr) (a b : Int) : WalkS w s a b ((wr.setCell ⟨w.heap.size + 1, 0, none⟩ (.int .i64 a)).setCell ⟨w.heap.size + 1, 1, none⟩ (.int .i64 b)) where
  r0 := (cell_set_other _ (by simp)).trans ((cell_set_other _ (by simp)).trans h.r0)
  r1 := (cell_set_other _ (by simp)).trans ((cell_set_other _ (by simp)).trans h.r1)
  rf := by simpa using h.rf
  rg := by simpa using h.rg
  p0 := (cell_set_off _ (by decide)).trans (cell_set_self _ h.p0)
  p1 := cell_set_self _ ((cell_set_off _ (by decide)).trans h.p1)
  pf := by simpa using h.pf
  pg := by simpa using h.pg
  bs := fun i hi => (cell_set_other _ (by simp)).trans ((cell_set_other _ (by simp)).trans (h.bs i hi))
  sz := by simpa using h.sz
  bl := (h.bl.setCell (by simp) _).setCell (by simp) _
theorem WalkS.start (w : World) (s : ByteArray) : WalkS w s 0 0 (Lib.bytesWorld ((w.alloc (.cells #[.int .i64 0, .int .i64 0] 63)).alloc (.cells #[.int .i64 0, .int .i64 0] 63)) 5 s) := by
  obtain ⟨h1, h2, h3⟩ := bytes_world ((w.alloc (.cells #[.int .i64 0, .int .i64 0] 63)).alloc (.cells #[.int .i64 0, .int .i64 0] 63)) s
  constructor
  · rw [h2.cell (p := ⟨w.heap.size, 0, none⟩) (by simp; omega)]; simp
  · rw [h2.cell (p := ⟨w.heap.size, 1, none⟩) (by simp; omega)]; simp
  · rw [h2.frozen (p := ⟨w.heap.size, 0, none⟩) (by simp; omega)]; simp
  · rw [h2.frozen (p := ⟨w.heap.size, 1, none⟩) (by simp; omega)]; simp
  · rw [h2.cell (p := ⟨w.heap.size + 1, 0, none⟩) (by simp)]; simp
  · rw [h2.cell (p := ⟨w.heap.size + 1, 1, none⟩) (by simp)]; simp
  · rw [h2.frozen (p := ⟨w.heap.size + 1, 0, none⟩) (by simp)]; simp
  · rw [h2.frozen (p := ⟨w.heap.size + 1, 1, none⟩) (by simp)]; simp
  · intro i hi
    have := h1 i hi
    simpa using this
  · rw [h3]; simp
  · exact ((below_one _).alloc (by simp) _).trans (h2.mono (by simp; omega))
set_option maxHeartbeats 2000000 in
set_option maxRecDepth 100000 in
theorem walk_calls (s : ByteArray) (w : World) (hs : s.size ≤ 1000) : Calls Tryd.prog 59 #[.string s] w fun e w' => e = .returned (ptV (sumx s s.size) (sumy s s.size)) ∧ Below w.heap.size w w' := by
  have hcv := fun (w : World) => Lib.run_convert_string_bytes (P := Tryd.prog) w 9 78 5 s Tryd.underlying9 Tryd.underlying78 Tryd.underlying5
  go_enter Tryd.func59, Tryd.ntmps59
  go_wp2_with fail
  have hst := WalkS.start w s
  generalize Lib.bytesWorld ((w.alloc (.cells #[.int .i64 0, .int .i64 0] 63)).alloc (.cells #[.int .i64 0, .int .i64 0] 63)) 5 s = w1 at hst ⊢
  have HS := Lib.hid hst
  clear hst hcv
  go_loopw [9] (fun i wr => ∃ k : Nat, k ≤ s.size ∧ i = .int .i64 k ∧ Hid (WalkS w s (sumx s k) (sumy s k) wr)) (fun i _ => s.size - (intOf i).toNat)
  case atStart => exact ⟨0, by omega, rfl, HS⟩
  case round =>
    clear HS
    obtain ⟨k, hk, rfl, HS⟩ := hrel
    by_cases hlt : k < s.size
    · have hb := HS.out.bs k hlt
      have b1 := HS.out.p0
      have b2 := HS.out.p1
      go_wp2_with fail
      generalize hX : sumx s k = X at b1
      generalize hY : sumy s k = Y at b2
      refine start_ (n := 5) (S := fun w' => w'.cell? ⟨w.heap.size + 1, 0, none⟩ = some (.int .i64 X) ∧ w'.cell? ⟨w.heap.size + 1, 1, none⟩ = some (.int .i64 Y)) (ds := [4]) #[false, false, false, false, false] (by kernel_rfl) rfl rfl ⟨by simpa using b1, by simpa using b2⟩ (fun hHeld => ?_)
      refine take_ (i := 0) (N := (some 13)) (v := ?_) (a' := ?_) #[true, false, false, false, false] rfl rfl (by kernel_rfl) (fun _ _ _ h => h) (Or.inl ⟨by rfl, ?_⟩) hHeld ?_ ?_
      rotate_left
      · rintro w' ⟨s0, s1⟩; go_simp; first | done | with_reducible rfl
      rotate_left
      · simp only [Act.put, List.setIfInBounds_toArray, List.set_cons_zero, List.set_cons_succ, i64_w, i32_w]; rfl
      refine pure_ (i := 1) (N := (some 14)) (v := ?_) (a' := ?_) #[true, true, false, false, false] rfl rfl (by kernel_rfl) (fun _ _ _ h => h) (Or.inl ⟨by rfl, ?_⟩) ?_ ?_
      rotate_left
      · intro w'; go_simp; first | done | with_reducible rfl
      rotate_left
      · simp only [Act.put, List.setIfInBounds_toArray, List.set_cons_zero, List.set_cons_succ, i64_w, i32_w]; rfl
      refine one_ (i := 2) (N := (some 15)) #[true, true, true, false, false] rfl rfl (by kernel_rfl) (by decide) (fun K hK => ?_)
      refine goes_ Tryd.func69 (by kernel_rfl) rfl #[.int .u8 (bt s k)] (by rfl) rfl rfl (by (try simp only [List.map_toArray, List.map_cons, List.map_nil]); first | done | rfl) ?_
      refine (step_calls _ _).mono ?_
      rintro e w2 ⟨rfl, hb2⟩
      refine ⟨_, rfl, ?_⟩
      have HS2 := Lib.hid (HS.out.draw.later hb2)
      clear hb2
      refine hK.out _ _ ⟨hX ▸ HS2.out.p0, hY ▸ HS2.out.p1⟩ (fun hHeld => ?_)
      clear hK K
      refine norm_ (a' := ?_) ?_ ?_
      rotate_left
      · show Act.put _ (some 15) _ = _; simp only [Act.put, List.setIfInBounds_toArray, List.set_cons_zero, List.set_cons_succ, i64_w, i32_w]; rfl
      refine one_ (i := 3) (N := (some 16)) #[true, true, true, true, false] rfl rfl (by kernel_rfl) (by decide) (fun K hK => ?_)
      refine goes_ Tryd.func65 (by kernel_rfl) rfl #[ptV X Y, ptV (stepx (bt s k)) (stepy (bt s k))] (by rfl) rfl rfl (by (try simp only [List.map_toArray, List.map_cons, List.map_nil]); first | done | rfl) ?_
      refine (plus_calls _ _ _ _ _).mono ?_
      rintro e w3 ⟨rfl, hb3⟩
      refine ⟨_, rfl, ?_⟩
      have HS3 := Lib.hid (HS2.out.later hb3)
      clear hb3 HS2
      have d0 := HS3.out.p0
      have d1 := HS3.out.p1
      have d2 := HS3.out.pf
      have d3 := HS3.out.pg
      refine hK.out _ _ ⟨hX ▸ d0, hY ▸ d1⟩ (fun hHeld => ?_)
      clear hK K
      refine norm_ (a' := ?_) ?_ ?_
      rotate_left
      · show Act.put _ (some 16) _ = _; simp only [Act.put, List.setIfInBounds_toArray, List.set_cons_zero, List.set_cons_succ, i64_w, i32_w]; rfl
      refine last_ (i := 4) (N := none) #[true, true, true, true, true] rfl rfl (by kernel_rfl) (by decide) (fun K hK => ?_)
      refine skip_step (w1 := (w3.setCell ⟨w.heap.size + 1, 0, none⟩ (.int .i64 (wrap64 (X + stepx (bt s k))))).setCell ⟨w.heap.size + 1, 1, none⟩ (.int .i64 (wrap64 (Y + stepy (bt s k))))) (by rfl) (by unfold ptV; go_simp) ?_
      refine hK.out _ _ ?_
      clear hK K
      refine norm_ (a' := ?_) ?_ ?_
      rotate_left
      · show Act.put _ none _ = _; simp only [Act.put, List.setIfInBounds_toArray, List.set_cons_zero, List.set_cons_succ, i64_w, i32_w]; rfl
      refine done_ (by kernel_rfl) ?_
      go_wp2
      go_roundw
      case rel => exact ⟨k + 1, by omega, by go_num, Lib.hid (by rw [← hX, ← hY, sumx_succ s k (by omega), sumy_succ s k (by omega)]; exact HS3.out.put _ _)⟩
      case measure => simp [intOf]; omega
    · obtain rfl : k = s.size := by omega
      have b1 := HS.out.p0
      have b2 := HS.out.p1
      have c1 := HS.out.r0
      have c2 := HS.out.r1
      have c3 := HS.out.rf
      have c4 := HS.out.rg
      go_wp2
      have q0 : ((wr.setCell ⟨w.heap.size, 0, none⟩ (.int .i64 (sumx s s.size))).setCell ⟨w.heap.size, 1, none⟩ (.int .i64 (sumy s s.size))).cell? ⟨w.heap.size, 0, none⟩ = some (.int .i64 (sumx s s.size)) := (cell_set_off _ (by decide)).trans (cell_set_self _ c1)
      have q1 : ((wr.setCell ⟨w.heap.size, 0, none⟩ (.int .i64 (sumx s s.size))).setCell ⟨w.heap.size, 1, none⟩ (.int .i64 (sumy s s.size))).cell? ⟨w.heap.size, 1, none⟩ = some (.int .i64 (sumy s s.size)) := cell_set_self _ ((cell_set_off _ (by decide)).trans c2)
      exact bodyPost_ret (v := ptV (sumx s s.size) (sumy s s.size)) (by simp [results, Tryd.results59, go_sem, ptV, q0, q1, Result.andThen]) rfl ⟨rfl, (HS.out.bl.setCell (by simp) _).setCell (by simp) _⟩
end Go.Proofs.YtpfenoioeajkmaaDoor.X
end

section
namespace Go.Proofs.YtpfenoioeajkmaaDoor.PA
open Go.RowKit Go.Proofs.YtpfenoioeajkmaaDoorW.PrintWords Go.Proofs.YtpfenoioeajkmaaDoorW.PrintLast Go.Proofs.YtpfenoioeajkmaaDoorW.PrintMore
attribute [local go_sem] max2_int min2_int max_two min_two max_three min_three max_four min_four
set_option linter.unusedVariables false
set_option linter.unusedSimpArgs false
def errW : Option Int → Value
  | none => .nilIface
  | some c => .iface 0 (.int .i64 c)
theorem errW_none : errW none = .nilIface := rfl
theorem errW_some (c : Int) : errW (some c) = .iface 0 (.int .i64 c) := rfl
end Go.Proofs.YtpfenoioeajkmaaDoor.PA
end

section
namespace Go.Proofs.YtpfenoioeajkmaaDoor.PA
open Go.RowKit Go.Proofs.YtpfenoioeajkmaaDoorW.PrintWords Go.Proofs.YtpfenoioeajkmaaDoorW.PrintLast Go.Proofs.YtpfenoioeajkmaaDoorW.PrintMore
attribute [local go_sem] max2_int min2_int max_two min_two max_three min_three max_four min_four
set_option linter.unusedVariables false
set_option linter.unusedSimpArgs false
def comfitlaw07_text.f (a0 : ByteArray) : Option (ByteArray) := if 0 ≤ (mn (a0.size : Int) 30) then (if (mn (a0.size : Int) 30) ≤ (a0.size : Int) then (some (a0.extract 0 ((mn (a0.size : Int) 30) : Int).toNat)) else (none)) else (none)
set_option maxHeartbeats 8000000 in
set_option maxRecDepth 100000 in
theorem comfitlaw07_text.calls (a0 : ByteArray) (r : ByteArray) (w : World) (h : comfitlaw07_text.f a0 = some r) :
    Calls Tryd.prog 18 #[.string a0] w fun e w' => e = .returned (.string r) ∧ Below w.heap.size w w' := by
  have HB := Aside0.mk (Below.refl w.heap.size w)
  have H : (if 0 ≤ (mn (a0.size : Int) 30) then (if (mn (a0.size : Int) 30) ≤ (a0.size : Int) then (some (a0.extract 0 ((mn (a0.size : Int) 30) : Int).toNat)) else (none)) else (none)) = some r := h
  clear h
  obtain ⟨ji2, hji2⟩ : ∃ j_ : Int, (mn (a0.size : Int) 30) = j_ := ⟨_, rfl⟩
  replace H : (if 0 ≤ (ji2) then (if (ji2) ≤ (a0.size : Int) then (some (a0.extract 0 ((ji2) : Int).toNat)) else (none)) else (none)) = some r := by first | (rw [hji2] at H; exact H) | (simp only [hji2] at H ⊢; exact H)
  (try (have hji2h : ji2 ≤ 30 := by (rw [← hji2]; unfold mn; (repeat' split) <;> omega)))
  (try (have hji2g : ji2 ≤ 64 := by omega))
  (try (have hji2l : 0 ≤ ji2 := by (rw [← hji2]; unfold mn; (repeat' split) <;> omega)))
  (try (have hji2m : 0 ≤ ji2 := by omega))
  have hji2_ : (if 30 < (a0.size : Int) then 30 else (a0.size : Int)) = ji2 := hji2
  by_cases c3 : 0 ≤ (ji2)
  · rw [if_pos c3] at H
    have c3b0 := eq_true c3
    have c3b1 : decide (0 ≤ (ji2)) = true := decide_eq_true c3
    clear c3
    by_cases c4 : (ji2) ≤ (a0.size : Int)
    · rw [if_pos c4] at H
      have c4b0 := eq_true c4
      have c4b1 : decide ((ji2) ≤ (a0.size : Int)) = true := decide_eq_true c4
      clear c4
      obtain rfl := Option.some.inj H
      go_enter Tryd.func18, Tryd.ntmps18
      go_wp2
      go_ret
      exact ⟨by first | rfl | (simp [errW_none, errW_some] <;> rfl) | (simp only [← hji2]; first | rfl | (simp [errW_none, errW_some] <;> rfl)) | (simp [*, errW_none, errW_some] <;> rfl), by repeat (first | (with_reducible first | exact HB.out | apply below_alloc | apply pw_below_drewN | apply below_drew1) | exact HB.out)⟩
    · rw [if_neg c4] at H
      exact absurd H (by simp)
  · rw [if_neg c3] at H
    exact absurd H (by simp)
def comfitref07_step.f (a0 : Int) : Option (Int × Int) := if a0 = 114 then (some (1, 0)) else (if a0 = 117 then (some (0, 1)) else (if a0 = 108 then (some ((-1), 0)) else (if a0 = 100 then (some (0, (-1))) else (some (0, 0)))))
set_option maxHeartbeats 8000000 in
set_option maxRecDepth 100000 in
theorem comfitref07_step.calls (a0 : Int) (r1 : Int) (r2 : Int) (w : World) (h : comfitref07_step.f a0 = some (r1, r2)) :
    Calls Tryd.prog 54 #[.int .u8 a0] w fun e w' => e = .returned (.tuple #[.int .i64 r1, .int .i64 r2]) ∧ Drawn0 w w' := by
  have H : (if a0 = 114 then (some (1, 0)) else (if a0 = 117 then (some (0, 1)) else (if a0 = 108 then (some ((-1), 0)) else (if a0 = 100 then (some (0, (-1))) else (some (0, 0)))))) = some (r1, r2) := h
  clear h
  by_cases c2 : a0 = 114
  · rw [if_pos c2] at H
    have c2b0 : (a0 == 114) = true := beq_iff_eq.mpr c2
    have c2b1 : (a0 != 114) = false := bne_eq_false_iff_eq.mpr c2
    clear c2
    simp only [Option.some.injEq, Prod.mk.injEq] at H
    obtain ⟨rfl, rfl⟩ := H
    go_enter Tryd.func54, Tryd.ntmps54
    go_wp2
    go_ret2
    exact ⟨by first | rfl | (simp; done) | (simp [*]; done), by repeat (first | exact Drawn0.refl _ | apply Drawn0.step)⟩
  · rw [if_neg c2] at H
    have c2b0 : (a0 == 114) = false := beq_eq_false_iff_ne.mpr c2
    have c2b1 : (a0 != 114) = true := bne_iff_ne.mpr c2
    by_cases c3 : a0 = 117
    · rw [if_pos c3] at H
      have c3b0 : (a0 == 117) = true := beq_iff_eq.mpr c3
      have c3b1 : (a0 != 117) = false := bne_eq_false_iff_eq.mpr c3
      clear c3
      simp only [Option.some.injEq, Prod.mk.injEq] at H
      obtain ⟨rfl, rfl⟩ := H
      go_enter Tryd.func54, Tryd.ntmps54
      go_wp2
      go_ret2
      exact ⟨by first | rfl | (simp; done) | (simp [*]; done), by repeat (first | exact Drawn0.refl _ | apply Drawn0.step)⟩
    · rw [if_neg c3] at H
      have c3b0 : (a0 == 117) = false := beq_eq_false_iff_ne.mpr c3
      have c3b1 : (a0 != 117) = true := bne_iff_ne.mpr c3
      by_cases c4 : a0 = 108
      · rw [if_pos c4] at H
        have c4b0 : (a0 == 108) = true := beq_iff_eq.mpr c4
        have c4b1 : (a0 != 108) = false := bne_eq_false_iff_eq.mpr c4
        clear c4
        simp only [Option.some.injEq, Prod.mk.injEq] at H
        obtain ⟨rfl, rfl⟩ := H
        go_enter Tryd.func54, Tryd.ntmps54
        go_wp2
        go_ret2
        exact ⟨by first | rfl | (simp; done) | (simp [*]; done), by repeat (first | exact Drawn0.refl _ | apply Drawn0.step)⟩
      · rw [if_neg c4] at H
        have c4b0 : (a0 == 108) = false := beq_eq_false_iff_ne.mpr c4
        have c4b1 : (a0 != 108) = true := bne_iff_ne.mpr c4
        by_cases c5 : a0 = 100
        · rw [if_pos c5] at H
          have c5b0 : (a0 == 100) = true := beq_iff_eq.mpr c5
          have c5b1 : (a0 != 100) = false := bne_eq_false_iff_eq.mpr c5
          clear c5
          simp only [Option.some.injEq, Prod.mk.injEq] at H
          obtain ⟨rfl, rfl⟩ := H
          go_enter Tryd.func54, Tryd.ntmps54
          go_wp2
          go_ret2
          exact ⟨by first | rfl | (simp; done) | (simp [*]; done), by repeat (first | exact Drawn0.refl _ | apply Drawn0.step)⟩
        · rw [if_neg c5] at H
          have c5b0 : (a0 == 100) = false := beq_eq_false_iff_ne.mpr c5
          have c5b1 : (a0 != 100) = true := bne_iff_ne.mpr c5
          simp only [Option.some.injEq, Prod.mk.injEq] at H
          obtain ⟨rfl, rfl⟩ := H
          go_enter Tryd.func54, Tryd.ntmps54
          go_wp2
          go_ret2
          exact ⟨by first | rfl | (simp; done) | (simp [*]; done), by repeat (first | exact Drawn0.refl _ | apply Drawn0.step)⟩
def comfitref07_Word.l0 : Nat → ByteArray → Int → Int → Option (Bool)
  | 0, _, _, _ => none
  | k + 1, x0, x7, x8 => if x8 < x7 then (if 0 ≤ x8 then (if x8 < (x0.size : Int) then ((comfitref07_step.f (bt x0 x8)).bind fun bt104 => (if bt104.1 = 0 then (if bt104.2 = 0 then (some false) else (comfitref07_Word.l0 k x0 x7 (wrap64 (x8 + 1)))) else (comfitref07_Word.l0 k x0 x7 (wrap64 (x8 + 1))))) else (none)) else (none)) else (some (decide ((x0.size : Int) ≤ 24)))
def comfitref07_Word.f (k : Nat) (a0 : ByteArray) : Option (Bool) := comfitref07_Word.l0 k a0 (a0.size : Int) 0
set_option maxHeartbeats 8000000 in
set_option maxRecDepth 100000 in
theorem comfitref07_Word.calls (k : Nat) (a0 : ByteArray) (r : Bool) (w : World) (h : comfitref07_Word.f k a0 = some r) :
    Calls Tryd.prog 19 #[.string a0] w fun e w' => e = .returned (.bool r) ∧ Drawn0 w w' := by
  have H : (comfitref07_Word.l0 k a0 (a0.size : Int) 0) = some r := h
  clear h
  have H' := Aside0.mk H
  clear H
  go_enter Tryd.func19, Tryd.ntmps19
  go_wp2
  go_loopg [8] k (fun kq v8 w' => ∃ (x8_1 : Int), v8 = .int .i64 x8_1 ∧ Aside0 (comfitref07_Word.l0 kq a0 (a0.size : Int) x8_1 = some r) ∧ Aside0 (kq ≤ k) ∧ Drawn0 w w')
  case atStart => exact ⟨(0), (by first | rfl | (simp; done) | (simp [*]; done)), H', ⟨Nat.le_refl _⟩, by repeat (first | exact Drawn0.refl _ | apply Drawn0.step)⟩
  case round =>
    clear H'
    try clear c1
    obtain ⟨x8_1, rfl, HA, HK1, ⟨m1, rfl⟩⟩ := hrel
    cases gk with
    | zero => exact absurd HA.out (by simp [comfitref07_Word.l0])
    | succ k1 =>
      have H := HA.out
      clear HA
      simp only [comfitref07_Word.l0] at H
      by_cases c2 : x8_1 < (a0.size : Int)
      · rw [if_pos c2] at H
        have c2b0 : decide (x8_1 < (a0.size : Int)) = true := decide_eq_true c2
        clear c2
        by_cases c3 : 0 ≤ x8_1
        · rw [if_pos c3] at H
          have c3b0 : decide (0 ≤ x8_1) = true := decide_eq_true c3
          clear c3
          by_cases c4 : x8_1 < (a0.size : Int)
          · rw [if_pos c4] at H
            have c4b0 : decide (x8_1 < (a0.size : Int)) = true := decide_eq_true c4
            clear c4
            replace H := Option.bind_eq_some_iff.mp H
            obtain ⟨⟨t104, t105⟩, A60, H⟩ := H
            replace H : (if t104 = 0 then (if t105 = 0 then (some false) else (comfitref07_Word.l0 k1 a0 (a0.size : Int) (wrap64 (x8_1 + 1)))) else (comfitref07_Word.l0 k1 a0 (a0.size : Int) (wrap64 (x8_1 + 1)))) = some r := H
            have A6 := Aside0.mk A60
            clear A60
            by_cases c7 : t104 = 0
            · rw [if_pos c7] at H
              have c7b0 : (t104 == 0) = true := beq_iff_eq.mpr c7
              have c7b1 : (t104 != 0) = false := bne_eq_false_iff_eq.mpr c7
              clear c7
              by_cases c8 : t105 = 0
              · rw [if_pos c8] at H
                have c8b0 : (t105 == 0) = true := beq_iff_eq.mpr c8
                have c8b1 : (t105 != 0) = false := bne_eq_false_iff_eq.mpr c8
                clear c8
                obtain rfl := Option.some.inj H
                have p5 : 0 ≤ (x8_1 : Int) := of_decide_eq_true (by first | (with_reducible assumption) | assumption)
                have q5 : x8_1 < (a0.size : Int) := of_decide_eq_true (by first | (with_reducible assumption) | assumption)
                have hx5 := bt_at a0 x8_1
                replace p5 := eq_true p5
                replace q5 := eq_true q5
                go_wp2_with (first | ((with_reducible refine gate_callee (f := 54) rfl ?_); refine goesL_ (some 15) rfl rfl Tryd.func54 (by kernel_rfl) rfl #[.int .u8 (bt a0 x8_1)] rfl (by (try simp only [List.map_toArray, List.map_cons, List.map_nil]); first | done | rfl | (simp only [List.length_drop, List.length_take]; rfl)) ?_; (with_reducible refine (comfitref07_step.calls (bt a0 x8_1) t104 t105 _ A6.out).mono ?_); rintro e w' ⟨rfl, ⟨nd, rfl⟩⟩; refine ⟨_, rfl, ?_⟩))
                go_ret
                exact ⟨by first | rfl | (simp; done) | (simp [*]; done), by repeat (first | exact Drawn0.refl _ | apply Drawn0.step)⟩
              · rw [if_neg c8] at H
                have c8b0 : (t105 == 0) = false := beq_eq_false_iff_ne.mpr c8
                have c8b1 : (t105 != 0) = true := bne_iff_ne.mpr c8
                have H' := Aside0.mk H
                clear H
                have p5 : 0 ≤ (x8_1 : Int) := of_decide_eq_true (by first | (with_reducible assumption) | assumption)
                have q5 : x8_1 < (a0.size : Int) := of_decide_eq_true (by first | (with_reducible assumption) | assumption)
                have hx5 := bt_at a0 x8_1
                replace p5 := eq_true p5
                replace q5 := eq_true q5
                go_wp2_with (first | ((with_reducible refine gate_callee (f := 54) rfl ?_); refine goesL_ (some 15) rfl rfl Tryd.func54 (by kernel_rfl) rfl #[.int .u8 (bt a0 x8_1)] rfl (by (try simp only [List.map_toArray, List.map_cons, List.map_nil]); first | done | rfl | (simp only [List.length_drop, List.length_take]; rfl)) ?_; (with_reducible refine (comfitref07_step.calls (bt a0 x8_1) t104 t105 _ A6.out).mono ?_); rintro e w' ⟨rfl, ⟨nd, rfl⟩⟩; refine ⟨_, rfl, ?_⟩))
                go_roundg k1
                case measure => have := HK1.out; omega
                case rel => exact ⟨(wrap64 (x8_1 + 1)), (by first | rfl | (simp; done) | (simp [*]; done)), H', ⟨by have := HK1.out; omega⟩, by repeat (first | exact Drawn0.refl _ | apply Drawn0.step)⟩
            · rw [if_neg c7] at H
              have c7b0 : (t104 == 0) = false := beq_eq_false_iff_ne.mpr c7
              have c7b1 : (t104 != 0) = true := bne_iff_ne.mpr c7
              have H' := Aside0.mk H
              clear H
              have p5 : 0 ≤ (x8_1 : Int) := of_decide_eq_true (by first | (with_reducible assumption) | assumption)
              have q5 : x8_1 < (a0.size : Int) := of_decide_eq_true (by first | (with_reducible assumption) | assumption)
              have hx5 := bt_at a0 x8_1
              replace p5 := eq_true p5
              replace q5 := eq_true q5
              go_wp2_with (first | ((with_reducible refine gate_callee (f := 54) rfl ?_); refine goesL_ (some 15) rfl rfl Tryd.func54 (by kernel_rfl) rfl #[.int .u8 (bt a0 x8_1)] rfl (by (try simp only [List.map_toArray, List.map_cons, List.map_nil]); first | done | rfl | (simp only [List.length_drop, List.length_take]; rfl)) ?_; (with_reducible refine (comfitref07_step.calls (bt a0 x8_1) t104 t105 _ A6.out).mono ?_); rintro e w' ⟨rfl, ⟨nd, rfl⟩⟩; refine ⟨_, rfl, ?_⟩))
              go_roundg k1
              case measure => have := HK1.out; omega
              case rel => exact ⟨(wrap64 (x8_1 + 1)), (by first | rfl | (simp; done) | (simp [*]; done)), H', ⟨by have := HK1.out; omega⟩, by repeat (first | exact Drawn0.refl _ | apply Drawn0.step)⟩
          · rw [if_neg c4] at H
            exact absurd H (by simp)
        · rw [if_neg c3] at H
          exact absurd H (by simp)
      · rw [if_neg c2] at H
        have c2b0 : decide (x8_1 < (a0.size : Int)) = false := decide_eq_false c2
        clear c2
        obtain rfl := Option.some.inj H
        go_wp2
        go_ret
        exact ⟨by first | rfl | (simp; done) | (simp [*]; done), by repeat (first | exact Drawn0.refl _ | apply Drawn0.step)⟩
end Go.Proofs.YtpfenoioeajkmaaDoor.PA
end

section
set_option linter.unusedVariables false
set_option linter.unusedSimpArgs false
namespace Go.Proofs.YtpfenoioeajkmaaDoor.X
open Go.RowKit Go.Proofs.YtpfenoioeajkmaaDoorW.PrintWords Go.Proofs.YtpfenoioeajkmaaDoorW.PrintLast Go.Proofs.YtpfenoioeajkmaaDoorW.PrintMore
def rstepy (c : Int) : Int := if c = 114 then 0 else if c = 117 then 1 else if c = 108 then 0 else if c = 100 then -1 else 0
theorem rstep_f (c : Int) : PA.comfitref07_step.f c = some (stepx c, rstepy c) := by
  unfold PA.comfitref07_step.f stepx rstepy
  repeat' split
  all_goals rfl
def rsumy (s : ByteArray) : Nat → Int
  | 0 => 0
  | k + 1 => rsumy s k + rstepy (bt s k)
theorem rstepy_le (c : Int) : -1 ≤ rstepy c ∧ rstepy c ≤ 1 := by unfold rstepy; split <;> (try split) <;> (try split) <;> (try split) <;> omega
theorem rsumy_le (s : ByteArray) : ∀ k : Nat, -(k : Int) ≤ rsumy s k ∧ rsumy s k ≤ k
  | 0 => by simp [rsumy]
  | k + 1 => by
    have h1 := rsumy_le s k
    have h2 := rstepy_le (bt s k)
    rw [rsumy]
    omega
theorem rsumy_succ (s : ByteArray) (k : Nat) (hk : k ≤ 1000) : wrap64 (rsumy s k + rstepy (bt s k)) = rsumy s (k + 1) := by
  have h1 := rsumy_le s k
  have h2 := rstepy_le (bt s k)
  rw [rsumy]
  unfold wrap64
  omega
structure SumS (w : World) (x y : Int) (wr : World) : Prop where
  r0 : wr.cell? ⟨w.heap.size, 0, none⟩ = some (.int .i64 0)
  r1 : wr.cell? ⟨w.heap.size, 1, none⟩ = some (.int .i64 0)
  rf : wr.frozen? ⟨w.heap.size, 0, none⟩ = false
  rg : wr.frozen? ⟨w.heap.size, 1, none⟩ = false
  p0 : wr.cell? ⟨w.heap.size + 1, 0, none⟩ = some (.int .i64 x)
  p1 : wr.cell? ⟨w.heap.size + 1, 1, none⟩ = some (.int .i64 y)
  pf : wr.frozen? ⟨w.heap.size + 1, 0, none⟩ = false
  pg : wr.frozen? ⟨w.heap.size + 1, 1, none⟩ = false
  sz : w.heap.size + 1 < wr.heap.size
  bl : Below w.heap.size w wr
theorem SumS.later {w : World} {x y : Int} {wr w2 : World} (h : SumS w x y wr) (hb : Below wr.heap.size wr w2) : SumS w x y w2 where
  r0 := (hb.cell (p := ⟨w.heap.size, 0, none⟩) (by have := h.sz; simp; omega)).trans h.r0
  r1 := (hb.cell (p := ⟨w.heap.size, 1, none⟩) (by have := h.sz; simp; omega)).trans h.r1
  rf := (hb.frozen (p := ⟨w.heap.size, 0, none⟩) (by have := h.sz; simp; omega)).trans h.rf
  rg := (hb.frozen (p := ⟨w.heap.size, 1, none⟩) (by have := h.sz; simp; omega)).trans h.rg
  p0 := (hb.cell (p := ⟨w.heap.size + 1, 0, none⟩) (by have := h.sz; simp; omega)).trans h.p0
  p1 := (hb.cell (p := ⟨w.heap.size + 1, 1, none⟩) (by have := h.sz; simp; omega)).trans h.p1
  pf := (hb.frozen (p := ⟨w.heap.size + 1, 0, none⟩) (by have := h.sz; simp; omega)).trans h.pf
  pg := (hb.frozen (p := ⟨w.heap.size + 1, 1, none⟩) (by have := h.sz; simp; omega)).trans h.pg
  sz := Nat.lt_of_lt_of_le h.sz hb.size
  bl := h.bl.trans (hb.mono h.bl.size)
theorem SumS.put {w : World} {x y : Int} {wr : World} (h : SumS w x y wr) (a b : Int) : SumS w a b ((wr.setCell ⟨w.heap.size + 1, 0, none⟩ (.int .i64 a)).setCell ⟨w.heap.size + 1, 1, none⟩ (.int .i64 b)) where
  r0 := (cell_set_other _ (by simp)).trans ((cell_set_other _ (by simp)).trans h.r0)
  r1 := (cell_set_other _ (by simp)).trans ((cell_set_other _ (by simp)).trans h.r1)
  rf := by simpa using h.rf
  rg := by simpa using h.rg
  p0 := (cell_set_off _ (by decide)).trans (cell_set_self _ h.p0)
  p1 := cell_set_self _ ((cell_set_off _ (by decide)).trans h.p1)
  pf := by simpa using h.pf
  pg := by simpa using h.pg
  sz := by simpa using h.sz
  bl := (h.bl.setCell (by simp) _).setCell (by simp) _
theorem SumS.start (w : World) : SumS w 0 0 ((w.alloc (.cells #[.int .i64 0, .int .i64 0] 29)).alloc (.cells #[.int .i64 0, .int .i64 0] 29)) := by
  constructor
  all_goals first | (simp; done) | exact (below_one _).alloc (by simp) _
set_option maxHeartbeats 2000000 in
set_option maxRecDepth 100000 in
theorem Sum_calls (s : ByteArray) (w : World) (hs : s.size ≤ 1000) : Calls Tryd.prog 21 #[.string s] w fun e w' => e = .returned (ptV (sumx s s.size) (rsumy s s.size)) ∧ Below w.heap.size w w' := by
  go_enter Tryd.func21, Tryd.ntmps21
  go_wp2_with fail
  have hst := SumS.start w
  generalize ((w.alloc (.cells #[.int .i64 0, .int .i64 0] 29)).alloc (.cells #[.int .i64 0, .int .i64 0] 29)) = w1 at hst ⊢
  have HS := Lib.hid hst
  clear hst
  go_loopw [9] (fun i wr => ∃ k : Nat, k ≤ s.size ∧ i = .int .i64 k ∧ Hid (SumS w (sumx s k) (rsumy s k) wr)) (fun i _ => s.size - (intOf i).toNat)
  case atStart => exact ⟨0, by omega, rfl, HS⟩
  case round =>
    clear HS
    obtain ⟨k, hk, rfl, HS⟩ := hrel
    by_cases hlt : k < s.size
    · have hbt : (((s[k]'hlt).toNat : Nat) : Int) = bt s (k : Int) := bt_at s (k : Int) hlt
      go_wp2_with fail
      refine (PA.comfitref07_step.calls (bt s k) _ _ _ (rstep_f _)).mono ?_
      rintro e w2 ⟨rfl, nd, rfl⟩
      have HS2 := Lib.hid (HS.out.later (pw_below_drewN (Below.refl _ _) nd))
      have b1 := HS2.out.p0
      have b2 := HS2.out.p1
      have c3 := HS2.out.pf
      have c4 := HS2.out.pg
      clear hbt
      generalize wr.drewN nd = w2 at *
      go_wp2_with fail
      refine ⟨⟨k + 1, by omega, by go_num, Lib.hid ?_⟩, by simp [intOf]; omega⟩
      rw [sumx_succ s k (by omega), rsumy_succ s k (by omega)]
      exact HS2.out.put _ _
    · obtain rfl : k = s.size := by omega
      have b1 := HS.out.p0
      have b2 := HS.out.p1
      have c1 := HS.out.r0
      have c2 := HS.out.r1
      have c3 := HS.out.rf
      have c4 := HS.out.rg
      go_wp2
      have q0 : ((wr.setCell ⟨w.heap.size, 0, none⟩ (.int .i64 (sumx s s.size))).setCell ⟨w.heap.size, 1, none⟩ (.int .i64 (rsumy s s.size))).cell? ⟨w.heap.size, 0, none⟩ = some (.int .i64 (sumx s s.size)) := (cell_set_off _ (by decide)).trans (cell_set_self _ c1)
      have q1 : ((wr.setCell ⟨w.heap.size, 0, none⟩ (.int .i64 (sumx s s.size))).setCell ⟨w.heap.size, 1, none⟩ (.int .i64 (rsumy s s.size))).cell? ⟨w.heap.size, 1, none⟩ = some (.int .i64 (rsumy s s.size)) := cell_set_self _ ((cell_set_off _ (by decide)).trans c2)
      exact bodyPost_ret (v := ptV (sumx s s.size) (rsumy s s.size)) (by simp [results, Tryd.results21, go_sem, ptV, q0, q1, Result.andThen]) rfl ⟨rfl, (HS.out.bl.setCell (by simp) _).setCell (by simp) _⟩
end Go.Proofs.YtpfenoioeajkmaaDoor.X
end

section
set_option linter.unusedVariables false
set_option linter.unusedSimpArgs false
namespace Go.Proofs.YtpfenoioeajkmaaDoor.X
open Go.RowKit Go.Proofs.YtpfenoioeajkmaaDoorW.PrintWords Go.Proofs.YtpfenoioeajkmaaDoorW.PrintLast Go.Proofs.YtpfenoioeajkmaaDoorW.PrintMore
theorem mul_small {a b : Int} (ha : -1001 ≤ a ∧ a ≤ 1001) (hb : -1001 ≤ b ∧ b ≤ 1001) : -1002001 ≤ a * b ∧ a * b ≤ 1002001 := by
  have h1 : a.natAbs ≤ 1001 := by omega
  have h2 : b.natAbs ≤ 1001 := by omega
  have h3 : (a * b).natAbs ≤ 1001 * 1001 := by rw [Int.natAbs_mul]; exact Nat.mul_le_mul h1 h2
  omega
def dbl (s : ByteArray) : Nat → Int
  | 0 => 0
  | k + 1 => dbl s k + (sumx s k * sumy s (k + 1) - sumx s (k + 1) * sumy s k)
theorem dbl_step (s : ByteArray) (k : Nat) (hk : k ≤ 1000) : (-1002001 ≤ sumx s k * sumy s (k + 1) ∧ sumx s k * sumy s (k + 1) ≤ 1002001) ∧ -1002001 ≤ sumx s (k + 1) * sumy s k ∧ sumx s (k + 1) * sumy s k ≤ 1002001 := by
  have a1 := sumx_le s k
  have a2 := sumx_le s (k + 1)
  have a3 := sumy_le s k
  have a4 := sumy_le s (k + 1)
  exact ⟨mul_small (by omega) (by omega), mul_small (by omega) (by omega)⟩
theorem dbl_le (s : ByteArray) : ∀ k : Nat, k ≤ 1000 → -(2004002 * (k : Int)) ≤ dbl s k ∧ dbl s k ≤ 2004002 * (k : Int)
  | 0, _ => by simp [dbl]
  | k + 1, hk => by
    have h1 := dbl_le s k (by omega)
    have h2 := dbl_step s k (by omega)
    rw [dbl]
    omega
theorem dbl_succ (s : ByteArray) (k : Nat) (hk : k ≤ 999) : wrap64 (dbl s k + wrap64 (wrap64 (sumx s k * sumy s (k + 1)) - wrap64 (sumx s (k + 1) * sumy s k))) = dbl s (k + 1) := by
  have h1 := dbl_le s k (by omega)
  have h2 := dbl_step s k (by omega)
  rw [dbl]
  generalize sumx s k * sumy s (k + 1) = a at *
  generalize sumx s (k + 1) * sumy s k = b at *
  unfold wrap64
  omega
structure DblS (w : World) (s : ByteArray) (x y : Int) (wr : World) : Prop where
  p0 : wr.cell? ⟨w.heap.size, 0, none⟩ = some (.int .i64 x)
  p1 : wr.cell? ⟨w.heap.size, 1, none⟩ = some (.int .i64 y)
  pf : wr.frozen? ⟨w.heap.size, 0, none⟩ = false
  pg : wr.frozen? ⟨w.heap.size, 1, none⟩ = false
  bs : ∀ i : Nat, i < s.size → wr.cell? ⟨w.heap.size + 1, i, none⟩ = some (.int .u8 (bt s i))
  sz : w.heap.size + 1 < wr.heap.size
  bl : Below w.heap.size w wr
theorem DblS.later {w : World} {s : ByteArray} {x y : Int} {wr w2 : World} (h : DblS w s x y wr) (hb : Below wr.heap.size wr w2) : DblS w s x y w2 where
  p0 := (hb.cell (p := ⟨w.heap.size, 0, none⟩) (by have := h.sz; simp; omega)).trans h.p0
  p1 := (hb.cell (p := ⟨w.heap.size, 1, none⟩) (by have := h.sz; simp; omega)).trans h.p1
  pf := (hb.frozen (p := ⟨w.heap.size, 0, none⟩) (by have := h.sz; simp; omega)).trans h.pf
  pg := (hb.frozen (p := ⟨w.heap.size, 1, none⟩) (by have := h.sz; simp; omega)).trans h.pg
  bs := fun i hi => (hb.cell (p := ⟨w.heap.size + 1, i, none⟩) (by have := h.sz; simp; omega)).trans (h.bs i hi)
  sz := Nat.lt_of_lt_of_le h.sz hb.size
  bl := h.bl.trans (hb.mono h.bl.size)
theorem DblS.set {w : World} {s : ByteArray} {x y : Int} {wr : World} (h : DblS w s x y wr) {g i : Nat} (hg : w.heap.size + 1 < g) (u : Value) : DblS w s x y (wr.setCell ⟨g, i, none⟩ u) where
  p0 := (cell_set_other _ (by simp; omega)).trans h.p0
  p1 := (cell_set_other _ (by simp; omega)).trans h.p1
  pf := by simpa using h.pf
  pg := by simpa using h.pg
  bs := fun i hi => (cell_set_other _ (by simp; omega)).trans (h.bs i hi)
  sz := by simpa using h.sz
  bl := h.bl.setCell (by simp; omega) _
theorem DblS.draw {w : World} {s : ByteArray} {x y : Int} {wr : World} (h : DblS w s x y wr) : DblS w s x y wr.drew := h.later (Below.refl _ _).drew
theorem DblS.put {w : World} {s : ByteArray} {x y : Int} {wr : World} (h : DblS w s x y wr) (a b : Int) : DblS w s a b ((wr.setCell ⟨w.heap.size, 0, none⟩ (.int .i64 a)).setCell ⟨w.heap.size, 1, none⟩ (.int .i64 b)) where
  p0 := (cell_set_off _ (by decide)).trans (cell_set_self _ h.p0)
  p1 := cell_set_self _ ((cell_set_off _ (by decide)).trans h.p1)
  pf := by simpa using h.pf
  pg := by simpa using h.pg
  bs := fun i hi => (cell_set_other _ (by simp)).trans ((cell_set_other _ (by simp)).trans (h.bs i hi))
  sz := by simpa using h.sz
  bl := (h.bl.setCell (by simp) _).setCell (by simp) _
theorem DblS.start (w : World) (s : ByteArray) : DblS w s 0 0 (Lib.bytesWorld (w.alloc (.cells #[.int .i64 0, .int .i64 0] 63)) 5 s) := by
  obtain ⟨h1, h2, h3⟩ := bytes_world (w.alloc (.cells #[.int .i64 0, .int .i64 0] 63)) s
  constructor
  · rw [h2.cell (p := ⟨w.heap.size, 0, none⟩) (by simp)]; simp
  · rw [h2.cell (p := ⟨w.heap.size, 1, none⟩) (by simp)]; simp
  · rw [h2.frozen (p := ⟨w.heap.size, 0, none⟩) (by simp)]; simp
  · rw [h2.frozen (p := ⟨w.heap.size, 1, none⟩) (by simp)]; simp
  · intro i hi
    have := h1 i hi
    simpa using this
  · rw [h3]; simp
  · exact (below_one _).trans (h2.mono (by simp))
structure NextP (w : World) (g : Nat) (x y : Int) (wr : World) : Prop where
  q0 : wr.cell? ⟨g, 0, none⟩ = some (.int .i64 x)
  q1 : wr.cell? ⟨g, 1, none⟩ = some (.int .i64 y)
  qf : wr.frozen? ⟨g, 0, none⟩ = false
  qg : wr.frozen? ⟨g, 1, none⟩ = false
  lo : w.heap.size + 1 < g
  hi : g < wr.heap.size
theorem NextP.later {w : World} {g : Nat} {x y : Int} {wr w2 : World} (h : NextP w g x y wr) (hb : Below wr.heap.size wr w2) : NextP w g x y w2 where
  q0 := (hb.cell (p := ⟨g, 0, none⟩) h.hi).trans h.q0
  q1 := (hb.cell (p := ⟨g, 1, none⟩) h.hi).trans h.q1
  qf := (hb.frozen (p := ⟨g, 0, none⟩) h.hi).trans h.qf
  qg := (hb.frozen (p := ⟨g, 1, none⟩) h.hi).trans h.qg
  lo := h.lo
  hi := Nat.lt_of_lt_of_le h.hi hb.size
theorem NextP.put {w : World} {g : Nat} {x y : Int} {wr : World} (h : NextP w g x y wr) (a b : Int) : NextP w g a b ((wr.setCell ⟨g, 0, none⟩ (.int .i64 a)).setCell ⟨g, 1, none⟩ (.int .i64 b)) where
  q0 := (cell_set_off _ (by decide)).trans (cell_set_self _ h.q0)
  q1 := cell_set_self _ ((cell_set_off _ (by decide)).trans h.q1)
  qf := by simpa using h.qf
  qg := by simpa using h.qg
  lo := h.lo
  hi := by simpa using h.hi
theorem NextP.start {w : World} {wr w1 : World} {g : Nat} (hg : g = wr.heap.size) (hlo : w.heap.size + 1 < wr.heap.size) (hb : w1.heap[g]? = some (.cells #[.int .i64 0, .int .i64 0] 63 (0, 0))) : NextP w g 0 0 w1 where
  q0 := (blk_cell hb 0).trans rfl
  q1 := (blk_cell hb 1).trans rfl
  qf := blk_frozen hb 0
  qg := blk_frozen hb 1
  lo := by omega
  hi := (Array.getElem?_eq_some_iff.1 hb).1
set_option maxHeartbeats 2000000 in
set_option maxRecDepth 100000 in
theorem double_calls (s : ByteArray) (w : World) (hs : s.size ≤ 999) : Calls Tryd.prog 61 #[.string s] w fun e w' => e = .returned (.int .i64 (dbl s s.size)) ∧ Below w.heap.size w w' := by
  have hcv := fun (w : World) => Lib.run_convert_string_bytes (P := Tryd.prog) w 9 78 5 s Tryd.underlying9 Tryd.underlying78 Tryd.underlying5
  go_enter Tryd.func61, Tryd.ntmps61
  go_wp2_with fail
  have hst := DblS.start w s
  generalize Lib.bytesWorld (w.alloc (.cells #[.int .i64 0, .int .i64 0] 63)) 5 s = w1 at hst ⊢
  have HS := Lib.hid hst
  clear hst hcv
  go_loopw [11, 4] (fun i sm wr => ∃ k : Nat, k ≤ s.size ∧ i = .int .i64 k ∧ sm = .int .i64 (dbl s k) ∧ Hid (DblS w s (sumx s k) (sumy s k) wr)) (fun i _ _ => s.size - (intOf i).toNat)
  case atStart => exact ⟨0, by omega, rfl, rfl, HS⟩
  case round =>
    clear HS
    obtain ⟨k, hk, rfl, rfl, HS⟩ := hrel
    by_cases hlt : k < s.size
    · have hb := HS.out.bs k hlt
      have b1 := HS.out.p0
      have b2 := HS.out.p1
      go_wp2_with fail
      generalize hX : sumx s k = X at b1 ⊢
      generalize hY : sumy s k = Y at b2 ⊢
      generalize hD : dbl s k = D at ⊢
      refine start_ (n := 6) (S := fun w' => w'.cell? ⟨w.heap.size, 0, none⟩ = some (.int .i64 X) ∧ w'.cell? ⟨w.heap.size, 1, none⟩ = some (.int .i64 Y)) (ds := [5]) #[false, false, false, false, false, false] (by kernel_rfl) rfl rfl ⟨by simpa using b1, by simpa using b2⟩ (fun hHeld => ?_)
      refine take_ (i := 0) (N := (some 15)) (v := ?_) (a' := ?_) #[true, false, false, false, false, false] rfl rfl (by kernel_rfl) (fun _ _ _ h => h) (Or.inl ⟨by rfl, ?_⟩) hHeld ?_ ?_
      rotate_left
      · rintro w' ⟨s0, s1⟩; go_simp; first | done | with_reducible rfl
      rotate_left
      · simp only [Act.put, List.setIfInBounds_toArray, List.set_cons_zero, List.set_cons_succ, i64_w, i32_w]; rfl
      refine pure_ (i := 1) (N := (some 16)) (v := ?_) (a' := ?_) #[true, true, false, false, false, false] rfl rfl (by kernel_rfl) (fun _ _ _ h => h) (Or.inl ⟨by rfl, ?_⟩) ?_ ?_
      rotate_left
      · intro w'; go_simp; first | done | with_reducible rfl
      rotate_left
      · simp only [Act.put, List.setIfInBounds_toArray, List.set_cons_zero, List.set_cons_succ, i64_w, i32_w]; rfl
      refine two_ (i := 2) (j := 4) (Ni := (some 17)) (Nj := (some 7)) #[true, true, true, false, false, false] #[true, true, false, false, true, false] rfl rfl rfl rfl (by kernel_rfl) (by decide) (by decide) (fun K hK => ?_) (fun K hK => ?_)
      · skip
        refine goes_ Tryd.func69 (by kernel_rfl) rfl #[.int .u8 (bt s k)] (by rfl) rfl rfl (by (try simp only [List.map_toArray, List.map_cons, List.map_nil]); first | done | rfl) ?_
        refine (step_calls _ _).mono ?_
        rintro e w2 ⟨rfl, hb2⟩
        refine ⟨_, rfl, ?_⟩
        have HS2 := Lib.hid (HS.out.draw.later hb2)
        clear hb2
        refine hK.out _ _ ⟨hX ▸ HS2.out.p0, hY ▸ HS2.out.p1⟩ (fun hHeld => ?_)
        clear hK K
        refine norm_ (a' := ?_) ?_ ?_
        rotate_left
        · show Act.put _ (some 17) _ = _; simp only [Act.put, List.setIfInBounds_toArray, List.set_cons_zero, List.set_cons_succ, i64_w, i32_w]; rfl
        refine two_ (i := 3) (j := 4) (Ni := (some 18)) (Nj := (some 7)) #[true, true, true, true, false, false] #[true, true, true, false, true, false] rfl rfl rfl rfl (by kernel_rfl) (by decide) (by decide) (fun K hK => ?_) (fun K hK => ?_)
        · skip
          refine goes_ Tryd.func65 (by kernel_rfl) rfl #[ptV X Y, ptV (stepx (bt s k)) (stepy (bt s k))] (by rfl) rfl rfl (by (try simp only [List.map_toArray, List.map_cons, List.map_nil]); first | done | rfl) ?_
          refine (plus_calls _ _ _ _ _).mono ?_
          rintro e w3 ⟨rfl, hb2⟩
          refine ⟨_, rfl, ?_⟩
          have HS3 := Lib.hid (HS2.out.later hb2)
          clear hb2
          refine hK.out _ _ ⟨hX ▸ HS3.out.p0, hY ▸ HS3.out.p1⟩ (fun hHeld => ?_)
          clear hK K
          refine norm_ (a' := ?_) ?_ ?_
          rotate_left
          · show Act.put _ (some 18) _ = _; simp only [Act.put, List.setIfInBounds_toArray, List.set_cons_zero, List.set_cons_succ, i64_w, i32_w]; rfl
          refine one_ (i := 4) (N := (some 7)) #[true, true, true, true, true, false] rfl rfl (by kernel_rfl) (by decide) (fun K hK => ?_)
          refine alloc_step (cs := #[.int .i64 0, .int .i64 0]) (t := 63) (by rfl) rfl (by go_simp) ?_
          intro g hg w4 hbk hba
          have HS4 := Lib.hid (HS3.out.later hba)
          have HN4 := Lib.hid (NextP.start hg HS3.out.sz hbk)
          clear hg hbk hba
          refine hK.out _ _ ⟨hX ▸ HS4.out.p0, hY ▸ HS4.out.p1⟩ (fun hHeld => ?_)
          clear hK K
          refine norm_ (a' := ?_) ?_ ?_
          rotate_left
          · show Act.put _ (some 7) _ = _; simp only [Act.put, List.setIfInBounds_toArray, List.set_cons_zero, List.set_cons_succ, i64_w, i32_w]; rfl
          have d0 := HN4.out.q0
          have d1 := HN4.out.q1
          have d2 := HN4.out.qf
          have d3 := HN4.out.qg
          refine last_ (i := 5) (N := none) #[true, true, true, true, true, true] rfl rfl (by kernel_rfl) (by decide) (fun K hK => ?_)
          refine skip_step (w1 := (w4.setCell ⟨g, 0, none⟩ (.int .i64 (wrap64 (X + stepx (bt s k))))).setCell ⟨g, 1, none⟩ (.int .i64 (wrap64 (Y + stepy (bt s k))))) (by rfl) (by unfold ptV; go_simp) ?_
          refine hK.out _ _ ?_
          clear hK K
          refine norm_ (a' := ?_) ?_ ?_
          rotate_left
          · show Act.put _ none _ = _; simp only [Act.put, List.setIfInBounds_toArray, List.set_cons_zero, List.set_cons_succ, i64_w, i32_w]; rfl
          refine done_ (by kernel_rfl) ?_
          clear d0 d1 d2 d3 hHeld
          have HS5 := Lib.hid ((HS4.out.set (i := 0) HN4.out.lo (.int .i64 (wrap64 (X + stepx (bt s k))))).set (i := 1) HN4.out.lo (.int .i64 (wrap64 (Y + stepy (bt s k)))))
          have HN5 := Lib.hid (HN4.out.put (wrap64 (X + stepx (bt s k))) (wrap64 (Y + stepy (bt s k))))
          clear HS4 HN4
          generalize (w4.setCell ⟨g, 0, none⟩ (.int .i64 (wrap64 (X + stepx (bt s k))))).setCell ⟨g, 1, none⟩ (.int .i64 (wrap64 (Y + stepy (bt s k)))) = w5 at HS5 HN5 ⊢
          rw [← hX, ← hY, sumx_succ s k (by omega), sumy_succ s k (by omega)] at HN5
          have e0 := HS5.out.p0
          have e1 := HS5.out.p1
          have e2 := HS5.out.pf
          have e3 := HS5.out.pg
          have f0 := HN5.out.q0
          have f1 := HN5.out.q1
          go_wp2_with fail
          refine ⟨⟨k + 1, by omega, by go_num, ?_, Lib.hid (HS5.out.put _ _)⟩, by simp [intOf]; omega⟩
          rw [← hX, ← hY, ← hD]
          exact congrArg (Value.int .i64) (dbl_succ s k (by omega))
        · skip
          refine alloc_step (cs := #[.int .i64 0, .int .i64 0]) (t := 63) (by rfl) rfl (by go_simp) ?_
          intro g hg w3 hbk hba
          have HS3 := Lib.hid (HS2.out.later hba)
          have HN3 := Lib.hid (NextP.start hg HS2.out.sz hbk)
          clear hg hbk hba
          refine hK.out _ _ ⟨hX ▸ HS3.out.p0, hY ▸ HS3.out.p1⟩ (fun hHeld => ?_)
          clear hK K
          refine norm_ (a' := ?_) ?_ ?_
          rotate_left
          · show Act.put _ (some 7) _ = _; simp only [Act.put, List.setIfInBounds_toArray, List.set_cons_zero, List.set_cons_succ, i64_w, i32_w]; rfl
          refine one_ (i := 3) (N := (some 18)) #[true, true, true, true, true, false] rfl rfl (by kernel_rfl) (by decide) (fun K hK => ?_)
          refine goes_ Tryd.func65 (by kernel_rfl) rfl #[ptV X Y, ptV (stepx (bt s k)) (stepy (bt s k))] (by rfl) rfl rfl (by (try simp only [List.map_toArray, List.map_cons, List.map_nil]); first | done | rfl) ?_
          refine (plus_calls _ _ _ _ _).mono ?_
          rintro e w4 ⟨rfl, hb2⟩
          refine ⟨_, rfl, ?_⟩
          have HS4 := Lib.hid (HS3.out.later hb2)
          have HN4 := Lib.hid (HN3.out.later hb2)
          clear hb2
          refine hK.out _ _ ⟨hX ▸ HS4.out.p0, hY ▸ HS4.out.p1⟩ (fun hHeld => ?_)
          clear hK K
          refine norm_ (a' := ?_) ?_ ?_
          rotate_left
          · show Act.put _ (some 18) _ = _; simp only [Act.put, List.setIfInBounds_toArray, List.set_cons_zero, List.set_cons_succ, i64_w, i32_w]; rfl
          have d0 := HN4.out.q0
          have d1 := HN4.out.q1
          have d2 := HN4.out.qf
          have d3 := HN4.out.qg
          refine last_ (i := 5) (N := none) #[true, true, true, true, true, true] rfl rfl (by kernel_rfl) (by decide) (fun K hK => ?_)
          refine skip_step (w1 := (w4.setCell ⟨g, 0, none⟩ (.int .i64 (wrap64 (X + stepx (bt s k))))).setCell ⟨g, 1, none⟩ (.int .i64 (wrap64 (Y + stepy (bt s k))))) (by rfl) (by unfold ptV; go_simp) ?_
          refine hK.out _ _ ?_
          clear hK K
          refine norm_ (a' := ?_) ?_ ?_
          rotate_left
          · show Act.put _ none _ = _; simp only [Act.put, List.setIfInBounds_toArray, List.set_cons_zero, List.set_cons_succ, i64_w, i32_w]; rfl
          refine done_ (by kernel_rfl) ?_
          clear d0 d1 d2 d3 hHeld
          have HS5 := Lib.hid ((HS4.out.set (i := 0) HN4.out.lo (.int .i64 (wrap64 (X + stepx (bt s k))))).set (i := 1) HN4.out.lo (.int .i64 (wrap64 (Y + stepy (bt s k)))))
          have HN5 := Lib.hid (HN4.out.put (wrap64 (X + stepx (bt s k))) (wrap64 (Y + stepy (bt s k))))
          clear HS4 HN4
          generalize (w4.setCell ⟨g, 0, none⟩ (.int .i64 (wrap64 (X + stepx (bt s k))))).setCell ⟨g, 1, none⟩ (.int .i64 (wrap64 (Y + stepy (bt s k)))) = w5 at HS5 HN5 ⊢
          rw [← hX, ← hY, sumx_succ s k (by omega), sumy_succ s k (by omega)] at HN5
          have e0 := HS5.out.p0
          have e1 := HS5.out.p1
          have e2 := HS5.out.pf
          have e3 := HS5.out.pg
          have f0 := HN5.out.q0
          have f1 := HN5.out.q1
          go_wp2_with fail
          refine ⟨⟨k + 1, by omega, by go_num, ?_, Lib.hid (HS5.out.put _ _)⟩, by simp [intOf]; omega⟩
          rw [← hX, ← hY, ← hD]
          exact congrArg (Value.int .i64) (dbl_succ s k (by omega))
      · skip
        refine alloc_step (cs := #[.int .i64 0, .int .i64 0]) (t := 63) (by rfl) rfl (by go_simp) ?_
        intro g hg w2 hbk hba
        have HS2 := Lib.hid (HS.out.draw.later hba)
        have HN2 := Lib.hid (NextP.start hg HS.out.draw.sz hbk)
        clear hg hbk hba
        refine hK.out _ _ ⟨hX ▸ HS2.out.p0, hY ▸ HS2.out.p1⟩ (fun hHeld => ?_)
        clear hK K
        refine norm_ (a' := ?_) ?_ ?_
        rotate_left
        · show Act.put _ (some 7) _ = _; simp only [Act.put, List.setIfInBounds_toArray, List.set_cons_zero, List.set_cons_succ, i64_w, i32_w]; rfl
        refine one_ (i := 2) (N := (some 17)) #[true, true, true, false, true, false] rfl rfl (by kernel_rfl) (by decide) (fun K hK => ?_)
        refine goes_ Tryd.func69 (by kernel_rfl) rfl #[.int .u8 (bt s k)] (by rfl) rfl rfl (by (try simp only [List.map_toArray, List.map_cons, List.map_nil]); first | done | rfl) ?_
        refine (step_calls _ _).mono ?_
        rintro e w3 ⟨rfl, hb2⟩
        refine ⟨_, rfl, ?_⟩
        have HS3 := Lib.hid (HS2.out.later hb2)
        have HN3 := Lib.hid (HN2.out.later hb2)
        clear hb2
        refine hK.out _ _ ⟨hX ▸ HS3.out.p0, hY ▸ HS3.out.p1⟩ (fun hHeld => ?_)
        clear hK K
        refine norm_ (a' := ?_) ?_ ?_
        rotate_left
        · show Act.put _ (some 17) _ = _; simp only [Act.put, List.setIfInBounds_toArray, List.set_cons_zero, List.set_cons_succ, i64_w, i32_w]; rfl
        refine one_ (i := 3) (N := (some 18)) #[true, true, true, true, true, false] rfl rfl (by kernel_rfl) (by decide) (fun K hK => ?_)
        refine goes_ Tryd.func65 (by kernel_rfl) rfl #[ptV X Y, ptV (stepx (bt s k)) (stepy (bt s k))] (by rfl) rfl rfl (by (try simp only [List.map_toArray, List.map_cons, List.map_nil]); first | done | rfl) ?_
        refine (plus_calls _ _ _ _ _).mono ?_
        rintro e w4 ⟨rfl, hb2⟩
        refine ⟨_, rfl, ?_⟩
        have HS4 := Lib.hid (HS3.out.later hb2)
        have HN4 := Lib.hid (HN3.out.later hb2)
        clear hb2
        refine hK.out _ _ ⟨hX ▸ HS4.out.p0, hY ▸ HS4.out.p1⟩ (fun hHeld => ?_)
        clear hK K
        refine norm_ (a' := ?_) ?_ ?_
        rotate_left
        · show Act.put _ (some 18) _ = _; simp only [Act.put, List.setIfInBounds_toArray, List.set_cons_zero, List.set_cons_succ, i64_w, i32_w]; rfl
        have d0 := HN4.out.q0
        have d1 := HN4.out.q1
        have d2 := HN4.out.qf
        have d3 := HN4.out.qg
        refine last_ (i := 5) (N := none) #[true, true, true, true, true, true] rfl rfl (by kernel_rfl) (by decide) (fun K hK => ?_)
        refine skip_step (w1 := (w4.setCell ⟨g, 0, none⟩ (.int .i64 (wrap64 (X + stepx (bt s k))))).setCell ⟨g, 1, none⟩ (.int .i64 (wrap64 (Y + stepy (bt s k))))) (by rfl) (by unfold ptV; go_simp) ?_
        refine hK.out _ _ ?_
        clear hK K
        refine norm_ (a' := ?_) ?_ ?_
        rotate_left
        · show Act.put _ none _ = _; simp only [Act.put, List.setIfInBounds_toArray, List.set_cons_zero, List.set_cons_succ, i64_w, i32_w]; rfl
        refine done_ (by kernel_rfl) ?_
        clear d0 d1 d2 d3 hHeld
        have HS5 := Lib.hid ((HS4.out.set (i := 0) HN4.out.lo (.int .i64 (wrap64 (X + stepx (bt s k))))).set (i := 1) HN4.out.lo (.int .i64 (wrap64 (Y + stepy (bt s k)))))
        have HN5 := Lib.hid (HN4.out.put (wrap64 (X + stepx (bt s k))) (wrap64 (Y + stepy (bt s k))))
        clear HS4 HN4
        generalize (w4.setCell ⟨g, 0, none⟩ (.int .i64 (wrap64 (X + stepx (bt s k))))).setCell ⟨g, 1, none⟩ (.int .i64 (wrap64 (Y + stepy (bt s k)))) = w5 at HS5 HN5 ⊢
        rw [← hX, ← hY, sumx_succ s k (by omega), sumy_succ s k (by omega)] at HN5
        have e0 := HS5.out.p0
        have e1 := HS5.out.p1
        have e2 := HS5.out.pf
        have e3 := HS5.out.pg
        have f0 := HN5.out.q0
        have f1 := HN5.out.q1
        go_wp2_with fail
        refine ⟨⟨k + 1, by omega, by go_num, ?_, Lib.hid (HS5.out.put _ _)⟩, by simp [intOf]; omega⟩
        rw [← hX, ← hY, ← hD]
        exact congrArg (Value.int .i64) (dbl_succ s k (by omega))
    · obtain rfl : k = s.size := by omega
      go_wp2
      go_ret
      exact ⟨rfl, HS.out.bl⟩
end Go.Proofs.YtpfenoioeajkmaaDoor.X
end

section
set_option linter.unusedVariables false
set_option linter.unusedSimpArgs false
namespace Go.Proofs.YtpfenoioeajkmaaDoor.X
open Go.RowKit Go.Proofs.YtpfenoioeajkmaaDoorW.PrintWords Go.Proofs.YtpfenoioeajkmaaDoorW.PrintLast Go.Proofs.YtpfenoioeajkmaaDoorW.PrintMore
def lets : List UInt8 := [114, 117, 108, 100]
theorem dropWhile_nil {α : Type} (p : α → Bool) : ∀ l : List α, l.dropWhile p = [] ↔ ∀ x ∈ l, p x = true
  | [] => by simp
  | a :: l => by
    rw [List.dropWhile_cons]
    by_cases h : p a = true
    · rw [if_pos h, dropWhile_nil p l]
      simp [h]
    · rw [if_neg h]
      simp [h]
theorem dropWhile_head {α : Type} (p : α → Bool) : ∀ (l : List α) a r, l.dropWhile p = a :: r → ¬ p a = true
  | [], _, _, h => by simp at h
  | b :: l, a, r, h => by
    rw [List.dropWhile_cons] at h
    by_cases hb : p b = true
    · rw [if_pos hb] at h
      exact dropWhile_head p l a r h
    · rw [if_neg hb] at h
      injection h with h1 h2
      rw [← h1]
      exact hb
theorem trim_nil (l cs : List UInt8) : Lib.trimS l cs = [] ↔ ∀ x ∈ l, cs.contains x = true := by
  unfold Lib.trimS Lib.trimLeftS Lib.trimRightS
  rw [dropWhile_nil]
  constructor
  · intro h
    have h2 : l.reverse.dropWhile (cs.contains ·) = [] := by
      cases e : l.reverse.dropWhile (cs.contains ·) with
      | nil => rfl
      | cons a r =>
        have ha : ¬ cs.contains a = true := dropWhile_head (cs.contains ·) _ _ _ e
        exact absurd (h a (by rw [e]; simp)) ha
    rw [dropWhile_nil] at h2
    exact fun x hx => h2 x (by simpa using hx)
  · intro h x hx
    exact h x (by simpa using (List.dropWhile_sublist _).subset (List.mem_reverse.1 hx))
def isW (s : ByteArray) : Bool := decide (s.size ≤ 24) && s.data.toList.all (lets.contains ·)
set_option maxHeartbeats 2000000 in
set_option maxRecDepth 100000 in
theorem isWord_calls (s : ByteArray) (w : World) (hs : s.size ≤ 9223372036854775807) : Calls Tryd.prog 52 #[.string s] w fun e w' => e = .returned (.bool (isW s)) ∧ Below w.heap.size w w' := by
  by_cases h : s.size ≤ 24
  · have hT := fun w : World => Any.strings_Trim_laid Tryd.lays160 (by kernel_rfl) s ⟨#[114, 117, 108, 100]⟩ w hs (by decide) (ascii_of_all (by decide))
    have hle : (s.size : Int) ≤ 24 := by omega
    have HT := Lib.hid hT
    clear hT
    go_enter Tryd.func52, Tryd.ntmps52
    go_wp2_with fail
    refine (HT.out w).mono ?_
    rintro e w' ⟨rfl, hb⟩
    have ht := trim_nil s.data.toList [114, 117, 108, 100]
    generalize Lib.trimS s.data.toList [114, 117, 108, 100] = t at ht ⊢
    have HB := Lib.hid hb
    have e : isW s = decide (t = []) := by
      unfold isW lets
      rw [decide_eq_true h, Bool.true_and, Bool.eq_iff_iff, List.all_eq_true, decide_eq_true_eq, ht]
    have HE := Lib.hid e
    clear ht hb e
    cases t with
    | nil =>
      go_wp2
      go_ret
      exact ⟨by rw [HE.out]; rfl, HB.out⟩
    | cons a t =>
      go_wp2
      go_ret
      exact ⟨by rw [HE.out]; rfl, HB.out⟩
  · have hle : ¬ (s.size : Int) ≤ 24 := by omega
    have e : isW s = false := by unfold isW; rw [decide_eq_false h]; rfl
    rw [e]
    go_enter Tryd.func52, Tryd.ntmps52
    go_wp2
    go_ret
    exact ⟨rfl, Below.refl _ _⟩
end Go.Proofs.YtpfenoioeajkmaaDoor.X
end

section
set_option linter.unusedVariables false
set_option linter.unusedSimpArgs false
set_option linter.unusedSectionVars false
namespace Go.Proofs.YtpfenoioeajkmaaDoor.X
open Go.RowKit Go.Proofs.YtpfenoioeajkmaaDoorW.PrintWords Go.Proofs.YtpfenoioeajkmaaDoorW.PrintLast Go.Proofs.YtpfenoioeajkmaaDoorW.PrintMore
section
variable {α β : Type} [DecidableEq α]
def findL (l : List (α × β)) (k : α) : Option β := match l with
  | [] => none
  | p :: r => if p.1 = k then some p.2 else findL r k
def putL (l : List (α × β)) (k : α) (v : β) : List (α × β) := match l with
  | [] => [(k, v)]
  | p :: r => if p.1 = k then (k, v) :: r else p :: putL r k v
theorem findL_putL (l : List (α × β)) (k k' : α) (v : β) : findL (putL l k v) k' = if k = k' then some v else findL l k' := by
  induction l with
  | nil => simp [putL, findL]
  | cons p r ih =>
    unfold putL
    split
    · rename_i h
      subst h
      unfold findL
      simp only
      split <;> rfl
    · rename_i h
      unfold findL
      split
      · rename_i h2
        subst h2
        rw [if_neg (fun e => h e.symm)]
      · exact ih
structure KeyOk (P : Program) (K : TypeId) (enc : α → Value) : Prop where
  inj : ∀ a b, enc a = enc b → a = b
  check : ∀ b k w, (Instr.checkKey b 10000 K (enc k)).run P w = .ok () w
  find : ∀ (k : α) (es : List MapEntry) (l : List α) w, es.map (·.key) = l.map enc → (Instr.findKey K (enc k) es).run P w = .ok ((es[l.findIdx (· = k)]?).map fun e => (l.findIdx (· = k), e.val)) w
  stays : ∀ k w, (Instr.keyThatStays (enc k) (enc k)).run P w = .ok (enc k) w
def IsM (enc : α → Value) (encv : β → Value) (w : World) (r : Nat) (l : List (α × β)) : Prop :=
  ∃ es clock, w.heap[r]? = some (.map es clock) ∧ es.toList.map (fun e => (e.key, e.val)) = l.map fun p => (enc p.1, encv p.2)
def putObj (w : World) (r : Nat) (o : Obj) : World := { w with heap := w.heap.setIfInBounds r o }
theorem putObj_keep (w : World) (r : Nat) (o : Obj) : KeepBut w (putObj w r o) r none :=
  ⟨by simp [putObj], fun i _ hne _ => by simp only [putObj]; exact Array.getElem?_setIfInBounds_ne (Ne.symm hne)⟩
theorem putObj_below {B : Nat} {a w : World} (h : Below B a w) {r : Nat} (hr : B ≤ r) (o : Obj) : Below B a (putObj w r o) :=
  h.trans ⟨rfl, rfl, rfl, by simp [putObj], fun k hk => by simp only [putObj]; exact Array.getElem?_setIfInBounds_ne (by omega)⟩
theorem putObj_at {w : World} {r : Nat} {o o' : Obj} (h : w.heap[r]? = some o') : (putObj w r o).heap[r]? = some o := by
  simp only [putObj]
  exact Array.getElem?_setIfInBounds_self_of_lt (Array.getElem?_eq_some_iff.1 h).1
theorem findIdx_none {l : List (α × β)} {k : α} (h : findL l k = none) : (l.map (·.1)).findIdx (· = k) = l.length := by
  induction l with
  | nil => rfl
  | cons p r ih =>
    unfold findL at h
    split at h
    · cases h
    · rename_i hne
      simp only [List.map_cons, List.findIdx_cons, decide_eq_true_eq, hne, decide_false, cond_false, List.length_cons, ih h]
theorem findIdx_some {l : List (α × β)} {k : α} {v : β} (h : findL l k = some v) : l[(l.map (·.1)).findIdx (· = k)]? = some (k, v) ∧ putL l k v = l := by
  induction l with
  | nil => cases h
  | cons p r ih =>
    unfold findL at h
    split at h
    · rename_i he
      injection h with h
      subst he
      subst h
      simp [List.findIdx_cons, putL]
    · rename_i hne
      obtain ⟨h1, h2⟩ := ih h
      simp only [List.map_cons, List.findIdx_cons, hne, decide_false, cond_false, List.getElem?_cons_succ, putL, if_false, h1, h2, and_self]
theorem putL_none {l : List (α × β)} {k : α} {v : β} (h : findL l k = none) : putL l k v = l ++ [(k, v)] := by
  induction l with
  | nil => rfl
  | cons p r ih =>
    unfold findL at h
    split at h
    · cases h
    · rename_i hne
      simp [putL, hne, ih h]
theorem putL_some {l : List (α × β)} {k : α} {u v : β} (h : findL l k = some u) : putL l k v = l.set ((l.map (·.1)).findIdx (· = k)) (k, v) := by
  induction l with
  | nil => cases h
  | cons p r ih =>
    unfold findL at h
    split at h
    · rename_i he
      subst he
      simp [putL, List.findIdx_cons]
    · rename_i hne
      simp [putL, hne, List.findIdx_cons, ih h]
theorem IsM.of_heap {enc : α → Value} {encv : β → Value} {w w' : World} {r : Nat} {l : List (α × β)} (h : IsM enc encv w r l) (he : w'.heap[r]? = w.heap[r]?) : IsM enc encv w' r l := by
  obtain ⟨es, clock, hb, hl⟩ := h
  exact ⟨es, clock, he.trans hb, hl⟩
theorem IsM.lt {enc : α → Value} {encv : β → Value} {w : World} {r : Nat} {l : List (α × β)} (h : IsM enc encv w r l) : r < w.heap.size := by
  obtain ⟨es, clock, hb, hl⟩ := h
  exact (Array.getElem?_eq_some_iff.1 hb).1
theorem IsM.below {enc : α → Value} {encv : β → Value} {w w' : World} {r : Nat} {l : List (α × β)} (h : IsM enc encv w r l) (hb : Below w.heap.size w w') : IsM enc encv w' r l :=
  h.of_heap (hb.block r h.lt)
theorem IsM.setCell {enc : α → Value} {encv : β → Value} {w : World} {r : Nat} {l : List (α × β)} (h : IsM enc encv w r l) (p : Addr) (u : Value) : IsM enc encv (w.setCell p u) r l := by
  obtain ⟨es, clock, hb, hl⟩ := h
  refine ⟨es, clock, ?_, hl⟩
  simp only [World.setCell, Array.getElem?_modify]
  split
  · rename_i e
    subst e
    simp [hb]
  · exact hb
theorem run_findKey_is {P : Program} {K : TypeId} {enc : α → Value} {encv : β → Value} (hK : KeyOk P K enc) {es : Array MapEntry} {l : List (α × β)} (hl : es.toList.map (fun e => (e.key, e.val)) = l.map fun p => (enc p.1, encv p.2)) (k : α) (w : World) :
    (Instr.findKey K (enc k) es.toList).run P w = .ok ((findL l k).map fun v => ((l.map (·.1)).findIdx (· = k), encv v)) w := by
  have hk : es.toList.map (·.key) = (l.map (·.1)).map enc := by
    have := congrArg (List.map Prod.fst) hl
    simpa [List.map_map, Function.comp_def] using this
  have hv : es.toList.map (·.val) = l.map fun p => encv p.2 := by
    have := congrArg (List.map Prod.snd) hl
    simpa [List.map_map, Function.comp_def] using this
  rw [hK.find k es.toList (l.map (·.1)) w hk]
  congr 1
  cases hf : findL l k with
  | none =>
    have hlen : es.toList.length = l.length := by simpa using congrArg List.length hl
    rw [findIdx_none hf, List.getElem?_eq_none (by omega)]
    rfl
  | some v =>
    obtain ⟨h1, _⟩ := findIdx_some hf
    have h2 : (es.toList.map (·.val))[(l.map (·.1)).findIdx (· = k)]? = some (encv v) := by
      rw [hv, List.getElem?_map, h1]
      rfl
    rw [List.getElem?_map] at h2
    cases he : es.toList[(l.map (·.1)).findIdx (· = k)]? with
    | none => rw [he] at h2; cases h2
    | some e =>
      rw [he] at h2
      simp only [Option.map_some, Option.some.injEq] at h2 ⊢
      rw [h2]
theorem run_lookup_is {P : Program} {t K E : TypeId} {enc : α → Value} {encv : β → Value} (hu : P.underlying t = some (.map K E)) {z : β} (hz : ∀ w, (zeroValue E).run P w = .ok (encv z) w) (hK : KeyOk P K enc) {w : World} {r : Nat} {l : List (α × β)} (h : IsM enc encv w r l) (k : α) (b : Bool) :
    (Instr.lookup t (.map (some r)) (enc k) b).run P w = .ok (if b then .tuple #[encv ((findL l k).getD z), .bool (findL l k).isSome] else encv ((findL l k).getD z)) w := by
  obtain ⟨es, clock, hb, hl⟩ := h
  unfold Instr.lookup
  simp only [Sem.run_bind, run_underlying hu, Result.andThen, getObj, Sem.run, hb, Sem.run_pure, hK.check, run_findKey_is hK hl]
  cases hf : findL l k with
  | none => simp [hz, Result.andThen]
  | some v => simp [Result.andThen]
theorem run_update_is {P : Program} {t K E : TypeId} {enc : α → Value} {encv : β → Value} (hu : P.underlying t = some (.map K E)) (hK : KeyOk P K enc) {w : World} {r : Nat} {l : List (α × β)} (h : IsM enc encv w r l) (k : α) (v : β) :
    ∃ o, (Instr.mapUpdate t (.map (some r)) (enc k) (encv v)).run P w = .ok () (putObj w r o) ∧ IsM enc encv (putObj w r o) r (putL l k v) := by
  obtain ⟨es, clock, hb, hl⟩ := h
  have hlen : es.toList.length = l.length := by simpa using congrArg List.length hl
  cases hf : findL l k with
  | none =>
    refine ⟨.map (es.push { key := enc k, val := encv v, born := clock }) (clock + 1), ?_, _, _, putObj_at hb, ?_⟩
    · unfold Instr.mapUpdate
      simp only [Sem.run_bind, run_underlying hu, Result.andThen, getObj, Sem.run, hb, Sem.run_pure, hK.check, run_findKey_is hK hl, hf, Option.map_none]
      exact Go.MapKept.run_setObj_map _ hb
    · rw [putL_none hf]
      simp [hl]
  | some u =>
    obtain ⟨h1, _⟩ := findIdx_some hf
    have hidx : (l.map (·.1)).findIdx (· = k) < es.size := by
      have := (List.getElem?_eq_some_iff.1 h1).1
      have h2 : es.size = es.toList.length := rfl
      omega
    have hkey : ((es[(l.map (·.1)).findIdx (· = k)]?).map (·.key)).getD (enc k) = enc k := by
      have h3 : (es.toList.map fun e => (e.key, e.val))[(l.map (·.1)).findIdx (· = k)]? = some (enc k, encv u) := by
        rw [hl, List.getElem?_map, h1]
        rfl
      rw [List.getElem?_map] at h3
      rw [← Array.getElem?_toList]
      cases he : es.toList[(l.map (·.1)).findIdx (· = k)]? with
      | none => rw [he] at h3; cases h3
      | some e =>
        rw [he] at h3
        simp only [Option.map_some, Option.some.injEq, Prod.mk.injEq] at h3
        simp [h3.1]
    refine ⟨.map (es.modify ((l.map (·.1)).findIdx (· = k)) fun e => { e with key := enc k, val := encv v }) clock, ?_, _, _, putObj_at hb, ?_⟩
    · unfold Instr.mapUpdate
      simp only [Sem.run_bind, run_underlying hu, Result.andThen, getObj, Sem.run, hb, Sem.run_pure, hK.check, run_findKey_is hK hl, hf, Option.map_some, hkey, hK.stays]
      exact Go.MapKept.run_setObj_map _ hb
    · rw [putL_some hf, List.map_set, ← hl]
      clear hkey hlen hl h1
      generalize (l.map (·.1)).findIdx (· = k) = ix at hidx ⊢
      simp only [Array.toList_modify]
      apply List.ext_getElem?
      intro j
      simp only [List.getElem?_map, List.getElem?_modify, List.getElem?_set]
      by_cases hj : ix = j
      · subst hj
        have : es.toList[ix]? = some (es.toList[ix]'(by simpa using hidx)) := List.getElem?_eq_getElem _
        rw [this]
        simp [hidx]
      · simp [hj]
omit [DecidableEq α] in
theorem IsM.mk' {enc : α → Value} {encv : β → Value} {w : World} {r : Nat} {l : List (α × β)} {es clock} (hb : w.heap[r]? = some (.map es clock)) (hl : es.toList.map (fun e => (e.key, e.val)) = l.map fun p => (enc p.1, encv p.2)) : IsM enc encv w r l := ⟨es, clock, hb, hl⟩
end
section
variable {P : Program} {ops : Array Oper} {rest : List Oper} {o : Oper} {a : Act} {Q : Exit → Act → World → Prop} {W : World} {α β : Type} [DecidableEq α] {enc : α → Value} {encv : β → Value}
theorem gate_op {op : Op} (_ho : o.op = op) (h : wpList P ops Q (o :: rest) a W) : wpList P ops Q (o :: rest) a W := h
theorem map_make_event (hgd : o.guard = none) (t : TypeId) (ho : o.op = .makeMap t none)
    (h : ∀ r w1, r = W.heap.size → w1.heap[r]? = some (.map #[] 0) → Below W.heap.size W w1 → wpList P ops Q rest (a.put o.dst (.map (some r))) w1) : wpList P ops Q (o :: rest) a W := by
  refine Kd.event_run hgd (w1 := W.alloc (.map #[] 0)) (v := .map (some W.heap.size)) ?_ (h _ _ rfl (Go.MapKept.heap_alloc W _).1 (below_alloc (Below.refl _ _) _))
  unfold execOp
  simp only [ho, Option.map_none]
  rfl
end
end Go.Proofs.YtpfenoioeajkmaaDoor.X
end

section
set_option linter.unusedVariables false
set_option linter.unusedSimpArgs false
namespace Go.Proofs.YtpfenoioeajkmaaDoor.X
open Go.RowKit Go.Proofs.YtpfenoioeajkmaaDoorW.PrintWords Go.Proofs.YtpfenoioeajkmaaDoorW.PrintLast Go.Proofs.YtpfenoioeajkmaaDoorW.PrintMore
def pairV (p : Int × Int) : Value := .agg #[.int .i64 p.1, .int .i64 p.2]
theorem pair_eq (a b c d : Int) (w : World) : (Op.equalIn 10000 63 (.agg #[.int .i64 a, .int .i64 b]) (.agg #[.int .i64 c, .int .i64 d])).run Tryd.prog w = .ok (a == c && b == d) w := by
  have u3 := Tryd.underlying3
  have a3 := Tryd.isAgg3
  have z3 := Tryd.sizeOf3
  rw [show (10000 : Nat) = 9999 + 1 from rfl, Op.equalIn]
  simp only [Sem.run_bind, run_underlying Tryd.underlying63, Result.andThen_ok]
  simp only [Std.Legacy.Range.forIn_eq_forIn_range', Std.Legacy.Range.size, Nat.sub_zero, Nat.add_sub_cancel, Nat.div_one, List.range'_succ, List.range'_zero, List.forIn_cons, List.forIn_nil]
  go_simp
  by_cases h1 : a = c <;> by_cases h2 : b = d <;> simp [h1, h2]
theorem pair_check (em : Bool) (p : Int × Int) (w : World) : (Instr.checkKey em 10000 63 (pairV p)).run Tryd.prog w = .ok () w := by
  have u3 := Tryd.underlying3
  have a3 := Tryd.isAgg3
  have z3 := Tryd.sizeOf3
  unfold pairV
  rw [show (10000 : Nat) = 9998 + 1 + 1 from rfl, Instr.checkKey]
  simp only [Sem.run_bind, run_underlying Tryd.underlying63, Result.andThen_ok]
  simp only [Std.Legacy.Range.forIn_eq_forIn_range', Std.Legacy.Range.size, Nat.sub_zero, Nat.add_sub_cancel, Nat.div_one, List.range'_succ, List.range'_zero, List.forIn_cons, List.forIn_nil]
  have hk : ∀ (a : Int) w, (Instr.checkKey em (9998 + 1) 3 (.int .i64 a)).run Tryd.prog w = .ok () w := fun a w => Go.MapKept.run_checkKey u3 (show Go.MapKept.IsKey (.int .i64) (.int .i64 a) from rfl) em 9998
  go_simp
theorem pair_find (k : Int × Int) : ∀ (es : List MapEntry) (l : List (Int × Int)) (i : Nat) (w : World), es.map (·.key) = l.map pairV → (Instr.findAsking 63 (pairV k) es i).run Tryd.prog w = .ok ((es[l.findIdx (· = k)]?).map fun e => (i + l.findIdx (· = k), e.val)) w
  | [], [], i, w, _ => by simp [Instr.findAsking]
  | [], _ :: _, i, w, h => by simp at h
  | _ :: _, [], i, w, h => by simp at h
  | e :: es, a :: l, i, w, h => by
    simp only [List.map_cons, List.cons.injEq] at h
    have he := pair_eq k.1 k.2 a.1 a.2 w
    have ih := pair_find k es l (i + 1) w h.2
    unfold Instr.findAsking
    rw [Sem.run_bind, h.1]
    show ((Op.equalIn 10000 63 (pairV k) (pairV a)).run Tryd.prog w).andThen _ = _
    unfold pairV at he ⊢
    rw [he]
    by_cases hk : a = k
    · subst hk
      simp [List.findIdx_cons]
    · have hb : (k.1 == a.1 && k.2 == a.2) = false := by
        rw [Bool.eq_false_iff]
        intro hb
        rw [Bool.and_eq_true, beq_iff_eq, beq_iff_eq] at hb
        exact hk (Prod.ext hb.1.symm hb.2.symm)
      rw [hb]
      unfold pairV at ih
      simp only [Result.andThen_ok, Bool.false_eq_true, if_false, ih, List.findIdx_cons, hk, decide_false, cond_false, List.getElem?_cons_succ]
      cases es[l.findIdx (· = k)]? with
      | none => rfl
      | some x =>
        simp only [Option.map_some]
        rw [show i + 1 + l.findIdx (· = k) = i + (l.findIdx (· = k) + 1) by omega]
theorem pair_find0 (k : Int × Int) (es : List MapEntry) (l : List (Int × Int)) (w : World) (h : es.map (·.key) = l.map pairV) : (Instr.findKey 63 (pairV k) es).run Tryd.prog w = .ok ((es[l.findIdx (· = k)]?).map fun e => (l.findIdx (· = k), e.val)) w := by
  cases es with
  | nil =>
    cases l with
    | nil => simp [Instr.findKey, run_underlying Tryd.underlying63, Instr.findNow]
    | cons a l => simp at h
  | cons e es =>
    have hf := pair_find k (e :: es) l 0 w h
    have hn : Instr.findNow (.array 2 3) (pairV k) (e :: es) 0 = none := by
      unfold Instr.findNow
      rfl
    simp only [Instr.findKey, Sem.run_bind, run_underlying Tryd.underlying63, Result.andThen_ok, hn]
    rw [hf]
    simp
theorem keyOk_pair : KeyOk Tryd.prog 63 pairV where
  inj := fun a b h => by
    unfold pairV at h
    simp only [Value.agg.injEq, Array.mk.injEq, List.cons.injEq, Value.int.injEq, true_and, and_true] at h
    exact Prod.ext h.1 h.2
  check := fun b k w => pair_check b k w
  find := fun k es l w h => pair_find0 k es l w h
  stays := fun k w => by simp [Instr.keyThatStays, Instr.sameBits, pairV]
end Go.Proofs.YtpfenoioeajkmaaDoor.X
end

section
set_option linter.unusedVariables false
set_option linter.unusedSimpArgs false
namespace Go.Proofs.YtpfenoioeajkmaaDoor.X
open Go.RowKit Go.Proofs.YtpfenoioeajkmaaDoorW.PrintWords Go.Proofs.YtpfenoioeajkmaaDoorW.PrintLast Go.Proofs.YtpfenoioeajkmaaDoorW.PrintMore
theorem run_next_at {P : Program} {W : World} {r pos : Nat} {s : ByteArray} (hb : W.heap[r]? = some (.stringIter s pos)) (h : pos < s.size) (ha : (s[pos]'h).toNat < 128) (ty : TypeId) :
    (Instr.next (.pointer (some ⟨r, 0, none⟩)) true ty).run P W = .ok (.tuple #[.bool true, .int .i64 pos, .int .i32 (s[pos]'h).toNat]) (putObj W r (.stringIter s (pos + 1))) := by
  simp only [Instr.next, getObj, setObj, Sem.run_bind, Sem.run, hb, Result.andThen, h, if_true, decode_ascii s pos h ha]
  simp [goInt, Sem.run, hb, putObj]
theorem run_next_over {P : Program} {W : World} {r pos : Nat} {s : ByteArray} (hb : W.heap[r]? = some (.stringIter s pos)) (h : ¬ pos < s.size) (ty : TypeId) :
    (Instr.next (.pointer (some ⟨r, 0, none⟩)) true ty).run P W = .ok (.tuple #[.bool false]) W := by
  simp [Instr.next, getObj, Sem.run, hb, h]
theorem bt_ext (s : ByteArray) (k i : Nat) (hi : i < k) (hk : k ≤ s.size) : bt (s.extract 0 k) (i : Int) = bt s i := by
  have h1 : i < (s.extract 0 k).size := by rw [ByteArray.size_extract]; omega
  rw [← bt_at (s.extract 0 k) i (by simpa using h1), ← bt_at s i (by simp; omega)]
  simp [ByteArray.getElem_extract]
theorem sumx_ext (s : ByteArray) (k : Nat) (hk : k ≤ s.size) : ∀ j, j ≤ k → sumx (s.extract 0 k) j = sumx s j
  | 0, _ => rfl
  | j + 1, hj => by rw [sumx, sumx, sumx_ext s k hk j (by omega), bt_ext s k j (by omega) hk]
theorem sumy_ext (s : ByteArray) (k : Nat) (hk : k ≤ s.size) : ∀ j, j ≤ k → sumy (s.extract 0 k) j = sumy s j
  | 0, _ => rfl
  | j + 1, hj => by rw [sumy, sumy, sumy_ext s k hk j (by omega), bt_ext s k j (by omega) hk]
def pts (s : ByteArray) (k : Nat) : List (Int × Int) := (List.range k).map fun i => (sumx s i, sumy s i)
theorem pts_succ (s : ByteArray) (k : Nat) : pts s (k + 1) = pts s k ++ [(sumx s k, sumy s k)] := by simp [pts, List.range_succ]
theorem pts_nodup {s : ByteArray} {k : Nat} (h : (pts s k).Nodup) (hm : (sumx s k, sumy s k) ∉ pts s k) : (pts s (k + 1)).Nodup := by
  rw [pts_succ, List.nodup_append]
  refine ⟨h, by simp, fun a ha b hb e => ?_⟩
  simp at hb
  rw [e, hb] at ha
  exact hm ha
theorem pts_less {s : ByteArray} : ∀ d m, (pts s (m + d)).Nodup → (pts s m).Nodup
  | 0, m, h => h
  | d + 1, m, h => by
    rw [← Nat.add_assoc, pts_succ, List.nodup_append] at h
    exact pts_less d m h.1
theorem pts_twice {s : ByteArray} {k n : Nat} (hk : k + 1 ≤ n) (hm : (sumx s k, sumy s k) ∈ pts s k) : ¬ (pts s n).Nodup := fun h => by
  have h1 := pts_less (n - (k + 1)) (k + 1) (s := s) (by rw [show k + 1 + (n - (k + 1)) = n by omega]; exact h)
  rw [pts_succ, List.nodup_append] at h1
  exact h1.2.2 _ hm _ (List.mem_singleton_self _) rfl
def seen (s : ByteArray) (k : Nat) : List ((Int × Int) × Bool) := (pts s k).map fun p => (p, true)
theorem find_seen (l : List (Int × Int)) (p : Int × Int) : findL (l.map fun p => (p, true)) p = if p ∈ l then some true else none := by
  induction l with
  | nil => rfl
  | cons a l ih =>
    rw [List.map_cons, findL]
    by_cases h : a = p
    · simp [h]
    · rw [if_neg h, ih]
      have : ¬ p = a := fun e => h e.symm
      simp [this]
def isO (s : ByteArray) : Bool := isW s && (decide (4 ≤ s.size) && (decide (sumx s s.size = 0 ∧ sumy s s.size = 0) && (decide (0 < dbl s s.size) && decide (pts s s.size).Nodup)))
theorem isW_ascii {s : ByteArray} (h : isW s = true) {i : Nat} (hi : i < s.size) : (s[i]'hi).toNat < 128 := by
  unfold isW at h
  rw [Bool.and_eq_true, List.all_eq_true] at h
  have hm : s[i]'hi ∈ s.data.toList := by
    have : s[i]'hi = s.data.toList[i]'(by rw [data_length]; exact hi) := rfl
    rw [this]
    exact List.getElem_mem _
  have := h.2 _ hm
  unfold lets at this
  simp at this
  rcases this with e | e | e | e <;> rw [e] <;> decide
structure IsS (w1 : World) (G : Nat) (s : ByteArray) (k : Nat) (wr : World) : Prop where
  map : IsM pairV Value.bool wr w1.heap.size (seen s k)
  it : wr.heap[G]? = some (.stringIter s k)
  bl : Below w1.heap.size w1 wr
  nd : (pts s k).Nodup
  gt : w1.heap.size < G
theorem IsS.lt {w1 : World} {G : Nat} {s : ByteArray} {k : Nat} {wr : World} (h : IsS w1 G s k wr) : G < wr.heap.size := (Array.getElem?_eq_some_iff.1 h.it).1
theorem IsS.later {w1 : World} {G : Nat} {s : ByteArray} {k : Nat} {wr w2 : World} (h : IsS w1 G s k wr) (hb : Below wr.heap.size wr w2) : IsS w1 G s k w2 :=
  ⟨h.map.below hb, (hb.block G h.lt).trans h.it, h.bl.trans (hb.mono h.bl.size), h.nd, h.gt⟩
structure IsT (w1 : World) (G : Nat) (s : ByteArray) (k : Nat) (wr : World) : Prop where
  map : IsM pairV Value.bool wr w1.heap.size (seen s k)
  it : wr.heap[G]? = some (.stringIter s (k + 1))
  bl : Below w1.heap.size w1 wr
  nd : (pts s k).Nodup
  gt : w1.heap.size < G
theorem IsT.lt {w1 : World} {G : Nat} {s : ByteArray} {k : Nat} {wr : World} (h : IsT w1 G s k wr) : G < wr.heap.size := (Array.getElem?_eq_some_iff.1 h.it).1
theorem IsT.later {w1 : World} {G : Nat} {s : ByteArray} {k : Nat} {wr w2 : World} (h : IsT w1 G s k wr) (hb : Below wr.heap.size wr w2) : IsT w1 G s k w2 :=
  ⟨h.map.below hb, (hb.block G h.lt).trans h.it, h.bl.trans (hb.mono h.bl.size), h.nd, h.gt⟩
theorem IsT.set {w1 : World} {G : Nat} {s : ByteArray} {k : Nat} {wr : World} (h : IsT w1 G s k wr) {g i : Nat} (hg : G < g) (u : Value) : IsT w1 G s k (wr.setCell ⟨g, i, none⟩ u) :=
  ⟨h.map.setCell _ _, (Below.heap_setCell wr ⟨g, i, none⟩ u G (show G ≠ g by omega)).trans h.it, h.bl.setCell (show w1.heap.size ≤ g from by have := h.gt; omega) _, h.nd, h.gt⟩
theorem IsS.next {w1 : World} {G : Nat} {s : ByteArray} {k : Nat} {wr : World} (h : IsS w1 G s k wr) : IsT w1 G s k (putObj wr G (.stringIter s (k + 1))) :=
  ⟨h.map.of_heap ((putObj_keep wr G _).2 _ h.map.lt (by have := h.gt; omega) (by simp)), putObj_at h.it, putObj_below h.bl (by have := h.gt; omega) _, h.nd, h.gt⟩
set_option maxHeartbeats 2000000 in
set_option maxRecDepth 100000 in
theorem Is_not (s : ByteArray) (w : World) (hs : s.size ≤ 9223372036854775807) (h : isW s = false ∨ (isW s = true ∧ s.size < 4)) : Calls Tryd.prog 49 #[.string s] w fun e w' => e = .returned (.bool false) ∧ Below w.heap.size w w' := by
  have HW := Lib.hid (isWord_calls s w hs)
  rcases h with h | ⟨h, h4⟩
  · have HH := Lib.hid h
    clear h
    go_enter Tryd.func49, Tryd.ntmps49
    go_wp2_with fail
    refine HW.out.mono ?_
    rintro e w1 ⟨rfl, hb⟩
    rw [HH.out]
    have HB := Lib.hid hb
    clear hb
    go_wp2
    go_ret
    exact ⟨rfl, HB.out⟩
  · have HH := Lib.hid h
    clear h
    have h4' : (s.size : Int) < 4 := by omega
    go_enter Tryd.func49, Tryd.ntmps49
    go_wp2_with fail
    refine HW.out.mono ?_
    rintro e w1 ⟨rfl, hb⟩
    rw [HH.out]
    have HB := Lib.hid hb
    clear hb
    go_wp2
    go_ret
    exact ⟨rfl, HB.out⟩
set_option maxHeartbeats 2000000 in
set_option maxRecDepth 100000 in
theorem Is_open (s : ByteArray) (w : World) (hW : isW s = true) (h4 : 4 ≤ s.size) (h24 : s.size ≤ 24) (h : ¬ (sumx s s.size = 0 ∧ sumy s s.size = 0)) : Calls Tryd.prog 49 #[.string s] w fun e w' => e = .returned (.bool false) ∧ Below w.heap.size w w' := by
  have HW := Lib.hid (isWord_calls s w (by omega))
  have HH := Lib.hid hW
  have h4' : ¬ (s.size : Int) < 4 := by omega
  clear hW
  go_enter Tryd.func49, Tryd.ntmps49
  go_wp2_with fail
  refine HW.out.mono ?_
  rintro e w1 ⟨rfl, hb⟩
  rw [HH.out]
  have HB := Lib.hid hb
  clear hb
  go_wp2_with fail
  refine (walk_calls s _ (by omega)).mono ?_
  rintro e w2 ⟨rfl, hb2⟩
  have HB2 := Lib.hid (HB.out.trans (hb2.mono HB.out.size))
  have hm63 : Tryd.prog.eqGuardType Tryd.prog.depth 63 = false := by kernel_rfl
  have he := fun w => pair_eq (sumx s s.size) (sumy s s.size) 0 0 w
  have hz : (sumx s s.size == 0 && sumy s s.size == 0) = false := by
    rw [Bool.eq_false_iff]
    simp
    exact fun a b => h ⟨a, b⟩
  rw [hz] at he
  unfold ptV
  clear hb2 hz h
  go_wp2
  go_ret
  exact ⟨rfl, HB2.out⟩
set_option maxHeartbeats 2000000 in
set_option maxRecDepth 100000 in
theorem Is_flat (s : ByteArray) (w : World) (hW : isW s = true) (h4 : 4 ≤ s.size) (h24 : s.size ≤ 24) (h : sumx s s.size = 0 ∧ sumy s s.size = 0) (hd : dbl s s.size ≤ 0) : Calls Tryd.prog 49 #[.string s] w fun e w' => e = .returned (.bool false) ∧ Below w.heap.size w w' := by
  have HW := Lib.hid (isWord_calls s w (by omega))
  have HH := Lib.hid hW
  have h4' : ¬ (s.size : Int) < 4 := by omega
  clear hW
  go_enter Tryd.func49, Tryd.ntmps49
  go_wp2_with fail
  refine HW.out.mono ?_
  rintro e w1 ⟨rfl, hb⟩
  rw [HH.out]
  have HB := Lib.hid hb
  clear hb
  go_wp2_with fail
  refine (walk_calls s _ (by omega)).mono ?_
  rintro e w2 ⟨rfl, hb2⟩
  have HB2 := Lib.hid (HB.out.trans (hb2.mono HB.out.size))
  have hm63 : Tryd.prog.eqGuardType Tryd.prog.depth 63 = false := by kernel_rfl
  have he := fun w => pair_eq (sumx s s.size) (sumy s s.size) 0 0 w
  have hz : (sumx s s.size == 0 && sumy s s.size == 0) = true := by rw [h.1, h.2]; rfl
  rw [hz] at he
  unfold ptV
  clear hb2 hz h
  go_wp2_with fail
  refine (double_calls s _ (by omega)).mono ?_
  rintro e w3 ⟨rfl, hb3⟩
  have HB3 := Lib.hid (HB2.out.trans (hb3.mono HB2.out.size))
  clear hb3 he hm63
  go_wp2
  go_ret
  exact ⟨rfl, HB3.out⟩
set_option maxHeartbeats 2000000 in
set_option maxRecDepth 100000 in
theorem Is_loop (s : ByteArray) (w : World) (hW : isW s = true) (h4 : 4 ≤ s.size) (h24 : s.size ≤ 24) (h : sumx s s.size = 0 ∧ sumy s s.size = 0) (hd : 0 < dbl s s.size) : Calls Tryd.prog 49 #[.string s] w fun e w' => e = .returned (.bool (decide (pts s s.size).Nodup)) ∧ Below w.heap.size w w' := by
  have HW := Lib.hid (isWord_calls s w (by omega))
  have HH := Lib.hid hW
  have h4' : ¬ (s.size : Int) < 4 := by omega
  have hd' : ¬ dbl s s.size ≤ 0 := by omega
  clear hW
  go_enter Tryd.func49, Tryd.ntmps49
  go_wp2_with fail
  refine HW.out.mono ?_
  rintro e w1 ⟨rfl, hb⟩
  rw [HH.out]
  have HB := Lib.hid hb
  clear hb
  go_wp2_with fail
  refine (walk_calls s _ (by omega)).mono ?_
  rintro e w2 ⟨rfl, hb2⟩
  have HB2 := Lib.hid (HB.out.trans (hb2.mono HB.out.size))
  have hm63 : Tryd.prog.eqGuardType Tryd.prog.depth 63 = false := by kernel_rfl
  have he := fun w => pair_eq (sumx s s.size) (sumy s s.size) 0 0 w
  have hz : (sumx s s.size == 0 && sumy s s.size == 0) = true := by rw [h.1, h.2]; rfl
  rw [hz] at he
  unfold ptV
  clear hb2 hz h
  go_wp2_with fail
  refine (double_calls s _ (by omega)).mono ?_
  rintro e w3 ⟨rfl, hb3⟩
  have HB3 := Lib.hid (HB2.out.trans (hb3.mono HB2.out.size))
  clear hb3 he hm63 HB HB2 HW
  go_wp2_with (first | ((with_reducible refine gate_op (op := .makeMap 92 none) rfl ?_); refine map_make_event rfl 92 rfl ?_; intro r0 wm hr0 hm hb; have HM := Lib.hid (IsM.mk' (enc := pairV) (encv := Value.bool) (l := []) hm rfl); have HB4 := Lib.hid hb; have HZ := Lib.hid hr0; clear hm hb hr0) | fail)
  have hst : IsS w3 wm.heap.size s 0 (wm.iter s 0) := by
    have hl : (wm.iter s 0).heap[wm.heap.size]? = some (.stringIter s 0) := World.iter_heap wm s 0
    have hbl : Below wm.heap.size wm (wm.iter s 0) := (Below.refl _ _).alloc (Nat.le_refl _) _
    have hlt := HM.out.lt
    rw [HZ.out] at hlt
    exact ⟨HZ.out ▸ HM.out.below hbl, hl, HB4.out.trans (hbl.mono HB4.out.size), by simp [pts], hlt⟩
  rw [HZ.out] at *
  generalize hG : wm.heap.size = G at hst ⊢
  generalize wm.iter s 0 = w5 at hst ⊢
  have HS := Lib.hid hst
  clear hst HM HB4 hG HZ
  go_loopw [4] (fun _ wr => ∃ k : Nat, k ≤ s.size ∧ Hid (IsS w3 G s k wr)) (fun _ wr => match wr.heap[G]? with | some (.stringIter _ p) => s.size - p | _ => 0)
  case atStart => exact ⟨0, by omega, HS⟩
  case round =>
    clear HS
    obtain ⟨k, hk, HS⟩ := hrel
    by_cases hlt : k < s.size
    · have hnx := fun ty => run_next_at (P := Tryd.prog) HS.out.it hlt (isW_ascii HH.out hlt) ty
      go_wp2_with fail
      have HT := Lib.hid HS.out.next
      have HIT := Lib.hid HS.out.it
      clear HS hnx
      generalize putObj wr G (.stringIter s (k + 1)) = w6 at HT ⊢
      have hek : (s.extract 0 k).size = k := by rw [ByteArray.size_extract]; omega
      refine (walk_calls (s.extract 0 k) w6 (by omega)).mono ?_
      rintro e w7 ⟨rfl, hb7⟩
      have HT7 := Lib.hid (HT.out.later hb7)
      clear hb7 HT
      rw [hek, sumx_ext s k hk k (Nat.le_refl _), sumy_ext s k hk k (Nat.le_refl _)]
      unfold ptV
      have HT8 := Lib.hid (HT7.out.later (below_one (.cells #[.int .i64 (sumx s k), .int .i64 (sumy s k)] 63)))
      clear HT7
      have hlk := run_lookup_is (P := Tryd.prog) Tryd.underlying92 (z := false) (fun w => by kernel_rfl) keyOk_pair HT8.out.map (sumx s k, sumy s k) false
      simp only [seen, find_seen, pairV, Bool.false_eq_true, if_false] at hlk
      by_cases hm : (sumx s k, sumy s k) ∈ pts s k
      · rw [if_pos hm] at hlk
        simp only [Option.getD_some] at hlk
        have HE := Lib.hid hm
        clear hm
        go_wp2
        go_ret
        refine ⟨?_, HB3.out.trans (HT8.out.bl.mono HB3.out.size)⟩
        rw [decide_eq_false (pts_twice (show k + 1 ≤ s.size by omega) HE.out)]
        rfl
      · rw [if_neg hm] at hlk
        simp only [Option.getD_none] at hlk
        have HE := Lib.hid hm
        clear hm
        obtain ⟨o, hup, hmm⟩ := run_update_is (P := Tryd.prog) Tryd.underlying92 keyOk_pair HT8.out.map (sumx s k, sumy s k) true
        simp only [pairV] at hup
        have HM := Lib.hid hmm
        clear hmm
        go_wp2_with fail
        have hit : (putObj (w7.alloc (Obj.cells #[Value.int IntKind.i64 (sumx s k), Value.int IntKind.i64 (sumy s k)] 63)) w3.heap.size o).heap[G]? = some (.stringIter s (k + 1)) :=
          ((putObj_keep _ w3.heap.size o).2 G HT8.out.lt (by have := HT8.out.gt; omega) (by simp)).trans HT8.out.it
        refine ⟨⟨k + 1, by omega, Lib.hid ⟨?_, hit, putObj_below HT8.out.bl (Nat.le_refl _) _, ?_, HT8.out.gt⟩⟩, ?_⟩
        · have e : seen s (k + 1) = putL (seen s k) (sumx s k, sumy s k) true := by
            rw [putL_none (by rw [seen, find_seen, if_neg HE.out]), seen, pts_succ, List.map_append]
            rfl
          rw [e]
          exact HM.out
        · exact pts_nodup HT8.out.nd HE.out
        · rw [hit, HIT.out]
          show s.size - (k + 1) < s.size - k
          omega
    · obtain rfl : k = s.size := by omega
      have hnx := fun ty => run_next_over (P := Tryd.prog) HS.out.it hlt ty
      go_wp2
      go_ret
      exact ⟨by rw [decide_eq_true HS.out.nd]; rfl, HB3.out.trans (HS.out.bl.mono HB3.out.size)⟩
theorem isW_le {s : ByteArray} (h : isW s = true) : s.size ≤ 24 := by
  unfold isW at h
  rw [Bool.and_eq_true, decide_eq_true_eq] at h
  exact h.1
def moulds_Is.f (s : ByteArray) : Option Bool := if s.size ≤ 1000 then some (isO s) else none
theorem moulds_Is.calls (a0 : ByteArray) (r : Bool) (w : World) (h : moulds_Is.f a0 = some r) : Calls Tryd.prog 49 #[.string a0] w fun e w' => e = .returned (.bool r) ∧ Below w.heap.size w w' := by
  unfold moulds_Is.f at h
  split at h
  · rename_i hs
    injection h with h
    subst h
    unfold isO
    cases hW : isW a0 with
    | false => exact Is_not a0 w (by omega) (.inl hW)
    | true =>
      have h24 := isW_le hW
      by_cases h4 : 4 ≤ a0.size
      · by_cases hz : sumx a0 a0.size = 0 ∧ sumy a0 a0.size = 0
        · by_cases hd : 0 < dbl a0 a0.size
          · have := Is_loop a0 w hW h4 h24 hz hd
            rw [decide_eq_true h4, decide_eq_true hz, decide_eq_true hd]
            simpa using this
          · have := Is_flat a0 w hW h4 h24 hz (by omega)
            rw [decide_eq_false hd]
            simpa using this
        · have := Is_open a0 w hW h4 h24 hz
          rw [decide_eq_false hz]
          simpa using this
      · have := Is_not a0 w (by omega) (.inr ⟨hW, by omega⟩)
        rw [decide_eq_false h4]
        simpa using this
  · cases h
def moulds_double.f (s : ByteArray) : Option Int := if s.size ≤ 999 then some (dbl s s.size) else none
theorem moulds_double.calls (a0 : ByteArray) (r : Int) (w : World) (h : moulds_double.f a0 = some r) : Calls Tryd.prog 61 #[.string a0] w fun e w' => e = .returned (.int .i64 r) ∧ Below w.heap.size w w' := by
  unfold moulds_double.f at h
  split at h
  · rename_i hs
    injection h with h
    subst h
    exact double_calls a0 w hs
  · cases h
end Go.Proofs.YtpfenoioeajkmaaDoor.X
end

section
set_option linter.unusedVariables false
set_option linter.unusedSimpArgs false
namespace Go.Proofs.YtpfenoioeajkmaaDoor.X
open Go.RowKit Go.Proofs.YtpfenoioeajkmaaDoorW.PrintWords Go.Proofs.YtpfenoioeajkmaaDoorW.PrintLast Go.Proofs.YtpfenoioeajkmaaDoorW.PrintMore
structure Buf (w : World) (b n : Nat) (f : Nat → Int) : Prop where
  c : ∀ i : Nat, i < n → w.cell? ⟨b, i, none⟩ = some (.int .u8 (f i))
  z : ∀ i : Nat, i < n → w.frozen? ⟨b, i, none⟩ = false
theorem Buf.congr {w : World} {b n : Nat} {f g : Nat → Int} (h : Buf w b n f) (e : ∀ i, i < n → f i = g i) : Buf w b n g :=
  ⟨fun i hi => by rw [← e i hi]; exact h.c i hi, h.z⟩
theorem Buf.later {w w' : World} {b n : Nat} {f : Nat → Int} (h : Buf w b n f) (hn : 0 < n) (hb : Below w.heap.size w w') : Buf w' b n f := by
  have hlt := World.block_lt_of_cell? w _ (h.c 0 hn)
  exact ⟨fun i hi => (hb.cell (p := ⟨b, i, none⟩) hlt).trans (h.c i hi), fun i hi => (hb.frozen (p := ⟨b, i, none⟩) hlt).trans (h.z i hi)⟩
theorem Buf.put {w : World} {b n : Nat} {f : Nat → Int} (h : Buf w b n f) {j : Nat} (hj : j < n) (v : Int) : Buf (w.setCell ⟨b, j, none⟩ (.int .u8 v)) b n (fun i => if i = j then v else f i) := by
  refine ⟨fun i hi => ?_, fun i hi => by simpa using h.z i hi⟩
  by_cases e : i = j
  · subst e
    rw [if_pos rfl]
    exact cell_set_self _ (h.c i hi)
  · rw [if_neg e]
    exact (cell_set_off _ (fun q => e q.symm)).trans (h.c i hi)
end Go.Proofs.YtpfenoioeajkmaaDoor.X
end

section
set_option linter.unusedVariables false
set_option linter.unusedSimpArgs false
namespace Go.Proofs.YtpfenoioeajkmaaDoor.X
open Go.RowKit Go.Proofs.YtpfenoioeajkmaaDoorW.PrintWords Go.Proofs.YtpfenoioeajkmaaDoorW.PrintLast Go.Proofs.YtpfenoioeajkmaaDoorW.PrintMore
def strN (n : Nat) (f : Nat → Int) : ByteArray := strOfNums ((List.range n).map f)
theorem strN_congr {n : Nat} {f g : Nat → Int} (h : ∀ i, i < n → f i = g i) : strN n f = strN n g := by
  unfold strN
  congr 1
  exact List.map_congr_left fun i hi => h i (List.mem_range.1 hi)
end Go.Proofs.YtpfenoioeajkmaaDoor.X
end

section
set_option linter.unusedVariables false
set_option linter.unusedSimpArgs false
namespace Go.Proofs.YtpfenoioeajkmaaDoor.X
open Go.RowKit Go.Proofs.YtpfenoioeajkmaaDoorW.PrintWords Go.Proofs.YtpfenoioeajkmaaDoorW.PrintLast Go.Proofs.YtpfenoioeajkmaaDoorW.PrintMore
def ascii (s : ByteArray) : Bool := s.data.toList.all fun c => decide (c.toNat < 128)
theorem ascii_at {s : ByteArray} (h : ascii s = true) {i : Nat} (hi : i < s.size) : (s[i]'hi).toNat < 128 := by
  unfold ascii at h
  rw [List.all_eq_true] at h
  have hm : s[i]'hi ∈ s.data.toList := by
    have : s[i]'hi = s.data.toList[i]'(by rw [data_length]; exact hi) := rfl
    rw [this]
    exact List.getElem_mem _
  exact of_decide_eq_true (h _ hm)
def rotF (s : ByteArray) (k : Nat) : ByteArray := s.extract k s.size ++ s.extract 0 k
def firstTo (s : ByteArray) : Nat → ByteArray
  | 0 => s
  | k + 1 => Lib.minS (firstTo s k) (rotF s k)
set_option maxHeartbeats 2000000 in
set_option maxRecDepth 100000 in
theorem first_calls (s : ByteArray) (w : World) (hs : s.size ≤ 1000) (ha : ascii s = true) :
    Calls Tryd.prog 55 #[.string s] w fun e w' => e = .returned (.string (firstTo s s.size)) ∧ Below w.heap.size w w' := by
  have HA := Lib.hid ha
  clear ha
  go_enter Tryd.func55, Tryd.ntmps55
  go_wp2_with fail
  have hit : (w.iter s 0).heap[w.heap.size]? = some (.stringIter s 0) := World.iter_heap w s 0
  have hbl : Below w.heap.size w (w.iter s 0) := (Below.refl _ _).alloc (Nat.le_refl _) _
  generalize w.iter s 0 = w1 at hit hbl ⊢
  have HI := Lib.hid hit
  have HB := Lib.hid hbl
  clear hit hbl
  go_loopw [3] (fun b wr => ∃ k : Nat, k ≤ s.size ∧ b = .string (firstTo s k) ∧ Hid (wr.heap[w.heap.size]? = some (.stringIter s k)) ∧ Hid (Below w.heap.size w wr)) (fun _ wr => match wr.heap[w.heap.size]? with | some (.stringIter _ p) => s.size - p | _ => 0)
  case atStart => exact ⟨0, by omega, rfl, HI, HB⟩
  case round =>
    clear HI HB
    obtain ⟨k, hk, rfl, HI, HB⟩ := hrel
    generalize hM : firstTo s k = m
    have HM := Lib.hid hM
    clear hM
    by_cases hlt : k < s.size
    · have hnx := fun ty => run_next_at (P := Tryd.prog) HI.out hlt (ascii_at HA.out hlt) ty
      go_wp2_with fail
      clear hnx
      have hmn := fun (w : World) => Lib.run_min_strs (P := Tryd.prog) w #[9, 9] 9 m (s.extract k s.size ++ s.extract 0 k)
      have hsz : (9223372036854775807 < s.size) = False := by simp; omega
      generalize hW : putObj wr w.heap.size (.stringIter s (k + 1)) = w2
      refine start_ (n := 10) (S := fun w' => True) (ds := []) #[false, false, false, false, false, false, false, false, false, false] (by kernel_rfl) rfl rfl trivial (fun hHeld => ?_)
      refine pure_ (i := 0) (N := (some 11)) (v := ?_) (a' := ?_) #[true, false, false, false, false, false, false, false, false, false] rfl rfl (by kernel_rfl) (fun _ _ _ h => h) (Or.inl ⟨by rfl, ?_⟩) ?_ ?_
      rotate_left
      · intro w'; go_simp; first | done | with_reducible rfl
      rotate_left
      · simp only [Act.put, List.setIfInBounds_toArray, List.set_cons_zero, List.set_cons_succ, i64_w, i32_w]; rfl
      refine pure_ (i := 1) (N := (some 12)) (v := ?_) (a' := ?_) #[true, true, false, false, false, false, false, false, false, false] rfl rfl (by kernel_rfl) (fun _ _ _ h => h) (Or.inl ⟨by rfl, ?_⟩) ?_ ?_
      rotate_left
      · intro w'; go_simp; first | done | with_reducible rfl
      rotate_left
      · simp only [Act.put, List.setIfInBounds_toArray, List.set_cons_zero, List.set_cons_succ, i64_w, i32_w]; rfl
      refine pure_ (i := 2) (N := (some 13)) (v := ?_) (a' := ?_) #[true, true, true, false, false, false, false, false, false, false] rfl rfl (by kernel_rfl) (fun _ _ _ h => h) (Or.inl ⟨by rfl, ?_⟩) ?_ ?_
      rotate_left
      · intro w'; go_simp; first | done | with_reducible rfl
      rotate_left
      · simp only [Act.put, List.setIfInBounds_toArray, List.set_cons_zero, List.set_cons_succ, i64_w, i32_w]; rfl
      refine pure_ (i := 3) (N := (some 14)) (v := ?_) (a' := ?_) #[true, true, true, true, false, false, false, false, false, false] rfl rfl (by kernel_rfl) (fun _ _ _ h => h) (Or.inl ⟨by rfl, ?_⟩) ?_ ?_
      rotate_left
      · intro w'; go_simp; first | done | with_reducible rfl
      rotate_left
      · simp only [Act.put, List.setIfInBounds_toArray, List.set_cons_zero, List.set_cons_succ, i64_w, i32_w]; rfl
      refine pure_ (i := 4) (N := (some 15)) (v := ?_) (a' := ?_) #[true, true, true, true, true, false, false, false, false, false] rfl rfl (by kernel_rfl) (fun _ _ _ h => h) (Or.inl ⟨by rfl, ?_⟩) ?_ ?_
      rotate_left
      · intro w'; go_simp; first | done | with_reducible rfl
      rotate_left
      · simp only [Act.put, List.setIfInBounds_toArray, List.set_cons_zero, List.set_cons_succ, i64_w, i32_w]; rfl
      refine pure_ (i := 5) (N := (some 16)) (v := ?_) (a' := ?_) #[true, true, true, true, true, true, false, false, false, false] rfl rfl (by kernel_rfl) (fun _ _ _ h => h) (Or.inl ⟨by rfl, ?_⟩) ?_ ?_
      rotate_left
      · intro w'; go_simp; first | done | with_reducible rfl
      rotate_left
      · simp only [Act.put, List.setIfInBounds_toArray, List.set_cons_zero, List.set_cons_succ, i64_w, i32_w]; rfl
      refine pure_ (i := 6) (N := (some 17)) (v := ?_) (a' := ?_) #[true, true, true, true, true, true, true, false, false, false] rfl rfl (by kernel_rfl) (fun _ _ _ h => h) (Or.inl ⟨by rfl, ?_⟩) ?_ ?_
      rotate_left
      · intro w'; go_simp; first | done | with_reducible rfl
      rotate_left
      · simp only [Act.put, List.setIfInBounds_toArray, List.set_cons_zero, List.set_cons_succ, i64_w, i32_w]; rfl
      refine pure_ (i := 7) (N := (some 18)) (v := ?_) (a' := ?_) #[true, true, true, true, true, true, true, true, false, false] rfl rfl (by kernel_rfl) (fun _ _ _ h => h) (Or.inl ⟨by rfl, ?_⟩) ?_ ?_
      rotate_left
      · intro w'; go_simp; first | done | with_reducible rfl
      rotate_left
      · simp only [Act.put, List.setIfInBounds_toArray, List.set_cons_zero, List.set_cons_succ, i64_w, i32_w]; rfl
      refine pure_ (i := 8) (N := (some 19)) (v := ?_) (a' := ?_) #[true, true, true, true, true, true, true, true, true, false] rfl rfl (by kernel_rfl) (fun _ _ _ h => h) (Or.inl ⟨by rfl, ?_⟩) ?_ ?_
      rotate_left
      · intro w'; go_simp; first | done | with_reducible rfl
      rotate_left
      · simp only [Act.put, List.setIfInBounds_toArray, List.set_cons_zero, List.set_cons_succ, i64_w, i32_w]; rfl
      refine pure_ (i := 9) (N := (some 3)) (v := ?_) (a' := ?_) #[true, true, true, true, true, true, true, true, true, true] rfl rfl (by kernel_rfl) (fun _ _ _ h => h) (Or.inl ⟨by rfl, ?_⟩) ?_ ?_
      rotate_left
      · intro w'; go_simp; first | done | with_reducible rfl
      rotate_left
      · simp only [Act.put, List.setIfInBounds_toArray, List.set_cons_zero, List.set_cons_succ, i64_w, i32_w]; rfl
      refine done_ (by kernel_rfl) ?_
      go_wp2_with fail
      subst hW
      have hit : (putObj wr w.heap.size (.stringIter s (k + 1))).heap[w.heap.size]? = some (.stringIter s (k + 1)) := putObj_at HI.out
      refine ⟨⟨k + 1, by omega, ?_, Lib.hid hit, Lib.hid (putObj_below HB.out (Nat.le_refl _) _).drew⟩, ?_⟩
      · rw [firstTo, HM.out]
        rfl
      · show (match (putObj wr w.heap.size (.stringIter s (k + 1))).heap[w.heap.size]? with | some (.stringIter _ p) => s.size - p | _ => 0) < _
        rw [hit, HI.out]
        show s.size - (k + 1) < s.size - k
        omega
    · obtain rfl : k = s.size := by omega
      have hnx := fun ty => run_next_over (P := Tryd.prog) HI.out hlt ty
      go_wp2
      go_ret
      exact ⟨by rw [HM.out]; rfl, HB.out⟩
def moulds_first.f (s : ByteArray) : Option ByteArray := if s.size ≤ 1000 ∧ ascii s = true then some (firstTo s s.size) else none
theorem moulds_first.calls (a0 : ByteArray) (r : ByteArray) (w : World) (h : moulds_first.f a0 = some r) : Calls Tryd.prog 55 #[.string a0] w fun e w' => e = .returned (.string r) ∧ Below w.heap.size w w' := by
  unfold moulds_first.f at h
  split at h
  · rename_i hs
    injection h with h
    subst h
    exact first_calls a0 w hs.1 hs.2
  · cases h
end Go.Proofs.YtpfenoioeajkmaaDoor.X
end

section
set_option linter.unusedVariables false
set_option linter.unusedSimpArgs false
namespace Go.Proofs.YtpfenoioeajkmaaDoor.X
open Go.RowKit Go.Proofs.YtpfenoioeajkmaaDoorW.PrintWords Go.Proofs.YtpfenoioeajkmaaDoorW.PrintLast Go.Proofs.YtpfenoioeajkmaaDoorW.PrintMore
theorem pair_eq29 (a b c d : Int) (w : World) : (Op.equalIn 10000 29 (.agg #[.int .i64 a, .int .i64 b]) (.agg #[.int .i64 c, .int .i64 d])).run Tryd.prog w = .ok (a == c && b == d) w := by
  have u3 := Tryd.underlying3
  have a3 := Tryd.isAgg3
  have z3 := Tryd.sizeOf3
  rw [show (10000 : Nat) = 9999 + 1 from rfl, Op.equalIn]
  simp only [Sem.run_bind, run_underlying Tryd.underlying29, Result.andThen_ok]
  simp only [Std.Legacy.Range.forIn_eq_forIn_range', Std.Legacy.Range.size, Nat.sub_zero, Nat.add_sub_cancel, Nat.div_one, List.range'_succ, List.range'_zero, List.forIn_cons, List.forIn_nil]
  go_simp
  by_cases h1 : a = c <;> by_cases h2 : b = d <;> simp [h1, h2]
def rlet (c : Int) : Bool := !(decide (stepx c = 0) && decide (rstepy c = 0))
def rW (s : ByteArray) : Bool := (List.range s.size).all (fun i => rlet (bt s i)) && decide (s.size ≤ 24)
theorem rW_le {s : ByteArray} (h : rW s = true) : s.size ≤ 24 := by
  unfold rW at h
  rw [Bool.and_eq_true, decide_eq_true_eq] at h
  exact h.2
theorem word_loop (s : ByteArray) : ∀ d i : Nat, i + d = s.size → s.size ≤ 9223372036854775807 → ∃ k, PA.comfitref07_Word.l0 k s (s.size : Int) (i : Int) = some ((List.range' i d).all (fun i => rlet (bt s i)) && decide (s.size ≤ 24))
  | 0, i, h, hs => by
    refine ⟨1, ?_⟩
    rw [PA.comfitref07_Word.l0, if_neg (by omega)]
    simp
    try omega
  | d + 1, i, h, hs => by
    obtain ⟨k, hk⟩ := word_loop s d (i + 1) (by omega) hs
    refine ⟨k + 1, ?_⟩
    rw [PA.comfitref07_Word.l0, if_pos (by omega), if_pos (by omega), if_pos (by omega), rstep_f, show wrap64 ((i : Int) + 1) = ((i + 1 : Nat) : Int) by unfold wrap64; omega, hk]
    simp only [Option.bind_some, List.range'_succ, List.all_cons, rlet]
    by_cases h1 : stepx (bt s i) = 0
    · by_cases h2 : rstepy (bt s i) = 0
      · simp [h1, h2]
      · simp [h1, h2]
    · simp [h1]
theorem Word_eq (s : ByteArray) (hs : s.size ≤ 9223372036854775807) : ∃ k, PA.comfitref07_Word.f k s = some (rW s) := by
  obtain ⟨k, h⟩ := word_loop s s.size 0 (by omega) hs
  refine ⟨k, ?_⟩
  unfold PA.comfitref07_Word.f
  rw [show (0 : Int) = ((0 : Nat) : Int) from rfl, h]
  unfold rW
  rw [List.range_eq_range']
theorem word_calls (s : ByteArray) (w : World) (hs : s.size ≤ 9223372036854775807) : Calls Tryd.prog 19 #[.string s] w fun e w' => e = .returned (.bool (rW s)) ∧ Below w.heap.size w w' := by
  obtain ⟨k, h⟩ := Word_eq s hs
  refine (PA.comfitref07_Word.calls k s _ w h).mono ?_
  rintro e w' ⟨rfl, nd, rfl⟩
  exact ⟨rfl, pw_below_drewN (Below.refl _ _) nd⟩
theorem bt_cut (s : ByteArray) (i j d : Nat) (hd : i + d < j) (hj : j ≤ s.size) : bt (s.extract i j) (d : Int) = bt s ((i + d : Nat) : Int) := by
  have h1 : d < (s.extract i j).size := by rw [ByteArray.size_extract]; omega
  have h2 : i + d < s.size := by omega
  rw [← bt_at (s.extract i j) d (by simpa using h1), ← bt_at s ((i + d : Nat) : Int) (show i + d < s.size from h2)]
  have : (s.extract i j)[d]'h1 = s[i + d]'h2 := by simp [ByteArray.getElem_extract]
  show (((s.extract i j)[d]'h1).toNat : Int) = ((s[i + d]'h2).toNat : Int)
  rw [this]
theorem sumx_cut (s : ByteArray) (i j : Nat) (hj : j ≤ s.size) : ∀ d, i + d ≤ j → sumx (s.extract i j) d = sumx s (i + d) - sumx s i
  | 0, _ => by simp [sumx]
  | d + 1, h => by
    have := sumx_cut s i j hj d (by omega)
    rw [sumx, this, bt_cut s i j d (by omega) hj, show i + (d + 1) = (i + d) + 1 by omega, sumx]
    omega
theorem rsumy_cut (s : ByteArray) (i j : Nat) (hj : j ≤ s.size) : ∀ d, i + d ≤ j → rsumy (s.extract i j) d = rsumy s (i + d) - rsumy s i
  | 0, _ => by simp [rsumy]
  | d + 1, h => by
    have := rsumy_cut s i j hj d (by omega)
    rw [rsumy, this, bt_cut s i j d (by omega) hj, show i + (d + 1) = (i + d) + 1 by omega, rsumy]
    omega
def rdbl (s : ByteArray) : Nat → Int
  | 0 => 0
  | k + 1 => rdbl s k + (sumx s k * rstepy (bt s k) - rsumy s k * stepx (bt s k))
theorem mul_one_small {a b : Int} (ha : -1001 ≤ a ∧ a ≤ 1001) (hb : -1 ≤ b ∧ b ≤ 1) : -1001 ≤ a * b ∧ a * b ≤ 1001 := by
  have : b = -1 ∨ b = 0 ∨ b = 1 := by omega
  rcases this with rfl | rfl | rfl <;> omega
theorem rdbl_step (s : ByteArray) (k : Nat) (hk : k ≤ 1000) : (-1001 ≤ sumx s k * rstepy (bt s k) ∧ sumx s k * rstepy (bt s k) ≤ 1001) ∧ -1001 ≤ rsumy s k * stepx (bt s k) ∧ rsumy s k * stepx (bt s k) ≤ 1001 := by
  have a1 := sumx_le s k
  have a3 := rsumy_le s k
  exact ⟨mul_one_small (by omega) (rstepy_le _), mul_one_small (by omega) (stepx_le _)⟩
theorem rdbl_le (s : ByteArray) : ∀ k : Nat, k ≤ 1000 → -(2002 * (k : Int)) ≤ rdbl s k ∧ rdbl s k ≤ 2002 * (k : Int)
  | 0, _ => by simp [rdbl]
  | k + 1, hk => by
    have h1 := rdbl_le s k (by omega)
    have h2 := rdbl_step s k (by omega)
    rw [rdbl]
    omega
theorem rdbl_succ (s : ByteArray) (k : Nat) (hk : k ≤ 999) : wrap64 (rdbl s k + wrap64 (wrap64 (sumx s k * rstepy (bt s k)) - wrap64 (rsumy s k * stepx (bt s k)))) = rdbl s (k + 1) := by
  have h1 := rdbl_le s k (by omega)
  have h2 := rdbl_step s k (by omega)
  rw [rdbl]
  generalize sumx s k * rstepy (bt s k) = a at *
  generalize rsumy s k * stepx (bt s k) = b at *
  unfold wrap64
  omega
def same (s : ByteArray) (i j : Nat) : Bool := sumx s j - sumx s i == 0 && rsumy s j - rsumy s i == 0
def apart (s : ByteArray) (n : Nat) : Prop := ∀ i j, i < n → i < j → j < s.size → same s i j = false
set_option maxHeartbeats 2000000 in
set_option maxRecDepth 100000 in
theorem rIs_not (s : ByteArray) (w : World) (hs : s.size ≤ 9223372036854775807) (h : rW s = false ∨ (rW s = true ∧ s.size < 4) ∨ (rW s = true ∧ 4 ≤ s.size ∧ ¬ (sumx s s.size = 0 ∧ rsumy s s.size = 0))) : Calls Tryd.prog 24 #[.string s] w fun e w' => e = .returned (.bool false) ∧ Below w.heap.size w w' := by
  have HW := Lib.hid (word_calls s w (by omega))
  rcases h with h | ⟨h, h4⟩ | ⟨h, h4, hz⟩
  · have HH := Lib.hid h
    clear h
    go_enter Tryd.func24, Tryd.ntmps24
    go_wp2_with fail
    refine HW.out.mono ?_
    rintro e w1 ⟨rfl, hb⟩
    rw [HH.out]
    have HB := Lib.hid hb
    clear hb
    go_wp2
    go_ret
    exact ⟨rfl, HB.out⟩
  · have HH := Lib.hid h
    clear h
    have h4' : (s.size : Int) < 4 := by omega
    go_enter Tryd.func24, Tryd.ntmps24
    go_wp2_with fail
    refine HW.out.mono ?_
    rintro e w1 ⟨rfl, hb⟩
    rw [HH.out]
    have HB := Lib.hid hb
    clear hb
    go_wp2
    go_ret
    exact ⟨rfl, HB.out⟩
  · have HH := Lib.hid h
    clear h
    have h4' : ¬ (s.size : Int) < 4 := by omega
    go_enter Tryd.func24, Tryd.ntmps24
    go_wp2_with fail
    refine HW.out.mono ?_
    rintro e w1 ⟨rfl, hb⟩
    rw [HH.out]
    have HB := Lib.hid hb
    clear hb
    go_wp2_with fail
    refine (Sum_calls s _ (by have := rW_le HH.out; omega)).mono ?_
    rintro e w2 ⟨rfl, hb2⟩
    have HB2 := Lib.hid (HB.out.trans (hb2.mono HB.out.size))
    have hm29 : Tryd.prog.eqGuardType Tryd.prog.depth 29 = false := by kernel_rfl
    have he := fun w => pair_eq29 (sumx s s.size) (rsumy s s.size) 0 0 w
    have hz' : (sumx s s.size == 0 && rsumy s s.size == 0) = false := by
      rw [Bool.eq_false_iff]
      simp
      exact fun a b => hz ⟨a, b⟩
    rw [hz'] at he
    unfold ptV
    clear hb2 hz hz'
    go_wp2
    go_ret
    exact ⟨rfl, HB2.out⟩
set_option maxHeartbeats 4000000 in
set_option maxRecDepth 100000 in
theorem rIs_loop (s : ByteArray) (w : World) (hs : s.size ≤ 999) (h : rW s = true) (h4 : 4 ≤ s.size) (hz : sumx s s.size = 0 ∧ rsumy s s.size = 0) (r : Bool) (hr : r = true ↔ apart s s.size ∧ 0 < rdbl s s.size) :
    Calls Tryd.prog 24 #[.string s] w fun e w' => e = .returned (.bool r) ∧ Below w.heap.size w w' := by
  have HW := Lib.hid (word_calls s w (by omega))
  have HH := Lib.hid h
  have HR := Lib.hid hr
  clear h hr
  have h4' : ¬ (s.size : Int) < 4 := by omega
  go_enter Tryd.func24, Tryd.ntmps24
  go_wp2_with fail
  refine HW.out.mono ?_
  rintro e w1 ⟨rfl, hb⟩
  rw [HH.out]
  have HB := Lib.hid hb
  clear hb
  go_wp2_with fail
  refine (Sum_calls s _ (by omega)).mono ?_
  rintro e w2 ⟨rfl, hb2⟩
  have HB2 := Lib.hid (HB.out.trans (hb2.mono HB.out.size))
  have hm29 : Tryd.prog.eqGuardType Tryd.prog.depth 29 = false := by kernel_rfl
  have he := fun w => pair_eq29 (sumx s s.size) (rsumy s s.size) 0 0 w
  have hz' : (sumx s s.size == 0 && rsumy s s.size == 0) = true := by rw [hz.1, hz.2]; rfl
  rw [hz'] at he
  unfold ptV
  clear hb2 hz hz' HB HW HH
  go_wp2_with fail
  clear he
  go_loopw [25, 3] (fun i ar wr => ∃ k : Nat, k ≤ s.size ∧ i = .int .i64 k ∧ ar = .int .i64 (rdbl s k) ∧ Hid (apart s k) ∧ Hid (Below w.heap.size w wr)) (fun i _ _ => s.size - (intOf i).toNat)
  case atStart => exact ⟨0, by omega, rfl, rfl, Lib.hid (fun i j hi => by omega), HB2⟩
  case round =>
    clear HB2
    obtain ⟨k, hk, rfl, rfl, HA, HB⟩ := hrel
    by_cases hlt : k < s.size
    · go_wp2_with fail
      generalize wr = wo at HB ⊢
      go_loopw [5] (fun j wr => ∃ m : Nat, k + 1 ≤ m ∧ m ≤ s.size ∧ j = .int .i64 m ∧ Hid (∀ j, k < j → j < m → same s k j = false) ∧ Hid (Below w.heap.size w wr)) (fun j _ => s.size - (intOf j).toNat)
      case atStart => exact ⟨k + 1, by omega, by omega, by go_num, Lib.hid (fun j h1 h2 => by omega), HB⟩
      case round =>
        clear HB
        obtain ⟨m, hkm, hms, rfl, HJ, HB⟩ := hrel
        by_cases hmt : m < s.size
        · have hkm' : k ≤ m := by omega
          go_wp2_with fail
          have hek : (s.extract k m).size = m - k := by rw [ByteArray.size_extract]; omega
          refine (Sum_calls (s.extract k m) wr (by omega)).mono ?_
          rintro e w5 ⟨rfl, hb5⟩
          have HB5 := Lib.hid (HB.out.trans (hb5.mono HB.out.size))
          rw [hek, sumx_cut s k m hms (m - k) (by omega), rsumy_cut s k m hms (m - k) (by omega), show k + (m - k) = m by omega]
          unfold ptV
          have he := fun w => pair_eq29 (sumx s m - sumx s k) (rsumy s m - rsumy s k) 0 0 w
          clear hb5 hek
          cases hsm : same s k m with
          | true =>
            rw [show (sumx s m - sumx s k == 0 && rsumy s m - rsumy s k == 0) = true from hsm] at he
            have hr : r = false := by
              rw [Bool.eq_false_iff]
              intro q
              have := (HR.out.1 q).1 k m hlt (by omega) hmt
              rw [hsm] at this
              cases this
            clear HR hsm
            subst hr
            go_wp2
            go_ret
            exact ⟨rfl, HB5.out⟩
          | false =>
            rw [show (sumx s m - sumx s k == 0 && rsumy s m - rsumy s k == 0) = false from hsm] at he
            have HSM := Lib.hid hsm
            clear hsm
            go_wp2_with fail
            refine ⟨⟨m + 1, by omega, by omega, by go_num, Lib.hid (fun j h1 h2 => ?_), HB5⟩, by simp [intOf]; omega⟩
            by_cases e : j = m
            · rw [e]; exact HSM.out
            · exact HJ.out j h1 (by omega)
        · obtain rfl : m = s.size := by omega
          have hbt : (((s[k]'hlt).toNat : Nat) : Int) = bt s (k : Int) := bt_at s (k : Int) hlt
          go_wp2_with fail
          refine (PA.comfitref07_step.calls (bt s k) _ _ _ (rstep_f _)).mono ?_
          rintro e w5 ⟨rfl, nd, rfl⟩
          have HB5 := Lib.hid (HB.out.trans ((pw_below_drewN (Below.refl _ _) nd).mono HB.out.size))
          generalize wr.drewN nd = w5 at HB5 ⊢
          go_wp2_with fail
          have hek : (s.extract 0 k).size = k := by rw [ByteArray.size_extract]; omega
          refine (Sum_calls (s.extract 0 k) w5 (by omega)).mono ?_
          rintro e w6 ⟨rfl, hb6⟩
          have HB6 := Lib.hid (HB5.out.trans (hb6.mono HB5.out.size))
          rw [hek, sumx_cut s 0 k (by omega) k (by omega), rsumy_cut s 0 k (by omega) k (by omega), Nat.zero_add, show sumx s 0 = 0 from rfl, show rsumy s 0 = 0 from rfl, Int.sub_zero, Int.sub_zero]
          unfold ptV
          clear hb6 hek hbt
          go_wp2_with fail
          refine ⟨⟨k + 1, by omega, by go_num, ?_, Lib.hid (fun i j h1 h2 h3 => ?_), Lib.hid (HB6.out.trans ((below_one _).mono HB6.out.size))⟩, by simp [intOf]; omega⟩
          · exact congrArg (Value.int .i64) (rdbl_succ s k (by omega))
          · by_cases e : i = k
            · rw [e]; exact HJ.out j (by omega) h3
            · exact HA.out i j (by omega) h2 h3
    · obtain rfl : k = s.size := by omega
      by_cases hp : 0 < rdbl s s.size
      · have hr : r = true := HR.out.2 ⟨HA.out, hp⟩
        clear HR
        subst hr
        go_wp2
        go_ret
        exact ⟨rfl, HB.out⟩
      · have hr : r = false := by
          rw [Bool.eq_false_iff]
          exact fun q => hp (HR.out.1 q).2
        clear HR
        subst hr
        go_wp2
        go_ret
        exact ⟨rfl, HB.out⟩
def apartB (s : ByteArray) : Bool := (List.range s.size).all fun j => (List.range j).all fun i => !same s i j
theorem apartB_iff (s : ByteArray) : apartB s = true ↔ apart s s.size := by
  unfold apartB apart
  simp only [List.all_eq_true, List.mem_range, Bool.not_eq_true']
  exact ⟨fun h i j _ h2 h3 => h j h3 i h2, fun h j hj i hi => h i j (by omega) hi hj⟩
def rO (s : ByteArray) : Bool := rW s && (decide (4 ≤ s.size) && (decide (sumx s s.size = 0 ∧ rsumy s s.size = 0) && (apartB s && decide (0 < rdbl s s.size))))
def ref_Is.f (s : ByteArray) : Option Bool := if s.size ≤ 9223372036854775807 then some (rO s) else none
theorem ref_Is.calls (a0 : ByteArray) (r : Bool) (w : World) (h : ref_Is.f a0 = some r) : Calls Tryd.prog 24 #[.string a0] w fun e w' => e = .returned (.bool r) ∧ Below w.heap.size w w' := by
  unfold ref_Is.f at h
  split at h
  · rename_i hs
    injection h with h
    subst h
    unfold rO
    cases hW : rW a0 with
    | false => exact rIs_not a0 w (by omega) (.inl hW)
    | true =>
      have hs := rW_le hW
      by_cases h4 : 4 ≤ a0.size
      · by_cases hz : sumx a0 a0.size = 0 ∧ rsumy a0 a0.size = 0
        · have := rIs_loop a0 w (by omega) hW h4 hz (apartB a0 && decide (0 < rdbl a0 a0.size)) (by rw [Bool.and_eq_true, apartB_iff, decide_eq_true_eq])
          rw [decide_eq_true h4, decide_eq_true hz]
          simpa using this
        · have := rIs_not a0 w (by omega) (.inr (.inr ⟨hW, h4, hz⟩))
          rw [decide_eq_false hz]
          simpa using this
      · have := rIs_not a0 w (by omega) (.inr (.inl ⟨hW, by omega⟩))
        rw [decide_eq_false h4]
        simpa using this
  · cases h
end Go.Proofs.YtpfenoioeajkmaaDoor.X
end

section
namespace Go.Proofs.YtpfenoioeajkmaaDoor.PB
open Go.RowKit Go.Proofs.YtpfenoioeajkmaaDoorW.PrintWords Go.Proofs.YtpfenoioeajkmaaDoorW.PrintLast Go.Proofs.YtpfenoioeajkmaaDoorW.PrintMore
attribute [local go_sem] max2_int min2_int max_two min_two max_three min_three max_four min_four
set_option linter.unusedVariables false
set_option linter.unusedSimpArgs false
def errW : Option Int → Value
  | none => .nilIface
  | some c => .iface 0 (.int .i64 c)
theorem errW_none : errW none = .nilIface := rfl
theorem errW_some (c : Int) : errW (some c) = .iface 0 (.int .i64 c) := rfl
end Go.Proofs.YtpfenoioeajkmaaDoor.PB
end

section
namespace Go.Proofs.YtpfenoioeajkmaaDoor.PB
open Go.RowKit Go.Proofs.YtpfenoioeajkmaaDoorW.PrintWords Go.Proofs.YtpfenoioeajkmaaDoorW.PrintLast Go.Proofs.YtpfenoioeajkmaaDoorW.PrintMore
attribute [local go_sem] max2_int min2_int max_two min_two max_three min_three max_four min_four
set_option linter.unusedVariables false
set_option linter.unusedSimpArgs false
def moulds_Area.f (a0 : ByteArray) : Option (Int × Int) := (Go.Proofs.YtpfenoioeajkmaaDoor.X.moulds_Is.f a0).bind fun t110 => (if t110 = true then ((Go.Proofs.YtpfenoioeajkmaaDoor.X.moulds_double.f a0).bind fun t111 => (some (wrap64 (Int.tdiv t111 2), 0))) else (some (0, 2)))
set_option maxHeartbeats 8000000 in
set_option maxRecDepth 100000 in
theorem moulds_Area.calls (a0 : ByteArray) (r1 : Int) (r2 : Int) (w : World) (h : moulds_Area.f a0 = some (r1, r2)) :
    Calls Tryd.prog 39 #[.string a0] w fun e w' => e = .returned (.tuple #[.int .i64 r1, .int .i64 r2]) ∧ Below w.heap.size w w' := by
  have HB := Aside0.mk (Below.refl w.heap.size w)
  have H : ((Go.Proofs.YtpfenoioeajkmaaDoor.X.moulds_Is.f a0).bind fun t110 => (if t110 = true then ((Go.Proofs.YtpfenoioeajkmaaDoor.X.moulds_double.f a0).bind fun t111 => (some (wrap64 (Int.tdiv t111 2), 0))) else (some (0, 2)))) = some (r1, r2) := h
  clear h
  replace H := Option.bind_eq_some_iff.mp H
  obtain ⟨t110, A20, H⟩ := H
  replace H : (if t110 = true then ((Go.Proofs.YtpfenoioeajkmaaDoor.X.moulds_double.f a0).bind fun t111 => (some (wrap64 (Int.tdiv t111 2), 0))) else (some (0, 2))) = some (r1, r2) := H
  have A2 := Aside0.mk A20
  clear A20
  by_cases c3 : t110 = true
  · subst c3
    have H1 : ((Go.Proofs.YtpfenoioeajkmaaDoor.X.moulds_double.f a0).bind fun t111 => (some (wrap64 (Int.tdiv t111 2), 0))) = some (r1, r2) := by rw [if_pos rfl] at H; exact H
    clear H
    have H := H1
    clear H1
    replace H := Option.bind_eq_some_iff.mp H
    obtain ⟨t111, A40, H⟩ := H
    replace H : (some (wrap64 (Int.tdiv t111 2), 0)) = some (r1, r2) := H
    have A4 := Aside0.mk A40
    clear A40
    simp only [Option.some.injEq, Prod.mk.injEq] at H
    obtain ⟨rfl, rfl⟩ := H
    go_enter Tryd.func39, Tryd.ntmps39
    go_wp2_with (first | ((with_reducible refine gate_callee (f := 49) rfl ?_); refine goesL_ (some 5) rfl rfl Tryd.func49 (by kernel_rfl) rfl #[.string a0] rfl (by (try simp only [List.map_toArray, List.map_cons, List.map_nil]); first | done | rfl | (simp only [List.length_drop, List.length_take]; rfl)) ?_; (with_reducible refine (Go.Proofs.YtpfenoioeajkmaaDoor.X.moulds_Is.calls a0 true _ A2.out).mono ?_); rintro e w5 ⟨rfl, hb⟩; refine ⟨_, rfl, ?_⟩; have n0_ := Aside0.mk (below_step (by repeat (first | (with_reducible first | exact HB.out | apply below_alloc | apply pw_below_drewN | apply below_drew1) | exact HB.out)) hb); clear HB; have HB := n0_; clear n0_; (try clear hb); (try clear hb2); (try clear hk); (try clear hi)) | ((with_reducible refine gate_callee (f := 61) rfl ?_); refine goesL_ (some 8) rfl rfl Tryd.func61 (by kernel_rfl) rfl #[.string a0] rfl (by (try simp only [List.map_toArray, List.map_cons, List.map_nil]); first | done | rfl | (simp only [List.length_drop, List.length_take]; rfl)) ?_; (with_reducible refine (Go.Proofs.YtpfenoioeajkmaaDoor.X.moulds_double.calls a0 t111 _ A4.out).mono ?_); rintro e w6 ⟨rfl, hb⟩; refine ⟨_, rfl, ?_⟩; have n0_ := Aside0.mk (below_step (by repeat (first | (with_reducible first | exact HB.out | apply below_alloc | apply pw_below_drewN | apply below_drew1) | exact HB.out)) hb); clear HB; have HB := n0_; clear n0_; (try clear hb); (try clear hb2); (try clear hk); (try clear hi)))
    go_ret2
    exact ⟨by first | rfl | (simp [errW_none, errW_some] <;> rfl) | (simp [*, errW_none, errW_some] <;> rfl), by repeat (first | (with_reducible first | exact HB.out | apply below_alloc | apply pw_below_drewN | apply below_drew1) | exact HB.out)⟩
  · replace c3 := Bool.eq_false_iff.mpr c3
    subst c3
    have H1 : (some (0, 2)) = some (r1, r2) := by rw [if_neg (show ¬ (false = true) by decide)] at H; exact H
    clear H
    have H := H1
    clear H1
    simp only [Option.some.injEq, Prod.mk.injEq] at H
    obtain ⟨rfl, rfl⟩ := H
    go_enter Tryd.func39, Tryd.ntmps39
    go_wp2_with (first | ((with_reducible refine gate_callee (f := 49) rfl ?_); refine goesL_ (some 5) rfl rfl Tryd.func49 (by kernel_rfl) rfl #[.string a0] rfl (by (try simp only [List.map_toArray, List.map_cons, List.map_nil]); first | done | rfl | (simp only [List.length_drop, List.length_take]; rfl)) ?_; (with_reducible refine (Go.Proofs.YtpfenoioeajkmaaDoor.X.moulds_Is.calls a0 false _ A2.out).mono ?_); rintro e w7 ⟨rfl, hb⟩; refine ⟨_, rfl, ?_⟩; have n0_ := Aside0.mk (below_step (by repeat (first | (with_reducible first | exact HB.out | apply below_alloc | apply pw_below_drewN | apply below_drew1) | exact HB.out)) hb); clear HB; have HB := n0_; clear n0_; (try clear hb); (try clear hb2); (try clear hk); (try clear hi)))
    go_ret2
    exact ⟨by first | rfl | (simp [errW_none, errW_some] <;> rfl) | (simp [*, errW_none, errW_some] <;> rfl), by repeat (first | (with_reducible first | exact HB.out | apply below_alloc | apply pw_below_drewN | apply below_drew1) | exact HB.out)⟩
def comfitlaw07_awake.f  : Option (Bool) := (moulds_Area.f (⟨#[114, 117, 108, 100]⟩ : ByteArray)).bind fun bt112 => (if bt112.1 = 1 then (some (bt112.2 == 0)) else (some false))
set_option maxHeartbeats 8000000 in
set_option maxRecDepth 100000 in
theorem comfitlaw07_awake.calls  (r : Bool) (w : World) (h : comfitlaw07_awake.f  = some r) :
    Calls Tryd.prog 20 #[] w fun e w' => e = .returned (.bool r) ∧ Below w.heap.size w w' := by
  have HB := Aside0.mk (Below.refl w.heap.size w)
  have H : ((moulds_Area.f (⟨#[114, 117, 108, 100]⟩ : ByteArray)).bind fun bt112 => (if bt112.1 = 1 then (some (bt112.2 == 0)) else (some false))) = some r := h
  clear h
  replace H := Option.bind_eq_some_iff.mp H
  obtain ⟨⟨t112, t113⟩, A10, H⟩ := H
  replace H : (if t112 = 1 then (some (t113 == 0)) else (some false)) = some r := H
  have A1 := Aside0.mk A10
  clear A10
  by_cases c2 : t112 = 1
  · rw [if_pos c2] at H
    have c2b0 : (t112 == 1) = true := beq_iff_eq.mpr c2
    have c2b1 : (t112 != 1) = false := bne_eq_false_iff_eq.mpr c2
    clear c2
    obtain rfl := Option.some.inj H
    go_enter Tryd.func20, Tryd.ntmps20
    go_wp2_with (first | ((with_reducible refine gate_callee (f := 39) rfl ?_); refine goesL_ (some 4) rfl rfl Tryd.func39 (by kernel_rfl) rfl #[.string (⟨#[114, 117, 108, 100]⟩ : ByteArray)] rfl (by (try simp only [List.map_toArray, List.map_cons, List.map_nil]); first | done | rfl | (simp only [List.length_drop, List.length_take]; rfl)) ?_; (with_reducible refine (moulds_Area.calls (⟨#[114, 117, 108, 100]⟩ : ByteArray) t112 t113 _ A1.out).mono ?_); rintro e w3 ⟨rfl, hb⟩; refine ⟨_, rfl, ?_⟩; have n0_ := Aside0.mk (below_step (by repeat (first | (with_reducible first | exact HB.out | apply below_alloc | apply pw_below_drewN | apply below_drew1) | exact HB.out)) hb); clear HB; have HB := n0_; clear n0_; (try clear hb); (try clear hb2); (try clear hk); (try clear hi)))
    go_ret
    exact ⟨by first | rfl | (simp [errW_none, errW_some] <;> rfl) | (simp [*, errW_none, errW_some] <;> rfl), by repeat (first | (with_reducible first | exact HB.out | apply below_alloc | apply pw_below_drewN | apply below_drew1) | exact HB.out)⟩
  · rw [if_neg c2] at H
    have c2b0 : (t112 == 1) = false := beq_eq_false_iff_ne.mpr c2
    have c2b1 : (t112 != 1) = true := bne_iff_ne.mpr c2
    obtain rfl := Option.some.inj H
    go_enter Tryd.func20, Tryd.ntmps20
    go_wp2_with (first | ((with_reducible refine gate_callee (f := 39) rfl ?_); refine goesL_ (some 4) rfl rfl Tryd.func39 (by kernel_rfl) rfl #[.string (⟨#[114, 117, 108, 100]⟩ : ByteArray)] rfl (by (try simp only [List.map_toArray, List.map_cons, List.map_nil]); first | done | rfl | (simp only [List.length_drop, List.length_take]; rfl)) ?_; (with_reducible refine (moulds_Area.calls (⟨#[114, 117, 108, 100]⟩ : ByteArray) t112 t113 _ A1.out).mono ?_); rintro e w4 ⟨rfl, hb⟩; refine ⟨_, rfl, ?_⟩; have n0_ := Aside0.mk (below_step (by repeat (first | (with_reducible first | exact HB.out | apply below_alloc | apply pw_below_drewN | apply below_drew1) | exact HB.out)) hb); clear HB; have HB := n0_; clear n0_; (try clear hb); (try clear hb2); (try clear hk); (try clear hi)))
    go_ret
    exact ⟨by first | rfl | (simp [errW_none, errW_some] <;> rfl) | (simp [*, errW_none, errW_some] <;> rfl), by repeat (first | (with_reducible first | exact HB.out | apply below_alloc | apply pw_below_drewN | apply below_drew1) | exact HB.out)⟩
def moulds_First.f (a0 : ByteArray) : Option (ByteArray × Int) := (Go.Proofs.YtpfenoioeajkmaaDoor.X.moulds_Is.f a0).bind fun t114 => (if t114 = true then ((Go.Proofs.YtpfenoioeajkmaaDoor.X.moulds_first.f a0).bind fun t115 => (some (t115, 0))) else (some ((⟨#[]⟩ : ByteArray), 2)))
set_option maxHeartbeats 8000000 in
set_option maxRecDepth 100000 in
theorem moulds_First.calls (a0 : ByteArray) (r1 : ByteArray) (r2 : Int) (w : World) (h : moulds_First.f a0 = some (r1, r2)) :
    Calls Tryd.prog 22 #[.string a0] w fun e w' => e = .returned (.tuple #[.string r1, .int .i64 r2]) ∧ Below w.heap.size w w' := by
  have HB := Aside0.mk (Below.refl w.heap.size w)
  have H : ((Go.Proofs.YtpfenoioeajkmaaDoor.X.moulds_Is.f a0).bind fun t114 => (if t114 = true then ((Go.Proofs.YtpfenoioeajkmaaDoor.X.moulds_first.f a0).bind fun t115 => (some (t115, 0))) else (some ((⟨#[]⟩ : ByteArray), 2)))) = some (r1, r2) := h
  clear h
  replace H := Option.bind_eq_some_iff.mp H
  obtain ⟨t114, A20, H⟩ := H
  replace H : (if t114 = true then ((Go.Proofs.YtpfenoioeajkmaaDoor.X.moulds_first.f a0).bind fun t115 => (some (t115, 0))) else (some ((⟨#[]⟩ : ByteArray), 2))) = some (r1, r2) := H
  have A2 := Aside0.mk A20
  clear A20
  by_cases c3 : t114 = true
  · subst c3
    have H1 : ((Go.Proofs.YtpfenoioeajkmaaDoor.X.moulds_first.f a0).bind fun t115 => (some (t115, 0))) = some (r1, r2) := by rw [if_pos rfl] at H; exact H
    clear H
    have H := H1
    clear H1
    replace H := Option.bind_eq_some_iff.mp H
    obtain ⟨t115, A40, H⟩ := H
    replace H : (some (t115, 0)) = some (r1, r2) := H
    have A4 := Aside0.mk A40
    clear A40
    simp only [Option.some.injEq, Prod.mk.injEq] at H
    obtain ⟨rfl, rfl⟩ := H
    go_enter Tryd.func22, Tryd.ntmps22
    go_wp2_with (first | ((with_reducible refine gate_callee (f := 49) rfl ?_); refine goesL_ (some 5) rfl rfl Tryd.func49 (by kernel_rfl) rfl #[.string a0] rfl (by (try simp only [List.map_toArray, List.map_cons, List.map_nil]); first | done | rfl | (simp only [List.length_drop, List.length_take]; rfl)) ?_; (with_reducible refine (Go.Proofs.YtpfenoioeajkmaaDoor.X.moulds_Is.calls a0 true _ A2.out).mono ?_); rintro e w5 ⟨rfl, hb⟩; refine ⟨_, rfl, ?_⟩; have n0_ := Aside0.mk (below_step (by repeat (first | (with_reducible first | exact HB.out | apply below_alloc | apply pw_below_drewN | apply below_drew1) | exact HB.out)) hb); clear HB; have HB := n0_; clear n0_; (try clear hb); (try clear hb2); (try clear hk); (try clear hi)) | ((with_reducible refine gate_callee (f := 55) rfl ?_); refine goesL_ (some 8) rfl rfl Tryd.func55 (by kernel_rfl) rfl #[.string a0] rfl (by (try simp only [List.map_toArray, List.map_cons, List.map_nil]); first | done | rfl | (simp only [List.length_drop, List.length_take]; rfl)) ?_; (with_reducible refine (Go.Proofs.YtpfenoioeajkmaaDoor.X.moulds_first.calls a0 t115 _ A4.out).mono ?_); rintro e w6 ⟨rfl, hb⟩; refine ⟨_, rfl, ?_⟩; have n0_ := Aside0.mk (below_step (by repeat (first | (with_reducible first | exact HB.out | apply below_alloc | apply pw_below_drewN | apply below_drew1) | exact HB.out)) hb); clear HB; have HB := n0_; clear n0_; (try clear hb); (try clear hb2); (try clear hk); (try clear hi)))
    go_ret2
    exact ⟨by first | rfl | (simp [errW_none, errW_some] <;> rfl) | (simp [*, errW_none, errW_some] <;> rfl), by repeat (first | (with_reducible first | exact HB.out | apply below_alloc | apply pw_below_drewN | apply below_drew1) | exact HB.out)⟩
  · replace c3 := Bool.eq_false_iff.mpr c3
    subst c3
    have H1 : (some ((⟨#[]⟩ : ByteArray), 2)) = some (r1, r2) := by rw [if_neg (show ¬ (false = true) by decide)] at H; exact H
    clear H
    have H := H1
    clear H1
    simp only [Option.some.injEq, Prod.mk.injEq] at H
    obtain ⟨rfl, rfl⟩ := H
    go_enter Tryd.func22, Tryd.ntmps22
    go_wp2_with (first | ((with_reducible refine gate_callee (f := 49) rfl ?_); refine goesL_ (some 5) rfl rfl Tryd.func49 (by kernel_rfl) rfl #[.string a0] rfl (by (try simp only [List.map_toArray, List.map_cons, List.map_nil]); first | done | rfl | (simp only [List.length_drop, List.length_take]; rfl)) ?_; (with_reducible refine (Go.Proofs.YtpfenoioeajkmaaDoor.X.moulds_Is.calls a0 false _ A2.out).mono ?_); rintro e w7 ⟨rfl, hb⟩; refine ⟨_, rfl, ?_⟩; have n0_ := Aside0.mk (below_step (by repeat (first | (with_reducible first | exact HB.out | apply below_alloc | apply pw_below_drewN | apply below_drew1) | exact HB.out)) hb); clear HB; have HB := n0_; clear n0_; (try clear hb); (try clear hb2); (try clear hk); (try clear hi)))
    go_ret2
    exact ⟨by first | rfl | (simp [errW_none, errW_some] <;> rfl) | (simp [*, errW_none, errW_some] <;> rfl), by repeat (first | (with_reducible first | exact HB.out | apply below_alloc | apply pw_below_drewN | apply below_drew1) | exact HB.out)⟩
end Go.Proofs.YtpfenoioeajkmaaDoor.PB
end

section
set_option linter.unusedVariables false
set_option linter.unusedSimpArgs false
namespace Go.Proofs.YtpfenoioeajkmaaDoor.L
open Go.RowKit Go.Proofs.YtpfenoioeajkmaaDoorW.PrintWords Go.Proofs.YtpfenoioeajkmaaDoorW.PrintLast Go.Proofs.YtpfenoioeajkmaaDoorW.PrintMore Go.Proofs.YtpfenoioeajkmaaDoor.X
def isL (c : Int) : Prop := c = 114 ∨ c = 117 ∨ c = 108 ∨ c = 100
theorem bt_list (s : ByteArray) (i : Nat) (hi : i < s.size) : bt s i = ((s.data.toList[i]'(by rw [data_length]; exact hi)).toNat : Int) := by
  rw [← bt_at s i (by simpa using hi)]
  rfl
theorem lets_iff (b : UInt8) : lets.contains b = true ↔ isL (b.toNat : Int) := by
  unfold lets isL
  simp only [List.contains_cons, List.contains_nil, Bool.or_false, Bool.or_eq_true, beq_iff_eq]
  constructor
  · rintro (h | h | h | h) <;> subst h <;> simp
  · have e : ∀ n : Nat, n < 256 → (b.toNat : Int) = n → b = n.toUInt8 := fun n hn h => by
      apply UInt8.toNat_inj.1
      have : b.toNat = n := by omega
      rw [this]
      simp [Nat.toUInt8, UInt8.toNat_ofNat']
      omega
    rintro (h | h | h | h)
    · exact .inl (e 114 (by decide) h)
    · exact .inr (.inl (e 117 (by decide) h))
    · exact .inr (.inr (.inl (e 108 (by decide) h)))
    · exact .inr (.inr (.inr (e 100 (by decide) h)))
theorem isW_iff (s : ByteArray) : isW s = true ↔ s.size ≤ 24 ∧ ∀ i : Nat, i < s.size → isL (bt s i) := by
  unfold isW
  rw [Bool.and_eq_true, decide_eq_true_eq, List.all_eq_true]
  refine and_congr_right fun _ => ?_
  constructor
  · intro h i hi
    rw [bt_list s i hi]
    exact (lets_iff _).1 (h _ (List.getElem_mem _))
  · intro h b hb
    obtain ⟨i, hi, e⟩ := List.getElem_of_mem hb
    have hi' : i < s.size := by rw [← data_length]; exact hi
    rw [lets_iff, ← e, ← bt_list s i hi']
    exact h i hi'
theorem rlet_iff (c : Int) : rlet c = true ↔ isL c := by
  unfold rlet isL stepx rstepy
  by_cases h1 : c = 114
  · simp [h1]
  by_cases h2 : c = 117
  · simp [h2]
  by_cases h3 : c = 108
  · simp [h3]
  by_cases h4 : c = 100
  · simp [h4]
  simp [h1, h2, h3, h4]
theorem rW_eq (s : ByteArray) : rW s = isW s := by
  rw [Bool.eq_iff_iff, isW_iff]
  unfold rW
  rw [Bool.and_eq_true, decide_eq_true_eq, List.all_eq_true]
  constructor
  · exact fun ⟨h1, h2⟩ => ⟨h2, fun i hi => (rlet_iff _).1 (h1 i (List.mem_range.2 hi))⟩
  · exact fun ⟨h1, h2⟩ => ⟨fun i hi => (rlet_iff _).2 (h2 i (List.mem_range.1 hi)), h1⟩
theorem rstepy_eq {c : Int} (h : isL c) : rstepy c = stepy c := by
  unfold rstepy stepy
  rcases h with rfl | rfl | rfl | rfl <;> rfl
theorem rsumy_eq {s : ByteArray} (h : isW s = true) : ∀ k, k ≤ s.size → rsumy s k = sumy s k
  | 0, _ => rfl
  | k + 1, hk => by rw [rsumy, sumy, rsumy_eq h k (by omega), rstepy_eq (((isW_iff s).1 h).2 k (by omega))]
theorem dbl_eq {s : ByteArray} (h : isW s = true) : ∀ k, k ≤ s.size → rdbl s k = dbl s k
  | 0, _ => rfl
  | k + 1, hk => by
    rw [rdbl, dbl, dbl_eq h k (by omega), rsumy_eq h k (by omega), rstepy_eq (((isW_iff s).1 h).2 k (by omega)), sumx, sumy]
    generalize sumx s k = a
    generalize sumy s k = b
    rw [Int.mul_add, Int.add_mul, Int.mul_comm b]
    omega
theorem same_iff {s : ByteArray} (h : isW s = true) {i j : Nat} (hi : i ≤ s.size) (hj : j ≤ s.size) : same s i j = true ↔ (sumx s i, sumy s i) = (sumx s j, sumy s j) := by
  unfold same
  rw [rsumy_eq h i hi, rsumy_eq h j hj]
  simp only [Bool.and_eq_true, beq_iff_eq, Prod.mk.injEq]
  omega
theorem apart_iff {s : ByteArray} (h : isW s = true) : apart s s.size ↔ (pts s s.size).Nodup := by
  rw [List.Nodup, List.pairwise_iff_getElem]
  unfold apart pts
  simp only [List.length_map, List.length_range, List.getElem_map, List.getElem_range]
  constructor
  · intro k i j hi hj hij e
    have := k i j hi hij hj
    rw [(same_iff h (by omega) (by omega)).2 e] at this
    cases this
  · intro k i j hi hij hj
    rw [Bool.eq_false_iff]
    intro e
    exact k i j hi hj hij ((same_iff h (by omega) (by omega)).1 e)
theorem rO_eq (s : ByteArray) : rO s = isO s := by
  unfold rO isO
  rw [rW_eq]
  cases h : isW s with
  | false => rfl
  | true =>
    rw [dbl_eq h _ (Nat.le_refl _), rsumy_eq h _ (Nat.le_refl _), show apartB s = decide (pts s s.size).Nodup by rw [Bool.eq_iff_iff, apartB_iff, apart_iff h, decide_eq_true_eq], Bool.and_comm (decide (pts s s.size).Nodup)]
theorem isO_W {s : ByteArray} (h : isO s = true) : isW s = true := by
  unfold isO at h
  rw [Bool.and_eq_true] at h
  exact h.1
def txt (a : ByteArray) : ByteArray := if a.size ≤ 30 then a else a.extract 0 30
theorem text_eq (a : ByteArray) : PA.comfitlaw07_text.f a = some (txt a) := by
  unfold PA.comfitlaw07_text.f txt
  by_cases h : a.size ≤ 30
  · have e : mn (a.size : Int) 30 = a.size := by unfold mn; split <;> omega
    rw [e, if_pos (by omega), if_pos (by omega), if_pos h]
    simp
  · have e : mn (a.size : Int) 30 = 30 := by unfold mn; split <;> omega
    rw [e, if_pos (by omega), if_pos (by omega), if_neg h]
    rfl
theorem txt_le (a : ByteArray) : (txt a).size ≤ 30 := by
  unfold txt
  split
  · assumption
  · rw [ByteArray.size_extract]; omega
theorem txt_W (a : ByteArray) : isW (txt a) = isW a := by
  unfold txt
  by_cases h : a.size ≤ 30
  · rw [if_pos h]
  · rw [if_neg h]
    have e1 : isW a = false := by
      rw [Bool.eq_false_iff]
      intro q
      have := isW_le q
      omega
    rw [e1, Bool.eq_false_iff]
    intro q
    have := isW_le q
    rw [ByteArray.size_extract] at this
    omega
theorem txt_of {a : ByteArray} (h : isW a = true) : txt a = a := by
  have := isW_le h
  unfold txt
  rw [if_pos (by omega)]
theorem txt_O (a : ByteArray) : isO (txt a) = isO a := by
  cases h : isW a with
  | true => rw [txt_of h]
  | false =>
    have h2 := txt_W a
    rw [h] at h2
    unfold isO
    rw [h, h2]
    rfl
theorem ascii_of {s : ByteArray} (h : ∀ i : Nat, i < s.size → isL (bt s i)) : ascii s = true := by
  unfold ascii
  rw [List.all_eq_true]
  intro b hb
  obtain ⟨i, hi, e⟩ := List.getElem_of_mem hb
  have hi' : i < s.size := by rw [← data_length]; exact hi
  have := h i hi'
  rw [bt_list s i hi', e] at this
  rw [decide_eq_true_eq]
  rcases this with h | h | h | h <;> omega
theorem awake_eq : PB.comfitlaw07_awake.f = some true := by kernel_rfl
theorem strN_self (s : ByteArray) : strN s.size (fun i => bt s i) = s := by
  apply ByteArray.ext
  apply Array.ext'
  unfold strN strOfNums
  simp only [List.map_map]
  apply List.ext_getElem
  · simp
  · intro i h1 h2
    have hi : i < s.size := by rw [← data_length]; exact h2
    simp only [List.getElem_map, List.getElem_range, Function.comp]
    rw [bt_list s i hi]
    simp
end Go.Proofs.YtpfenoioeajkmaaDoor.L
end

section
set_option linter.unusedVariables false
set_option linter.unusedSimpArgs false
namespace Go.Proofs.YtpfenoioeajkmaaDoor.L
open Go.RowKit Go.Proofs.YtpfenoioeajkmaaDoorW.PrintWords Go.Proofs.YtpfenoioeajkmaaDoorW.PrintLast Go.Proofs.YtpfenoioeajkmaaDoorW.PrintMore Go.Proofs.YtpfenoioeajkmaaDoor.X Go.Proofs.YtpfenoioeajkmaaDoor.PB
theorem Is_f {s : ByteArray} (hs : s.size ≤ 1000) : moulds_Is.f s = some (isO s) := by
  unfold moulds_Is.f
  rw [if_pos hs]
theorem RIs_f {s : ByteArray} (hs : s.size ≤ 140737488351232) : ref_Is.f s = some (isO s) := by
  unfold ref_Is.f
  rw [if_pos (by omega), rO_eq]
theorem First_O {s : ByteArray} (h : isO s = true) : moulds_First.f s = some (firstTo s s.size, 0) := by
  have h24 := isW_le (isO_W h)
  unfold moulds_First.f
  rw [Is_f (by omega), h]
  simp only [Option.bind_some, if_true]
  unfold moulds_first.f
  rw [if_pos ⟨by omega, ascii_of ((isW_iff s).1 (isO_W h)).2⟩]
  rfl
end Go.Proofs.YtpfenoioeajkmaaDoor.L
end

section
set_option linter.unusedVariables false
set_option linter.unusedSimpArgs false
namespace Go.Proofs.YtpfenoioeajkmaaDoor.X
open Go.RowKit Go.Proofs.YtpfenoioeajkmaaDoorW.PrintWords Go.Proofs.YtpfenoioeajkmaaDoorW.PrintLast Go.Proofs.YtpfenoioeajkmaaDoorW.PrintMore Go.Proofs.YtpfenoioeajkmaaDoor.L
theorem text_ok {s : ByteArray} (h : isW s = true) (w : World) : Calls Tryd.prog 18 #[.string s] w fun e w' => e = .returned (.string s) ∧ Below w.heap.size w w' :=
  PA.comfitlaw07_text.calls s s w (by rw [text_eq, txt_of h])
theorem text_any (s : ByteArray) (w : World) : Calls Tryd.prog 18 #[.string s] w fun e w' => e = .returned (.string (txt s)) ∧ Below w.heap.size w w' :=
  PA.comfitlaw07_text.calls s _ w (text_eq s)
theorem awake_ok (w : World) : Calls Tryd.prog 20 #[] w fun e w' => e = .returned (.bool true) ∧ Below w.heap.size w w' :=
  PB.comfitlaw07_awake.calls true w awake_eq
theorem u64_range (k : Int) : 0 ≤ IntKind.u64.wrap k := by
  unfold IntKind.wrap
  simp [IntKind.signed, IntKind.bits]
  omega
end Go.Proofs.YtpfenoioeajkmaaDoor.X
end

section
set_option linter.unusedVariables false
set_option linter.unusedSimpArgs false
namespace Go.Proofs.YtpfenoioeajkmaaDoor.X
open Go.RowKit Go.Proofs.YtpfenoioeajkmaaDoorW.PrintWords Go.Proofs.YtpfenoioeajkmaaDoorW.PrintLast Go.Proofs.YtpfenoioeajkmaaDoorW.PrintMore Go.Proofs.YtpfenoioeajkmaaDoor.L
abbrev Fct := Nat × Nat × Nat × Nat
theorem grown_of_below {W W' : World} (h : Below W.heap.size W W') : W.grownBy W' none := ⟨h.os, h.tape, h.output, h.size, fun k hk _ => h.block k hk⟩
theorem rot_size (s : ByteArray) {k : Nat} (hk : k ≤ s.size) : (rotF s k).size = s.size := by
  unfold rotF
  rw [ByteArray.size_append, ByteArray.size_extract, ByteArray.size_extract]
  omega
theorem bt_app (a b : ByteArray) (i : Nat) (hi : i < (a ++ b).size) : bt (a ++ b) (i : Int) = if i < a.size then bt a (i : Int) else bt b ((i - a.size : Nat) : Int) := by
  rw [← bt_at (a ++ b) (i : Int) (by simpa using hi)]
  by_cases h : i < a.size
  · rw [if_pos h, ← bt_at a (i : Int) (by simpa using h)]
    have : (a ++ b)[i]'hi = a[i]'h := ByteArray.getElem_append_left h
    show (((a ++ b)[i]'hi).toNat : Int) = ((a[i]'h).toNat : Int)
    rw [this]
  · have hb : i - a.size < b.size := by rw [ByteArray.size_append] at hi; omega
    rw [if_neg h, ← bt_at b ((i - a.size : Nat) : Int) (by simpa using hb)]
    have : (a ++ b)[i]'hi = b[i - a.size]'hb := ByteArray.getElem_append_right (by omega)
    show (((a ++ b)[i]'hi).toNat : Int) = ((b[i - a.size]'hb).toNat : Int)
    rw [this]
theorem rot_bt (s : ByteArray) {k : Nat} (hk : k ≤ s.size) (i : Nat) (hi : i < s.size) : bt (rotF s k) i = bt s (if i < s.size - k then k + i else i - (s.size - k) : Nat) := by
  have h := rot_size s hk
  unfold rotF at h ⊢
  have h1 : (s.extract k s.size).size = s.size - k := by rw [ByteArray.size_extract]; omega
  rw [bt_app _ _ i (by rw [h]; exact hi), h1]
  by_cases hlt : i < s.size - k
  · rw [if_pos hlt, if_pos hlt, bt_cut s k s.size i (by omega) (Nat.le_refl _)]
  · rw [if_neg hlt, if_neg hlt, bt_cut s 0 k (i - (s.size - k)) (by omega) hk, Nat.zero_add]
theorem rot_W {s : ByteArray} (h : isW s = true) {k : Nat} (hk : k ≤ s.size) : isW (rotF s k) = true := by
  have hs := rot_size s hk
  rw [isW_iff] at h ⊢
  refine ⟨by rw [hs]; exact h.1, fun i hi => ?_⟩
  rw [hs] at hi
  rw [rot_bt s hk i hi]
  refine h.2 _ ?_
  split <;> omega
end Go.Proofs.YtpfenoioeajkmaaDoor.X
end

section
set_option linter.unusedVariables false
set_option linter.unusedSimpArgs false
namespace Go.Proofs.YtpfenoioeajkmaaDoor.X
open Go.RowKit Go.Proofs.YtpfenoioeajkmaaDoorW.PrintWords Go.Proofs.YtpfenoioeajkmaaDoorW.PrintLast Go.Proofs.YtpfenoioeajkmaaDoorW.PrintMore Go.Proofs.YtpfenoioeajkmaaDoor.L
attribute [local go_sem] Oper.semAt_some
theorem Is_any {s : ByteArray} (hs : s.size ≤ 1000) (w : World) : Calls Tryd.prog 49 #[.string s] w fun e w' => e = .returned (.bool (isO s)) ∧ Below w.heap.size w w' := moulds_Is.calls s _ w (Is_f hs)
end Go.Proofs.YtpfenoioeajkmaaDoor.X
end

section
set_option linter.unusedVariables false
set_option linter.unusedSimpArgs false
namespace Go.Proofs.YtpfenoioeajkmaaDoor.X
open Go.RowKit Go.Proofs.YtpfenoioeajkmaaDoorW.PrintWords Go.Proofs.YtpfenoioeajkmaaDoorW.PrintLast Go.Proofs.YtpfenoioeajkmaaDoorW.PrintMore Go.Proofs.YtpfenoioeajkmaaDoor.L
attribute [local go_sem] Oper.semAt_some
def four (x : Fct) : Obj := .cells #[.int .i64 x.1, .int .i64 x.2.1, .int .i64 x.2.2.1, .int .i64 x.2.2.2] 34
end Go.Proofs.YtpfenoioeajkmaaDoor.X
end

section
set_option linter.unusedVariables false
set_option linter.unusedSimpArgs false
namespace Go.Proofs.YtpfenoioeajkmaaDoor.X
open Go.RowKit Go.Proofs.YtpfenoioeajkmaaDoorW.PrintWords Go.Proofs.YtpfenoioeajkmaaDoorW.PrintLast Go.Proofs.YtpfenoioeajkmaaDoorW.PrintMore Go.Proofs.YtpfenoioeajkmaaDoor.L
theorem ris_calls (s : ByteArray) (hs : s.size ≤ 140737488351232) (w : World) : Calls Tryd.prog 24 #[.string s] w fun e w' => e = .returned (.bool (isO s)) ∧ Below w.heap.size w w' := ref_Is.calls s _ w (RIs_f hs)
end Go.Proofs.YtpfenoioeajkmaaDoor.X
end

section
set_option linter.unusedVariables false
set_option linter.unusedSimpArgs false
namespace Go.Proofs.YtpfenoioeajkmaaDoor.X
open Go.RowKit Go.Proofs.YtpfenoioeajkmaaDoorW.PrintWords Go.Proofs.YtpfenoioeajkmaaDoorW.PrintLast Go.Proofs.YtpfenoioeajkmaaDoorW.PrintMore Go.Proofs.YtpfenoioeajkmaaDoor.L
theorem own_growS {B : Nat} {u w w1 : World} {e sz n : Nat} {v : Value} {xs : List Value} (hb : Below B u w) (hs : w.ownsRow u.heap.size e sz v n xs) (hg : w.grownBy w1 v.ownBlock) (hB : B = u.heap.size := by rfl) : Below B u w1 := by
  subst hB
  refine hb.grown hg hb.size fun k hk => ?_
  obtain ⟨_, ⟨h, _⟩ | ⟨g, cap, cur, h, h2, _⟩⟩ := hs
  · rw [h] at hk
    simp [Value.ownBlock] at hk
  · rw [h] at hk
    simp [Value.ownBlock] at hk
    omega
end Go.Proofs.YtpfenoioeajkmaaDoor.X
end

section
set_option linter.unusedVariables false
set_option linter.unusedSimpArgs false
namespace Go.Proofs.YtpfenoioeajkmaaDoor.X
open Go.RowKit Go.Proofs.YtpfenoioeajkmaaDoorW.PrintWords Go.Proofs.YtpfenoioeajkmaaDoorW.PrintLast Go.Proofs.YtpfenoioeajkmaaDoorW.PrintMore Go.Proofs.YtpfenoioeajkmaaDoor.L
structure Kept (B : Nat) (o : Obj) (w : World) : Prop where
  h : w.heap[B]? = some o
theorem Kept.lt {B : Nat} {o : Obj} {w : World} (h : Kept B o w) : B < w.heap.size := (Array.getElem?_eq_some_iff.1 h.h).1
theorem Kept.later {B : Nat} {o : Obj} {w w' : World} (h : Kept B o w) (hb : Below w.heap.size w w') : Kept B o w' := ⟨(hb.block B h.lt).trans h.h⟩
theorem isO_4 {s : ByteArray} (h : isO s = true) : 4 ≤ s.size := by
  unfold isO at h
  simp only [Bool.and_eq_true, decide_eq_true_eq] at h
  omega
end Go.Proofs.YtpfenoioeajkmaaDoor.X
end

section
namespace Go.Proofs.YtpfenoioeajkmaaDoor.PC
open Go.RowKit Go.Proofs.YtpfenoioeajkmaaDoorW.PrintWords Go.Proofs.YtpfenoioeajkmaaDoorW.PrintLast Go.Proofs.YtpfenoioeajkmaaDoorW.PrintMore
attribute [local go_sem] max2_int min2_int max_two min_two max_three min_three max_four min_four
set_option linter.unusedVariables false
set_option linter.unusedSimpArgs false
def cmp_isNaN_int.f (a0 : Int) : Option (Bool) := some (a0 != a0)
set_option maxHeartbeats 8000000 in
set_option maxRecDepth 100000 in
theorem cmp_isNaN_int.calls (a0 : Int) (r : Bool) (w : World) (h : cmp_isNaN_int.f a0 = some r) :
    Calls Tryd.prog 100 #[.int .i64 a0] w fun e w' => e = .returned (.bool r) ∧ Drawn0 w w' := by
  have H : (some (a0 != a0)) = some r := h
  clear h
  obtain rfl := Option.some.inj H
  go_enter Tryd.func100, Tryd.ntmps100
  go_wp2
  go_ret
  exact ⟨by first | rfl | (simp; done) | (simp [*]; done), by repeat (first | exact Drawn0.refl _ | apply Drawn0.step)⟩
def cmp_Compare_int.f (a0 : Int) (a1 : Int) : Option (Int) := (cmp_isNaN_int.f a0).bind fun t101 => ((cmp_isNaN_int.f a1).bind fun t102 => (if t101 = true then (if t102 = true then (some 0) else (some (-1))) else (if t102 = true then (some 1) else (if a0 < a1 then (some (-1)) else (if a0 > a1 then (some 1) else (some 0))))))
set_option maxHeartbeats 8000000 in
set_option maxRecDepth 100000 in
theorem cmp_Compare_int.calls (a0 : Int) (a1 : Int) (r : Int) (w : World) (h : cmp_Compare_int.f a0 a1 = some r) :
    Calls Tryd.prog 90 #[.int .i64 a0, .int .i64 a1] w fun e w' => e = .returned (.int .i64 r) ∧ Drawn0 w w' := by
  have H : ((cmp_isNaN_int.f a0).bind fun t101 => ((cmp_isNaN_int.f a1).bind fun t102 => (if t101 = true then (if t102 = true then (some 0) else (some (-1))) else (if t102 = true then (some 1) else (if a0 < a1 then (some (-1)) else (if a0 > a1 then (some 1) else (some 0))))))) = some r := h
  clear h
  replace H := Option.bind_eq_some_iff.mp H
  obtain ⟨t101, A30, H⟩ := H
  replace H : ((cmp_isNaN_int.f a1).bind fun t102 => (if t101 = true then (if t102 = true then (some 0) else (some (-1))) else (if t102 = true then (some 1) else (if a0 < a1 then (some (-1)) else (if a0 > a1 then (some 1) else (some 0)))))) = some r := H
  have A3 := Aside0.mk A30
  clear A30
  replace H := Option.bind_eq_some_iff.mp H
  obtain ⟨t102, A40, H⟩ := H
  replace H : (if t101 = true then (if t102 = true then (some 0) else (some (-1))) else (if t102 = true then (some 1) else (if a0 < a1 then (some (-1)) else (if a0 > a1 then (some 1) else (some 0))))) = some r := H
  have A4 := Aside0.mk A40
  clear A40
  by_cases c5 : t101 = true
  · subst c5
    have H1 : (if t102 = true then (some 0) else (some (-1))) = some r := by rw [if_pos rfl] at H; exact H
    clear H
    have H := H1
    clear H1
    by_cases c6 : t102 = true
    · subst c6
      have H1 : (some 0) = some r := by rw [if_pos rfl] at H; exact H
      clear H
      have H := H1
      clear H1
      obtain rfl := Option.some.inj H
      go_enter Tryd.func90, Tryd.ntmps90
      go_wp2_with (first | ((with_reducible refine gate_callee (f := 100) rfl ?_); refine goesL_ (some 8) rfl rfl Tryd.func100 (by kernel_rfl) rfl #[.int .i64 a0] rfl (by (try simp only [List.map_toArray, List.map_cons, List.map_nil]); first | done | rfl | (simp only [List.length_drop, List.length_take]; rfl)) ?_; (with_reducible refine (cmp_isNaN_int.calls a0 true _ A3.out).mono ?_); rintro e w' ⟨rfl, ⟨nd, rfl⟩⟩; refine ⟨_, rfl, ?_⟩) | ((with_reducible refine gate_callee (f := 100) rfl ?_); refine goesL_ (some 10) rfl rfl Tryd.func100 (by kernel_rfl) rfl #[.int .i64 a1] rfl (by (try simp only [List.map_toArray, List.map_cons, List.map_nil]); first | done | rfl | (simp only [List.length_drop, List.length_take]; rfl)) ?_; (with_reducible refine (cmp_isNaN_int.calls a1 true _ A4.out).mono ?_); rintro e w' ⟨rfl, ⟨nd, rfl⟩⟩; refine ⟨_, rfl, ?_⟩))
      go_ret
      exact ⟨by first | rfl | (simp; done) | (simp [*]; done), by repeat (first | exact Drawn0.refl _ | apply Drawn0.step)⟩
    · replace c6 := Bool.eq_false_iff.mpr c6
      subst c6
      have H1 : (some (-1)) = some r := by rw [if_neg (show ¬ (false = true) by decide)] at H; exact H
      clear H
      have H := H1
      clear H1
      obtain rfl := Option.some.inj H
      go_enter Tryd.func90, Tryd.ntmps90
      go_wp2_with (first | ((with_reducible refine gate_callee (f := 100) rfl ?_); refine goesL_ (some 8) rfl rfl Tryd.func100 (by kernel_rfl) rfl #[.int .i64 a0] rfl (by (try simp only [List.map_toArray, List.map_cons, List.map_nil]); first | done | rfl | (simp only [List.length_drop, List.length_take]; rfl)) ?_; (with_reducible refine (cmp_isNaN_int.calls a0 true _ A3.out).mono ?_); rintro e w' ⟨rfl, ⟨nd, rfl⟩⟩; refine ⟨_, rfl, ?_⟩) | ((with_reducible refine gate_callee (f := 100) rfl ?_); refine goesL_ (some 10) rfl rfl Tryd.func100 (by kernel_rfl) rfl #[.int .i64 a1] rfl (by (try simp only [List.map_toArray, List.map_cons, List.map_nil]); first | done | rfl | (simp only [List.length_drop, List.length_take]; rfl)) ?_; (with_reducible refine (cmp_isNaN_int.calls a1 false _ A4.out).mono ?_); rintro e w' ⟨rfl, ⟨nd, rfl⟩⟩; refine ⟨_, rfl, ?_⟩))
      go_ret
      exact ⟨by first | rfl | (simp; done) | (simp [*]; done), by repeat (first | exact Drawn0.refl _ | apply Drawn0.step)⟩
  · replace c5 := Bool.eq_false_iff.mpr c5
    subst c5
    have H1 : (if t102 = true then (some 1) else (if a0 < a1 then (some (-1)) else (if a0 > a1 then (some 1) else (some 0)))) = some r := by rw [if_neg (show ¬ (false = true) by decide)] at H; exact H
    clear H
    have H := H1
    clear H1
    by_cases c7 : t102 = true
    · subst c7
      have H1 : (some 1) = some r := by rw [if_pos rfl] at H; exact H
      clear H
      have H := H1
      clear H1
      obtain rfl := Option.some.inj H
      go_enter Tryd.func90, Tryd.ntmps90
      go_wp2_with (first | ((with_reducible refine gate_callee (f := 100) rfl ?_); refine goesL_ (some 8) rfl rfl Tryd.func100 (by kernel_rfl) rfl #[.int .i64 a0] rfl (by (try simp only [List.map_toArray, List.map_cons, List.map_nil]); first | done | rfl | (simp only [List.length_drop, List.length_take]; rfl)) ?_; (with_reducible refine (cmp_isNaN_int.calls a0 false _ A3.out).mono ?_); rintro e w' ⟨rfl, ⟨nd, rfl⟩⟩; refine ⟨_, rfl, ?_⟩) | ((with_reducible refine gate_callee (f := 100) rfl ?_); refine goesL_ (some 10) rfl rfl Tryd.func100 (by kernel_rfl) rfl #[.int .i64 a1] rfl (by (try simp only [List.map_toArray, List.map_cons, List.map_nil]); first | done | rfl | (simp only [List.length_drop, List.length_take]; rfl)) ?_; (with_reducible refine (cmp_isNaN_int.calls a1 true _ A4.out).mono ?_); rintro e w' ⟨rfl, ⟨nd, rfl⟩⟩; refine ⟨_, rfl, ?_⟩))
      go_ret
      exact ⟨by first | rfl | (simp; done) | (simp [*]; done), by repeat (first | exact Drawn0.refl _ | apply Drawn0.step)⟩
    · replace c7 := Bool.eq_false_iff.mpr c7
      subst c7
      have H1 : (if a0 < a1 then (some (-1)) else (if a0 > a1 then (some 1) else (some 0))) = some r := by rw [if_neg (show ¬ (false = true) by decide)] at H; exact H
      clear H
      have H := H1
      clear H1
      by_cases c8 : a0 < a1
      · rw [if_pos c8] at H
        have c8b0 : decide (a0 < a1) = true := decide_eq_true c8
        clear c8
        obtain rfl := Option.some.inj H
        go_enter Tryd.func90, Tryd.ntmps90
        go_wp2_with (first | ((with_reducible refine gate_callee (f := 100) rfl ?_); refine goesL_ (some 8) rfl rfl Tryd.func100 (by kernel_rfl) rfl #[.int .i64 a0] rfl (by (try simp only [List.map_toArray, List.map_cons, List.map_nil]); first | done | rfl | (simp only [List.length_drop, List.length_take]; rfl)) ?_; (with_reducible refine (cmp_isNaN_int.calls a0 false _ A3.out).mono ?_); rintro e w' ⟨rfl, ⟨nd, rfl⟩⟩; refine ⟨_, rfl, ?_⟩) | ((with_reducible refine gate_callee (f := 100) rfl ?_); refine goesL_ (some 10) rfl rfl Tryd.func100 (by kernel_rfl) rfl #[.int .i64 a1] rfl (by (try simp only [List.map_toArray, List.map_cons, List.map_nil]); first | done | rfl | (simp only [List.length_drop, List.length_take]; rfl)) ?_; (with_reducible refine (cmp_isNaN_int.calls a1 false _ A4.out).mono ?_); rintro e w' ⟨rfl, ⟨nd, rfl⟩⟩; refine ⟨_, rfl, ?_⟩))
        go_ret
        exact ⟨by first | rfl | (simp; done) | (simp [*]; done), by repeat (first | exact Drawn0.refl _ | apply Drawn0.step)⟩
      · rw [if_neg c8] at H
        have c8b0 : decide (a0 < a1) = false := decide_eq_false c8
        clear c8
        by_cases c9 : a0 > a1
        · rw [if_pos c9] at H
          have c9b0 : decide (a1 < a0) = true := decide_eq_true c9
          clear c9
          obtain rfl := Option.some.inj H
          go_enter Tryd.func90, Tryd.ntmps90
          go_wp2_with (first | ((with_reducible refine gate_callee (f := 100) rfl ?_); refine goesL_ (some 8) rfl rfl Tryd.func100 (by kernel_rfl) rfl #[.int .i64 a0] rfl (by (try simp only [List.map_toArray, List.map_cons, List.map_nil]); first | done | rfl | (simp only [List.length_drop, List.length_take]; rfl)) ?_; (with_reducible refine (cmp_isNaN_int.calls a0 false _ A3.out).mono ?_); rintro e w' ⟨rfl, ⟨nd, rfl⟩⟩; refine ⟨_, rfl, ?_⟩) | ((with_reducible refine gate_callee (f := 100) rfl ?_); refine goesL_ (some 10) rfl rfl Tryd.func100 (by kernel_rfl) rfl #[.int .i64 a1] rfl (by (try simp only [List.map_toArray, List.map_cons, List.map_nil]); first | done | rfl | (simp only [List.length_drop, List.length_take]; rfl)) ?_; (with_reducible refine (cmp_isNaN_int.calls a1 false _ A4.out).mono ?_); rintro e w' ⟨rfl, ⟨nd, rfl⟩⟩; refine ⟨_, rfl, ?_⟩))
          go_ret
          exact ⟨by first | rfl | (simp; done) | (simp [*]; done), by repeat (first | exact Drawn0.refl _ | apply Drawn0.step)⟩
        · rw [if_neg c9] at H
          have c9b0 : decide (a1 < a0) = false := decide_eq_false c9
          clear c9
          obtain rfl := Option.some.inj H
          go_enter Tryd.func90, Tryd.ntmps90
          go_wp2_with (first | ((with_reducible refine gate_callee (f := 100) rfl ?_); refine goesL_ (some 8) rfl rfl Tryd.func100 (by kernel_rfl) rfl #[.int .i64 a0] rfl (by (try simp only [List.map_toArray, List.map_cons, List.map_nil]); first | done | rfl | (simp only [List.length_drop, List.length_take]; rfl)) ?_; (with_reducible refine (cmp_isNaN_int.calls a0 false _ A3.out).mono ?_); rintro e w' ⟨rfl, ⟨nd, rfl⟩⟩; refine ⟨_, rfl, ?_⟩) | ((with_reducible refine gate_callee (f := 100) rfl ?_); refine goesL_ (some 10) rfl rfl Tryd.func100 (by kernel_rfl) rfl #[.int .i64 a1] rfl (by (try simp only [List.map_toArray, List.map_cons, List.map_nil]); first | done | rfl | (simp only [List.length_drop, List.length_take]; rfl)) ?_; (with_reducible refine (cmp_isNaN_int.calls a1 false _ A4.out).mono ?_); rintro e w' ⟨rfl, ⟨nd, rfl⟩⟩; refine ⟨_, rfl, ?_⟩))
          go_ret
          exact ⟨by first | rfl | (simp; done) | (simp [*]; done), by repeat (first | exact Drawn0.refl _ | apply Drawn0.step)⟩
def slices_Compare_int_int.l0 : Nat → List Int → List Int → List Int → Int → Int → Option (Int)
  | 0, _, _, _, _, _ => none
  | k + 1, x0, x1, x9, x10, x11 => if x11 < x10 then (if 0 ≤ x11 then (if x11 < (x9.length : Int) then (if x11 ≥ (x1.length : Int) then (some 1) else (if x11 < (x1.length : Int) then ((cmp_Compare_int.f (rd x9 x11) (rd x1 x11)).bind fun t105 => (if t105 = 0 then (slices_Compare_int_int.l0 k x0 x1 x9 x10 (wrap64 (x11 + 1))) else (some t105))) else (none))) else (none)) else (none)) else (if (x0.length : Int) < (x1.length : Int) then (some (-1)) else (some 0))
def slices_Compare_int_int.f (k : Nat) (l0 : List Int) (l1 : List Int) : Option (Int) := slices_Compare_int_int.l0 k l0 l1 l0 (l0.length : Int) 0
set_option maxHeartbeats 8000000 in
set_option maxRecDepth 100000 in
theorem slices_Compare_int_int.calls (k : Nat) (A0 : Option Addr) (c0 : Nat) (l0 : List Int) (A1 : Option Addr) (c1 : Nat) (l1 : List Int) (r : Int) (w : World) (hr0 : Kd.C (Kd.int .i64) w A0 l0.length l0) (hc0 : l0.length ≤ c0) (hr1 : Kd.C (Kd.int .i64) w A1 l1.length l1) (hc1 : l1.length ≤ c1) (h : slices_Compare_int_int.f k l0 l1 = some r) :
    Calls Tryd.prog 78 #[.slice A0 l0.length c0, .slice A1 l1.length c1] w fun e w' => e = .returned (.int .i64 r) ∧ Drawn0 w w' := by
  have HR0 := Aside0.mk hr0
  have HC0 := Aside0.mk hc0
  clear hr0 hc0
  have HR1 := Aside0.mk hr1
  have HC1 := Aside0.mk hc1
  clear hr1 hc1
  have H : (slices_Compare_int_int.l0 k l0 l1 l0 (l0.length : Int) 0) = some r := h
  clear h
  have H' := Aside0.mk H
  clear H
  go_enter Tryd.func78, Tryd.ntmps78
  go_wp2
  go_loopg [11] k (fun kq v11 w' => ∃ (x11_1 : Int), v11 = .int .i64 x11_1 ∧ Aside0 (slices_Compare_int_int.l0 kq l0 l1 l0 (l0.length : Int) x11_1 = some r) ∧ Aside0 (kq ≤ k) ∧ Drawn0 w w')
  case atStart => exact ⟨(0), (by first | rfl | (simp; done) | (simp [*]; done)), H', ⟨Nat.le_refl _⟩, by repeat (first | exact Drawn0.refl _ | apply Drawn0.step)⟩
  case round =>
    clear H'
    try clear c1
    try clear p2
    obtain ⟨x11_1, rfl, HA, HK1, ⟨m1, rfl⟩⟩ := hrel
    cases gk with
    | zero => exact absurd HA.out (by simp [slices_Compare_int_int.l0])
    | succ k1 =>
      have H := HA.out
      clear HA
      simp only [slices_Compare_int_int.l0] at H
      by_cases c3 : x11_1 < (l0.length : Int)
      · rw [if_pos c3] at H
        have c3b0 : decide (x11_1 < (l0.length : Int)) = true := decide_eq_true c3
        clear c3
        by_cases c4 : 0 ≤ x11_1
        · rw [if_pos c4] at H
          have c4b0 : decide (0 ≤ x11_1) = true := decide_eq_true c4
          clear c4
          by_cases c5 : x11_1 < (l0.length : Int)
          · rw [if_pos c5] at H
            have c5b0 : decide (x11_1 < (l0.length : Int)) = true := decide_eq_true c5
            clear c5
            by_cases c6 : x11_1 ≥ (l1.length : Int)
            · rw [if_pos c6] at H
              have c6b0 : decide ((l1.length : Int) ≤ x11_1) = true := decide_eq_true c6
              clear c6
              obtain rfl := Option.some.inj H
              have p103 : 0 ≤ (x11_1 : Int) := of_decide_eq_true (by first | (with_reducible assumption) | assumption)
              have q103 : x11_1 < (l0.length : Int) := of_decide_eq_true (by first | (with_reducible assumption) | assumption)
              obtain ⟨ad103, e103, hx103_0⟩ := Kd.at_int HR0.out x11_1 p103 q103
              cases e103
              replace p103 := eq_true p103
              replace q103 := eq_true q103
              go_wp2
              go_ret
              exact ⟨by first | rfl | (simp; done) | (simp [*]; done), by repeat (first | exact Drawn0.refl _ | apply Drawn0.step)⟩
            · rw [if_neg c6] at H
              have c6b0 : decide ((l1.length : Int) ≤ x11_1) = false := decide_eq_false c6
              clear c6
              by_cases c7 : x11_1 < (l1.length : Int)
              · rw [if_pos c7] at H
                have c7b0 : decide (x11_1 < (l1.length : Int)) = true := decide_eq_true c7
                clear c7
                replace H := Option.bind_eq_some_iff.mp H
                obtain ⟨t105, A80, H⟩ := H
                replace H : (if t105 = 0 then (slices_Compare_int_int.l0 k1 l0 l1 l0 (l0.length : Int) (wrap64 (x11_1 + 1))) else (some t105)) = some r := H
                have A8 := Aside0.mk A80
                clear A80
                by_cases c9 : t105 = 0
                · rw [if_pos c9] at H
                  have c9b0 : (t105 == 0) = true := beq_iff_eq.mpr c9
                  have c9b1 : (t105 != 0) = false := bne_eq_false_iff_eq.mpr c9
                  clear c9
                  have H' := Aside0.mk H
                  clear H
                  have p103 : 0 ≤ (x11_1 : Int) := of_decide_eq_true (by first | (with_reducible assumption) | assumption)
                  have q103 : x11_1 < (l0.length : Int) := of_decide_eq_true (by first | (with_reducible assumption) | assumption)
                  obtain ⟨ad103, e103, hx103_0⟩ := Kd.at_int HR0.out x11_1 p103 q103
                  cases e103
                  replace p103 := eq_true p103
                  replace q103 := eq_true q103
                  have p104 : 0 ≤ (x11_1 : Int) := of_decide_eq_true (by first | (with_reducible assumption) | assumption)
                  have q104 : x11_1 < (l1.length : Int) := of_decide_eq_true (by first | (with_reducible assumption) | assumption)
                  obtain ⟨ad104, e104, hx104_0⟩ := Kd.at_int HR1.out x11_1 p104 q104
                  cases e104
                  replace p104 := eq_true p104
                  replace q104 := eq_true q104
                  go_wp2_with (first | ((with_reducible refine gate_callee (f := 90) rfl ?_); refine goesL_ (some 26) rfl rfl Tryd.func90 (by kernel_rfl) rfl #[.int .i64 (rd l0 x11_1), .int .i64 (rd l1 x11_1)] rfl (by (try simp only [List.map_toArray, List.map_cons, List.map_nil]); first | done | rfl | (simp only [List.length_drop, List.length_take]; rfl)) ?_; (with_reducible refine (cmp_Compare_int.calls (rd l0 x11_1) (rd l1 x11_1) t105 _ A8.out).mono ?_); rintro e w' ⟨rfl, ⟨nd, rfl⟩⟩; refine ⟨_, rfl, ?_⟩))
                  go_roundg k1
                  case measure => have := HK1.out; omega
                  case rel => exact ⟨(wrap64 (x11_1 + 1)), (by first | rfl | (simp; done) | (simp [*]; done)), H', ⟨by have := HK1.out; omega⟩, by repeat (first | exact Drawn0.refl _ | apply Drawn0.step)⟩
                · rw [if_neg c9] at H
                  have c9b0 : (t105 == 0) = false := beq_eq_false_iff_ne.mpr c9
                  have c9b1 : (t105 != 0) = true := bne_iff_ne.mpr c9
                  obtain rfl := Option.some.inj H
                  have p103 : 0 ≤ (x11_1 : Int) := of_decide_eq_true (by first | (with_reducible assumption) | assumption)
                  have q103 : x11_1 < (l0.length : Int) := of_decide_eq_true (by first | (with_reducible assumption) | assumption)
                  obtain ⟨ad103, e103, hx103_0⟩ := Kd.at_int HR0.out x11_1 p103 q103
                  cases e103
                  replace p103 := eq_true p103
                  replace q103 := eq_true q103
                  have p104 : 0 ≤ (x11_1 : Int) := of_decide_eq_true (by first | (with_reducible assumption) | assumption)
                  have q104 : x11_1 < (l1.length : Int) := of_decide_eq_true (by first | (with_reducible assumption) | assumption)
                  obtain ⟨ad104, e104, hx104_0⟩ := Kd.at_int HR1.out x11_1 p104 q104
                  cases e104
                  replace p104 := eq_true p104
                  replace q104 := eq_true q104
                  go_wp2_with (first | ((with_reducible refine gate_callee (f := 90) rfl ?_); refine goesL_ (some 26) rfl rfl Tryd.func90 (by kernel_rfl) rfl #[.int .i64 (rd l0 x11_1), .int .i64 (rd l1 x11_1)] rfl (by (try simp only [List.map_toArray, List.map_cons, List.map_nil]); first | done | rfl | (simp only [List.length_drop, List.length_take]; rfl)) ?_; (with_reducible refine (cmp_Compare_int.calls (rd l0 x11_1) (rd l1 x11_1) t105 _ A8.out).mono ?_); rintro e w' ⟨rfl, ⟨nd, rfl⟩⟩; refine ⟨_, rfl, ?_⟩))
                  go_ret
                  exact ⟨by first | rfl | (simp; done) | (simp [*]; done), by repeat (first | exact Drawn0.refl _ | apply Drawn0.step)⟩
              · rw [if_neg c7] at H
                exact absurd H (by simp)
          · rw [if_neg c5] at H
            exact absurd H (by simp)
        · rw [if_neg c4] at H
          exact absurd H (by simp)
      · rw [if_neg c3] at H
        have c3b0 : decide (x11_1 < (l0.length : Int)) = false := decide_eq_false c3
        clear c3
        by_cases c10 : (l0.length : Int) < (l1.length : Int)
        · rw [if_pos c10] at H
          have c10b0 : decide ((l0.length : Int) < (l1.length : Int)) = true := decide_eq_true c10
          have c10b1 : decide (l0.length < l1.length) = true := decide_eq_true (Int.ofNat_lt.mp c10)
          clear c10
          obtain rfl := Option.some.inj H
          go_wp2
          go_ret
          exact ⟨by first | rfl | (simp; done) | (simp [*]; done), by repeat (first | exact Drawn0.refl _ | apply Drawn0.step)⟩
        · rw [if_neg c10] at H
          have c10b0 : decide ((l0.length : Int) < (l1.length : Int)) = false := decide_eq_false c10
          have c10b1 : decide (l0.length < l1.length) = false := decide_eq_false (fun h => c10 (Int.ofNat_lt.mpr h))
          clear c10
          obtain rfl := Option.some.inj H
          go_wp2
          go_ret
          exact ⟨by first | rfl | (simp; done) | (simp [*]; done), by repeat (first | exact Drawn0.refl _ | apply Drawn0.step)⟩
end Go.Proofs.YtpfenoioeajkmaaDoor.PC
end

section
set_option linter.unusedVariables false
set_option linter.unusedSimpArgs false
namespace Go.Proofs.YtpfenoioeajkmaaDoor.X
open Go.RowKit Go.Proofs.YtpfenoioeajkmaaDoorW.PrintWords Go.Proofs.YtpfenoioeajkmaaDoorW.PrintLast Go.Proofs.YtpfenoioeajkmaaDoorW.PrintMore
def cmpI (a b : Int) : Int := if a < b then -1 else if a > b then 1 else 0
def cmpP (a b c d : Int) : Int := if cmpI a c ≠ 0 then cmpI a c else cmpI b d
theorem cmpI_f (a b : Int) : PC.cmp_Compare_int.f a b = some (cmpI a b) := by
  unfold PC.cmp_Compare_int.f PC.cmp_isNaN_int.f cmpI
  simp only [bne_self_eq_false, Option.bind_some, Bool.false_eq_true, if_false]
  split
  · rfl
  · split <;> rfl
theorem compare_f (a b c d : Int) : PC.slices_Compare_int_int.f 3 [a, b] [c, d] = some (cmpP a b c d) := by
  unfold PC.slices_Compare_int_int.f cmpP
  simp [PC.slices_Compare_int_int.l0, cmpI_f, rd, wrap64]
  by_cases h1 : cmpI a c = 0
  · simp [h1]
    by_cases h2 : cmpI b d = 0
    · simp [h2]
    · simp [h2]
  · simp [h1]
theorem pair_C (w : World) (g : Nat) (a b : Int) (h0 : w.cell? ⟨g, 0, none⟩ = some (.int .i64 a)) (h1 : w.cell? ⟨g, 1, none⟩ = some (.int .i64 b)) : Kd.C (Kd.int .i64) w (some ⟨g, 0, none⟩) 2 [a, b] :=
  Kd.C_of_reads (d := (0 : Int)) (h1 := fun _ => rfl) ⟨rfl, by decide, fun _ => ⟨_, rfl, fun j hj => by
    have : j = 0 ∨ j = 1 := by omega
    rcases this with rfl | rfl
    · simpa [Addr.add] using h0
    · simpa [Addr.add] using h1⟩⟩
set_option maxHeartbeats 2000000 in
set_option maxRecDepth 100000 in
theorem compare_calls (a b c d : Int) (w : World) : Calls Tryd.prog 67 #[ptV a b, ptV c d] w fun e w' => e = .returned (.int .i64 (cmpP a b c d)) ∧ Below w.heap.size w w' := by
  unfold ptV
  go_enter Tryd.func67, Tryd.ntmps67
  go_wp2_with fail
  have h0 : ((w.alloc (.cells #[.int .i64 a, .int .i64 b] 63)).alloc (.cells #[.int .i64 c, .int .i64 d] 63)).drew.cell? ⟨w.heap.size, 0, none⟩ = some (.int .i64 a) := by simp
  have h1 : ((w.alloc (.cells #[.int .i64 a, .int .i64 b] 63)).alloc (.cells #[.int .i64 c, .int .i64 d] 63)).drew.cell? ⟨w.heap.size, 1, none⟩ = some (.int .i64 b) := by simp
  have h2 : ((w.alloc (.cells #[.int .i64 a, .int .i64 b] 63)).alloc (.cells #[.int .i64 c, .int .i64 d] 63)).drew.cell? ⟨w.heap.size + 1, 0, none⟩ = some (.int .i64 c) := by simp
  have h3 : ((w.alloc (.cells #[.int .i64 a, .int .i64 b] 63)).alloc (.cells #[.int .i64 c, .int .i64 d] 63)).drew.cell? ⟨w.heap.size + 1, 1, none⟩ = some (.int .i64 d) := by simp
  have HB := Lib.hid ((below_one (w := w) (.cells #[.int .i64 a, .int .i64 b] 63)).alloc (by simp) (.cells #[.int .i64 c, .int .i64 d] 63)).drew
  have HC0 := Lib.hid (pair_C _ _ a b h0 h1)
  have HC1 := Lib.hid (pair_C _ _ c d h2 h3)
  clear h0 h1 h2 h3
  refine start_ (n := 4) (S := fun w' => True) (ds := []) #[false, false, false, false] (by kernel_rfl) rfl rfl trivial (fun hHeld => ?_)
  refine pure_ (i := 0) (N := (some 5)) (v := ?_) (a' := ?_) #[true, false, false, false] rfl rfl (by kernel_rfl) (fun _ _ _ h => h) (Or.inl ⟨by rfl, ?_⟩) ?_ ?_
  rotate_left
  · intro w'; go_simp; first | done | with_reducible rfl
  rotate_left
  · simp only [Act.put, List.setIfInBounds_toArray, List.set_cons_zero, List.set_cons_succ, i64_w, i32_w]; rfl
  refine pure_ (i := 1) (N := (some 6)) (v := ?_) (a' := ?_) #[true, true, false, false] rfl rfl (by kernel_rfl) (fun _ _ _ h => h) (Or.inl ⟨by rfl, ?_⟩) ?_ ?_
  rotate_left
  · intro w'; go_simp; first | done | with_reducible rfl
  rotate_left
  · simp only [Act.put, List.setIfInBounds_toArray, List.set_cons_zero, List.set_cons_succ, i64_w, i32_w]; rfl
  refine one_ (i := 2) (N := (some 7)) #[true, true, true, false] rfl rfl (by kernel_rfl) (by decide) (fun K hK => ?_)
  refine goes_ Tryd.func78 (by kernel_rfl) rfl #[.slice (some ⟨w.heap.size, 0, none⟩) 2 2, .slice (some ⟨w.heap.size + 1, 0, none⟩) 2 2] (by rfl) rfl rfl (by (try simp only [List.map_toArray, List.map_cons, List.map_nil]); first | done | rfl) ?_
  refine (PC.slices_Compare_int_int.calls 3 _ 2 [a, b] _ 2 [c, d] _ _ HC0.out (Nat.le_refl 2) HC1.out (Nat.le_refl 2) (compare_f a b c d)).mono ?_
  rintro e w2 ⟨rfl, nd, rfl⟩
  refine ⟨_, rfl, ?_⟩
  refine hK.out _ _ trivial (fun hHeld => ?_)
  clear hK K
  refine norm_ (a' := ?_) ?_ ?_
  rotate_left
  · show Act.put _ (some 7) _ = _; simp only [Act.put, List.setIfInBounds_toArray, List.set_cons_zero, List.set_cons_succ, i64_w, i32_w]; rfl
  refine pure_ (i := 3) (N := (some 4)) (v := ?_) (a' := ?_) #[true, true, true, true] rfl rfl (by kernel_rfl) (fun _ _ _ h => h) (Or.inl ⟨by rfl, ?_⟩) ?_ ?_
  rotate_left
  · intro w'; go_simp; first | done | with_reducible rfl
  rotate_left
  · simp only [Act.put, List.setIfInBounds_toArray, List.set_cons_zero, List.set_cons_succ, i64_w, i32_w]; rfl
  refine done_ (by kernel_rfl) ?_
  go_wp2
  go_ret
  exact ⟨rfl, pw_below_drewN HB.out nd⟩
end Go.Proofs.YtpfenoioeajkmaaDoor.X
end
