/- Texts of this claim, merged by a program (wip/tools/shake.py); what nothing names is left out. -/
import Derived.Below
import Derived.Deep.Draws
import Derived.Deep.AppendLies
import Derived.Maps.AppendAt
import Derived.OwnWalk
import Derived.Laws.BytesArg
import Derived.Laws.MakeOwn
import Derived.Laws.OwnMore
import Derived.Deep.OwnRows
import Derived.Tactics
import Derived.Lib.ConvBytes
import Derived.Laws.Slices
import Derived.WalkKit
import Derived.KernelRfl
import Derived.RowKit3
import Derived.Deep.LoopGhost
import Derived.Deep.QuietTactic
import Derived.BigQuiet
import Derived.WideLaws
import Derived.Deep.DeepCutAuto
import Derived.Deep.CutBlock
import Derived.Deep.RegionHeld3
import Derived.Laws.Rows
import Derived.Lib.AppendStr
import Derived.ArgAppend
import Derived.Laws.IdiomCopy
import Derived.RowKit
import Derived.OrdersHeld
import Derived.Laws.BitsLemmas
import Derived.Test.YtjpfalanoifpbaaDoorProg
import Derived.Lib.Hide
import Derived.Shelf.Strings.SlTrimAscii
import Derived.Laws.RangeString
import Derived.Outline
import Derived.Shelf.Strings.Trim
import Derived.Shelf.Small.Utf8
import Derived.Shelf.Small.Bits
import Derived.Shelf.Small.Strs
import Derived.Shelf.Small.Wraps
import Derived.Shelf.Strconv.Itoa0
import Derived.Shelf.Strings.Search1
import Derived.Shelf.GgClosure.StringsIndexFunc
import Derived.Ground.GgwProg
import Derived.Shelf.GgClosure.StringsIndexFuncTop
import Derived.Shelf.GgClosure.StringsRunes
import Derived.Shelf.Unicode.Decode
import Derived.Shelf.Strings.Runes
import Derived.Shelf.Strings.AsciiSet
import Derived.Shelf.Unicode.DecodeSlow
import Derived.Shelf.Unicode.DecodeAny
import Derived.Shelf.Unicode.DecodeLast
import Derived.Shelf.Slices.Turned
import Derived.Shelf.Slices.Equal
import Derived.Ground.Names2Prog
import Derived.Shelf.Slices.SearchI
import Derived.Shelf.Slices.Empties2
import Derived.Ground.SlgnProg
import Derived.Shelf.SlicesE.Index
namespace Go.Proofs.YtjpfalanoifpbaaDoor.T
end Go.Proofs.YtjpfalanoifpbaaDoor.T
namespace Go.Proofs.YtjpfalanoifpbaaDoorW.PrintLast
end Go.Proofs.YtjpfalanoifpbaaDoorW.PrintLast
namespace Go.Proofs.YtjpfalanoifpbaaDoorW.PrintMore
end Go.Proofs.YtjpfalanoifpbaaDoorW.PrintMore
namespace Go.Proofs.YtjpfalanoifpbaaDoorW.PrintWords
end Go.Proofs.YtjpfalanoifpbaaDoorW.PrintWords
namespace Go.Proofs.YtjpfalanoifpbaaDoorW.PrintWords.Kd
end Go.Proofs.YtjpfalanoifpbaaDoorW.PrintWords.Kd
section
set_option linter.unusedVariables false
set_option linter.unusedSimpArgs false
namespace Go.Proofs.YtjpfalanoifpbaaDoorW.PrintWords
open Go.RowKit
structure Drawn0 (w w' : World) : Prop where mk :: (out : ∃ n, w' = w.drewN n)
theorem Drawn0.refl (w : World) : Drawn0 w w := ⟨⟨0, rfl⟩⟩
theorem Drawn0.step {w w' : World} (h : Drawn0 w w') (n : Nat) : Drawn0 w (w'.drewN n) := by
  obtain ⟨m, rfl⟩ := h
  exact ⟨⟨m + n, World.drewN_drewN ..⟩⟩
theorem Drawn0.grown {w w' : World} (h : Drawn0 w w') : Grown w w' := by
  obtain ⟨n, rfl⟩ := h
  induction n with
  | zero => exact Grown.refl _
  | succ n ih => rw [← World.drew_drewN]; exact Grown.drew ih
theorem Drawn0.below {w w' : World} (h : Drawn0 w w') : Below w.heap.size w w' := by
  obtain ⟨n, rfl⟩ := h
  induction n with
  | zero => exact Below.refl _ _
  | succ n ih => rw [← World.drew_drewN]; exact ih.drew
def rd (xs : List Int) (i : Int) : Int := xs.getD i.toNat 0
theorem below_alloc {w W : World} (h : Below w.heap.size w W) (o : Obj) : Below w.heap.size w (W.alloc o) := h.alloc h.size o
theorem pw_below_drewN {B : Nat} {w W : World} (h : Below B w W) (n : Nat) : Below B w (W.drewN n) := ⟨h.os, h.tape, h.output, h.size, h.block⟩
theorem below_then {B : Nat} {w w1 w2 : World} (h : Below B w w1) (hB : B ≤ w1.heap.size) (k : Below w1.heap.size w1 w2) : Below B w w2 :=
  h.trans ⟨k.os, k.tape, k.output, k.size, fun i hi => k.block i (Nat.lt_of_lt_of_le hi hB)⟩
theorem grown_of_below {w w1 : World} (h : Below w.heap.size w w1) (row : Option Nat) : w.grownBy w1 row := ⟨h.os, h.tape, h.output, h.size, fun i hi _ => h.block i hi⟩
theorem pw_cell_below {w w1 : World} (h : Below w.heap.size w w1) {a : Addr} {v : Value} (hc : w.cell? a = some v) : w1.cell? a = some v := (h.cell (World.block_lt_of_cell? w a hc)).trans hc
def ReadsInt (w : World) (k : IntKind) (A : Option Addr) (n : Nat) (xs : List Int) : Prop :=
  xs.length = n ∧ n ≤ 9223372036854775807 ∧ (0 < n → ∃ ad, A = some ad ∧ ∀ j, j < n → w.cell? (ad.add j) = some (.int k (xs.getD j 0)))
theorem ReadsInt.at_ {w : World} {k : IntKind} {A : Option Addr} {n : Nat} {xs : List Int} (h : ReadsInt w k A n xs) (i : Int) (h0 : 0 ≤ i) (h1 : i < n) : ∃ ad, A = some ad ∧ w.cell? (ad.add i.toNat) = some (.int k (rd xs i)) := by
  obtain ⟨ad, e, hc⟩ := h.2.2 (by omega)
  exact ⟨ad, e, hc _ (by omega)⟩
theorem ReadsInt.below {w w1 : World} {k : IntKind} {A : Option Addr} {n : Nat} {xs : List Int} (h : ReadsInt w k A n xs) (hb : Below w.heap.size w w1) : ReadsInt w1 k A n xs :=
  ⟨h.1, h.2.1, fun hn => by
    obtain ⟨ad, e, hc⟩ := h.2.2 hn
    exact ⟨ad, e, fun j hj => pw_cell_below hb (hc j hj)⟩⟩
theorem own_nil (W : World) (base : Nat) (e : TypeId) (size : Nat) : W.ownsRow base e size (.slice none 0 0) 0 [] := ⟨by simp, .inl ⟨rfl, rfl⟩⟩
theorem own_base {w : World} {base : Nat} {e : TypeId} {size n : Nat} {v : Value} {xs : List Value} (h : w.ownsRow base e size v n xs) (k : Nat) (hk : v.ownBlock = some k) : base ≤ k := by
  rcases h.2 with ⟨rfl, _⟩ | ⟨g, cap, cur, rfl, hb, _⟩
  · simp [Value.ownBlock] at hk
  · have : g = k := by simpa [Value.ownBlock] using hk
    omega
theorem own_lt {w : World} {base : Nat} {e : TypeId} {size n : Nat} {v : Value} {xs : List Value} (h : w.ownsRow base e size v n xs) (k : Nat) (hk : v.ownBlock = some k) : k < w.heap.size := by
  rcases h.2 with ⟨rfl, _⟩ | ⟨g, cap, cur, rfl, hb, hh, _⟩
  · simp [Value.ownBlock] at hk
  · have : g = k := by simpa [Value.ownBlock] using hk
    subst this
    exact (Array.getElem?_eq_some_iff.1 hh).1
theorem pw_own_below {w w1 : World} {base : Nat} {e : TypeId} {size n : Nat} {v : Value} {xs : List Value} (h : w.ownsRow base e size v n xs) (hb : Below w.heap.size w w1) : w1.ownsRow base e size v n xs :=
  h.kept (grown_of_below hb none) (by cases v.ownBlock <;> simp)
theorem ReadsInt.take_ {w : World} {k : IntKind} {A : Option Addr} {n : Nat} {xs : List Int} (h : ReadsInt w k A n xs) (i : Nat) (hi : i ≤ n) : ReadsInt w k A i (xs.take i) := by
  refine ⟨by rw [List.length_take, h.1]; omega, by have := h.2.1; omega, fun hp => ?_⟩
  obtain ⟨ad, e, hc⟩ := h.2.2 (by omega)
  refine ⟨ad, e, fun j hj => ?_⟩
  rw [hc j (by omega)]
  simp [List.getD_eq_getElem?_getD, hj]
def LeO {α : Type} (a b : Option α) : Prop := ∀ r, a = some r → b = some r
theorem LeO.refl {α : Type} (a : Option α) : LeO a a := fun _ h => h
theorem LeO.none {α : Type} (b : Option α) : LeO Option.none b := fun _ h => by cases h
theorem LeO.trans {α : Type} {a b c : Option α} (h : LeO a b) (k : LeO b c) : LeO a c := fun r hr => k r (h r hr)
theorem LeO.bind {α β : Type} {a a' : Option α} {f f' : α → Option β} (h : LeO a a') (k : ∀ x, LeO (f x) (f' x)) : LeO (a.bind f) (a'.bind f') := by
  intro r hr
  obtain ⟨x, hx, hf⟩ := Option.bind_eq_some_iff.1 hr
  exact Option.bind_eq_some_iff.2 ⟨x, h x hx, k x r hf⟩
theorem LeO.map {α β : Type} {a a' : Option α} (f : α → β) (h : LeO a a') : LeO (a.map f) (a'.map f) := by
  intro r hr
  obtain ⟨x, hx, hf⟩ := Option.map_eq_some_iff.1 hr
  exact Option.map_eq_some_iff.2 ⟨x, h x hx, hf⟩
def Reps {α : Type} (R : α → List Value → Prop) (size : Nat) (ps : List α) (cs : List Value) : Prop :=
  cs.length = ps.length * size ∧ ∀ j p, ps[j]? = some p → R p ((cs.drop (j * size)).take size)
theorem Reps.none {α : Type} (R : α → List Value → Prop) (size : Nat) : Reps R size [] [] := ⟨by simp, fun j p h => by simp at h⟩
theorem Reps.snoc {α : Type} {R : α → List Value → Prop} {size : Nat} {ps : List α} {cs c : List Value} {p : α} (h : Reps R size ps cs) (hp : R p c) (hc : c.length = size) : Reps R size (ps ++ [p]) (cs ++ c) := by
  refine ⟨by rw [List.length_append, h.1, hc, List.length_append, List.length_singleton, Nat.add_mul, Nat.one_mul], fun j q hq => ?_⟩
  rcases Nat.lt_or_ge j ps.length with hj | hj
  · rw [List.getElem?_append_left hj] at hq
    have h1 : j * size + size ≤ cs.length := by rw [h.1, ← Nat.succ_mul]; exact Nat.mul_le_mul_right _ hj
    have h2 := h.2 j q hq
    rw [List.drop_append_of_le_length (by omega), List.take_append_of_le_length (by rw [List.length_drop]; omega)]
    exact h2
  · have hj' : j = ps.length := by
      have := (List.getElem?_eq_some_iff.1 hq).1
      rw [List.length_append, List.length_singleton] at this
      omega
    subst hj'
    have hq' : p = q := by simpa using hq
    subst hq'
    rw [← h.1, List.drop_left, ← hc, List.take_length]
    exact hp
theorem Reps.imp_ {α : Type} {R R' : α → List Value → Prop} {size : Nat} {ps : List α} {cs : List Value} (h : Reps R size ps cs) (hR : ∀ p c, R p c → R' p c) : Reps R' size ps cs := ⟨h.1, fun j p hj => hR _ _ (h.2 j p hj)⟩
def ReadsRow {α : Type} (R : α → List Value → Prop) (size : Nat) (w : World) (A : Option Addr) (n : Nat) (ps : List α) : Prop :=
  ps.length = n ∧ n ≤ 9223372036854775807 ∧ (0 < n → ∃ ad, A = some ad ∧ ∀ j p, ps[j]? = some p → ∃ c, c.length = size ∧ R p c ∧ ∀ i u, c[i]? = some u → w.cell? (ad.add (j * size + i)) = some u)
theorem ReadsRow.imp_ {α : Type} {R R' : α → List Value → Prop} {size : Nat} {w w1 : World} {A : Option Addr} {n : Nat} {ps : List α} (h : ReadsRow R size w A n ps) (hb : Below w.heap.size w w1) (hR : ∀ p c, R p c → R' p c) : ReadsRow R' size w1 A n ps :=
  ⟨h.1, h.2.1, fun hn => by
    obtain ⟨ad, e, hc⟩ := h.2.2 hn
    refine ⟨ad, e, fun j p hj => ?_⟩
    obtain ⟨c, hs, hr, hcell⟩ := hc j p hj
    exact ⟨c, hs, hR _ _ hr, fun i u hu => pw_cell_below hb (hcell i u hu)⟩⟩
theorem own_reads_row {α : Type} {R : α → List Value → Prop} {w : World} {base n size : Nat} {e : TypeId} {v : Value} {ps : List α} {cs : List Value} (h : w.ownsRow base e size v n cs) (hR : Reps R size ps cs) (hn : ps.length = n) :
    ∃ A c, v = .slice A n c ∧ ReadsRow R size w A n ps := by
  rcases Nat.eq_zero_or_pos n with h0 | h0
  · rcases h.2 with ⟨rfl, rfl⟩ | ⟨g, cap, cur, rfl, _⟩
    · exact ⟨none, 0, rfl, hn, by omega, fun hp => absurd hp (by omega)⟩
    · exact ⟨_, cap, rfl, hn, by omega, fun hp => absurd hp (by omega)⟩
  · obtain ⟨g, cap, rfl, _, _⟩ := h.form h0
    have hm : n ≤ 9223372036854775807 := by
      rcases h.2 with ⟨_, h1⟩ | ⟨g', cap', cur, he, _, _, h1, h2, _⟩
      · omega
      · simp only [maxLen] at h2
        omega
    refine ⟨_, cap, rfl, hn, hm, fun _ => ⟨_, rfl, fun j p hj => ⟨(cs.drop (j * size)).take size, ?_, hR.2 j p hj, fun i u hu => ?_⟩⟩⟩
    · have hjl := (List.getElem?_eq_some_iff.1 hj).1
      have h1 : j * size + size ≤ cs.length := by rw [hR.1, ← Nat.succ_mul]; exact Nat.mul_le_mul_right _ hjl
      rw [List.length_take, List.length_drop]
      omega
    · refine h.cells (g := g) rfl _ u ?_
      rw [List.getElem?_take] at hu
      split at hu
      · rw [List.getElem?_drop] at hu
        exact hu
      · cases hu
section
variable {P : Program} {ops : Array Oper} {rest : List Oper} {o : Oper} {a : Act} {Q : Exit → Act → World → Prop}
theorem print_append_cells {w0 W : World} (base : Nat) (hgd : o.guard = none) (s x : Operand) (t e : TypeId) (z : Value) (size bytes : Nat)
    (ho : o.op = .call { callee := .builtin .append, args := #[s, x], argTypes := #[t, t] })
    (ht : P.underlying t = some (.slice e)) (hinfo : (P.info? e).map (fun i => (i.zero, i.size, i.bytes)) = some (some z, size, bytes)) (hz : z.cells.size = size) (hs0 : 0 < size) (hb0 : 0 < bytes)
    (v : Value) (n : Nat) (xs ys : List Value) (hs : a.eval s = v) (hx : a.eval x = .slice (some ⟨W.heap.size, 0, none⟩) 1 1) (hys : ys.length = size) (h1 : ∀ u ∈ ys, u.oneCell' = true)
    (HO : W.ownsRow base e size v n xs) (HB : Below base w0 W) (hbase : base ≤ W.heap.size) (hl : (n + 1) * bytes ≤ 140737488355328)
    (h : ∀ v1 w1, w1.ownsRow base e size v1 (n + 1) (xs ++ ys) → Below base w0 w1 → W.grownBy w1 v.ownBlock → (v1.ownBlock = v.ownBlock ∨ ∃ b, v1.ownBlock = some b ∧ W.heap.size ≤ b) → wpList P ops Q rest (a.put o.dst v1) w1) :
    wpList P ops Q (o :: rest) a (W.alloc (.cells ys.toArray e)) := by
  obtain ⟨i0, hi, hzz⟩ := Option.map_eq_some_iff.1 hinfo
  simp only [Prod.mk.injEq] at hzz
  obtain ⟨hz0, hz1, hz2⟩ := hzz
  have hlen : n + 1 ≤ 140737488355328 := Nat.le_trans (Nat.le_mul_of_pos_right _ hb0) hl
  refine wpList_append_own_at (W.alloc (.cells ys.toArray e)) hgd s x t ho base e i0 z size bytes ht hi hz0 hz1 hz2 hz hs0 v n xs hs (HO.alloc _) ⟨W.heap.size, 0, none⟩ 1 1 ys hx (by rw [hys]; simp)
    (by simpa using World.news_of_block (cs := ys.toArray) (t := e) (fr := (0, 0)) (heap_alloc_new W (.cells ys.toArray e))) h1 (by simp only [maxLen]; omega) hl (by simp; omega) ?_
  intro v1 w1 hown hg _ hat
  refine h v1 w1 hown ((HB.alloc hbase _).grown hg (by simp; omega) (own_base HO)) (World.grownBy.trans (World.grownBy_alloc W _ _) hg) ?_
  rcases hat with hat | hat
  · exact .inl hat
  · exact .inr ⟨_, hat, by simp⟩
end
theorem blk_set {w : World} {g : Nat} {t : TypeId} {cs : Array Value} (h : w.heap[g]? = some (.cells cs t (0, 0))) (i : Nat) (u : Value) : (w.setCell ⟨g, i, none⟩ u).heap[g]? = some (.cells (cs.setIfInBounds i u) t (0, 0)) := by
  simp [World.setCell, Array.getElem?_modify, h]
theorem blk_lt {w : World} {g : Nat} {o : Obj} (h : w.heap[g]? = some o) : g < w.heap.size := (Array.getElem?_eq_some_iff.1 h).1
theorem blk_cell {w : World} {g : Nat} {t : TypeId} {cs : Array Value} (h : w.heap[g]? = some (.cells cs t (0, 0))) (i : Nat) : w.cell? ⟨g, i, none⟩ = cs[i]? := cell_of_row w g i cs t (0, 0) h
theorem blk_frozen {w : World} {g : Nat} {t : TypeId} {cs : Array Value} (h : w.heap[g]? = some (.cells cs t (0, 0))) (i : Nat) : w.frozen? ⟨g, i, none⟩ = false := by simp [World.frozen?, h]
def KeepBut (w w' : World) (g : Nat) (row : Option Nat) : Prop := w.heap.size ≤ w'.heap.size ∧ ∀ i, i < w.heap.size → i ≠ g → some i ≠ row → w'.heap[i]? = w.heap[i]?
theorem KeepBut.refl (w : World) (g : Nat) (row : Option Nat) : KeepBut w w g row := ⟨Nat.le_refl _, fun _ _ _ _ => rfl⟩
theorem KeepBut.of_grown {w w1 : World} {row : Option Nat} (h : w.grownBy w1 row) (g : Nat) : KeepBut w w1 g row := ⟨h.size, fun i hi _ hr => h.block i hi hr⟩
theorem KeepBut.of_below {w w1 : World} (h : Below w.heap.size w w1) (g : Nat) (row : Option Nat) : KeepBut w w1 g row := ⟨h.size, fun i hi _ _ => h.block i hi⟩
theorem KeepBut.trans {w w1 w2 : World} {g : Nat} {row row1 : Option Nat} (h : KeepBut w w1 g row) (k : KeepBut w1 w2 g row1) (hr : row1 = row ∨ ∃ b, row1 = some b ∧ w.heap.size ≤ b) : KeepBut w w2 g row :=
  ⟨Nat.le_trans h.1 k.1, fun i hi hg hn => by
    refine (k.2 i (Nat.lt_of_lt_of_le hi h.1) hg ?_).trans (h.2 i hi hg hn)
    rcases hr with rfl | ⟨b, rfl, hb⟩
    · exact hn
    · intro e
      injection e with e
      omega⟩
theorem KeepBut.blk {w w1 : World} {g g' : Nat} {row : Option Nat} {o : Obj} (h : KeepBut w w1 g row) (hb : w.heap[g']? = some o) (hg : g' ≠ g) (hr : some g' ≠ row) : w1.heap[g']? = some o := (h.2 g' (blk_lt hb) hg hr).trans hb
theorem KeepBut.own {w w1 : World} {g : Nat} {row : Option Nat} {base : Nat} {e : TypeId} {size n : Nat} {v : Value} {xs : List Value} (h : KeepBut w w1 g row) (ho : w.ownsRow base e size v n xs) (hg : v.ownBlock ≠ some g) (hr : v.ownBlock = none ∨ v.ownBlock ≠ row) : w1.ownsRow base e size v n xs := by
  obtain ⟨h1, h2⟩ := ho
  refine ⟨h1, ?_⟩
  rcases h2 with h2 | ⟨b, cap, cur, rfl, hb, hh, r⟩
  · exact .inl h2
  · refine .inr ⟨b, cap, cur, rfl, hb, h.blk hh ?_ ?_, r⟩
    · intro e
      exact hg (by rw [← e]; rfl)
    · rcases hr with hr | hr
      · simp [Value.ownBlock] at hr
      · exact hr
def Ev {α : Type} (g : Nat → Option α) (r : α) : Prop := ∃ K, ∀ k, K ≤ k → g k = some r
theorem Ev.bind {α β : Type} {g : Nat → Option α} {f : Nat → α → Option β} {a : α} {r : β} (h : Ev g a) (k : Ev (fun n => f n a) r) : Ev (fun n => (g n).bind (f n)) r := by
  obtain ⟨K, h⟩ := h
  obtain ⟨K', k⟩ := k
  refine ⟨max K K', fun n hn => ?_⟩
  have h1 := h n (by omega)
  have h2 := k n (by omega)
  simp only [h1, Option.bind_some]
  exact h2
theorem Ev.step {α : Type} {g f : Nat → Option α} {r : α} (h : ∀ k, g (k + 1) = f k) (k : Ev f r) : Ev g r := by
  obtain ⟨K, k⟩ := k
  refine ⟨K + 1, fun n hn => ?_⟩
  obtain ⟨m, rfl⟩ : ∃ m, n = m + 1 := ⟨n - 1, by omega⟩
  rw [h]
  exact k m (by omega)
theorem Ev.congr {α : Type} {g f : Nat → Option α} {r : α} (h : ∀ k, g k = f k) (k : Ev f r) : Ev g r := by
  obtain ⟨K, k⟩ := k
  exact ⟨K, fun n hn => (h n).trans (k n hn)⟩
section
variable {P : Program} {ops : Array Oper} {o : Oper} {a : Act} {Q : Exit → Act → World → Prop} {K : Act → World → Prop}
theorem step_append_cells {w0 W : World} (base : Nat) (hw : Region.wanted o (yielded ops a.tmps) = true) (s x : Operand) (t e : TypeId) (z : Value) (size bytes : Nat)
    (ho : o.op = .call { callee := .builtin .append, args := #[s, x], argTypes := #[t, t] })
    (ht : P.underlying t = some (.slice e)) (hinfo : (P.info? e).map (fun i => (i.zero, i.size, i.bytes)) = some (some z, size, bytes)) (hz : z.cells.size = size) (hs0 : 0 < size) (hb0 : 0 < bytes)
    (v : Value) (n : Nat) (xs ys : List Value) (hs : a.eval s = v) (hx : a.eval x = .slice (some ⟨W.heap.size, 0, none⟩) 1 1) (hys : ys.length = size) (h1 : ∀ u ∈ ys, u.oneCell' = true)
    (HO : W.ownsRow base e size v n xs) (HB : Below base w0 W) (hbase : base ≤ W.heap.size) (hl : (n + 1) * bytes ≤ 140737488355328)
    (h : ∀ v1 w1, w1.ownsRow base e size v1 (n + 1) (xs ++ ys) → Below base w0 w1 → W.grownBy w1 v.ownBlock → (v1.ownBlock = v.ownBlock ∨ ∃ b, v1.ownBlock = some b ∧ W.heap.size ≤ b) → K (a.put o.dst v1) w1) :
    if Region.wanted o (yielded ops a.tmps) = true then Oper.wp P o a (W.alloc (.cells ys.toArray e)) K Q else K (a.put o.dst undef) (W.alloc (.cells ys.toArray e)) := by
  obtain ⟨i0, hi, hzz⟩ := Option.map_eq_some_iff.1 hinfo
  simp only [Prod.mk.injEq] at hzz
  obtain ⟨hz0, hz1, hz2⟩ := hzz
  have hlen : n + 1 ≤ 140737488355328 := Nat.le_trans (Nat.le_mul_of_pos_right _ hb0) hl
  rw [if_pos hw]
  obtain ⟨v1, w1, hr, hown, hg, _, hat⟩ := run_append_own_at (P := P) (W.alloc (.cells ys.toArray e)) base t o.type e i0 z size bytes ht hi hz0 hz1 hz2 hz hs0 v n xs (HO.alloc _) ⟨W.heap.size, 0, none⟩ 1 1 ys (by rw [hys]; simp)
    (by simpa using World.news_of_block (cs := ys.toArray) (t := e) (fr := (0, 0)) (heap_alloc_new W (.cells ys.toArray e))) h1 (by simp only [maxLen]; omega) hl (by simp; omega)
  unfold Oper.wp execOp
  simp only [ho, resolve, invoke, builtin, Sem.run_bind, Sem.run_pure, Result.andThen_ok, List.map_toArray, List.map_cons, List.map_nil, hs, hx, hr]
  refine h v1 w1 hown ((HB.alloc hbase _).grown hg (by simp; omega) (own_base HO)) (World.grownBy.trans (World.grownBy_alloc W _ _) hg) ?_
  rcases hat with hat | hat
  · exact .inl hat
  · exact .inr ⟨_, hat, by simp⟩
end
theorem own_weaken {w : World} {base base' : Nat} {e : TypeId} {size n : Nat} {v : Value} {xs : List Value} (h : w.ownsRow base e size v n xs) (hb : base' ≤ base) : w.ownsRow base' e size v n xs := by
  obtain ⟨h1, h2⟩ := h
  refine ⟨h1, ?_⟩
  rcases h2 with h2 | ⟨g, cap, cur, rfl, hg, r⟩
  · exact .inl h2
  · exact .inr ⟨g, cap, cur, rfl, Nat.le_trans hb hg, r⟩
section
variable {α : Type} {enc : α → Value} {d : α}
def encs (enc : α → Value) (xs : List α) : List Value := xs.map enc
def rdOf (d : α) (xs : List α) (i : Int) : α := xs.getD i.toNat d
theorem encs_length (xs : List α) : (encs enc xs).length = xs.length := by simp [encs]
def ReadsOf (enc : α → Value) (d : α) (w : World) (A : Option Addr) (n : Nat) (xs : List α) : Prop :=
  xs.length = n ∧ n ≤ 9223372036854775807 ∧ (0 < n → ∃ ad, A = some ad ∧ ∀ j, j < n → w.cell? (ad.add j) = some (enc (xs.getD j d)))
theorem ReadsOf.at_ {w : World} {A : Option Addr} {n : Nat} {xs : List α} (h : ReadsOf enc d w A n xs) (i : Int) (h0 : 0 ≤ i) (h1 : i < n) : ∃ ad, A = some ad ∧ w.cell? (ad.add i.toNat) = some (enc (rdOf d xs i)) := by
  obtain ⟨ad, e, hc⟩ := h.2.2 (by omega)
  exact ⟨ad, e, hc _ (by omega)⟩
theorem ReadsOf.below {w w1 : World} {A : Option Addr} {n : Nat} {xs : List α} (h : ReadsOf enc d w A n xs) (hb : Below w.heap.size w w1) : ReadsOf enc d w1 A n xs :=
  ⟨h.1, h.2.1, fun hn => by
    obtain ⟨ad, e, hc⟩ := h.2.2 hn
    exact ⟨ad, e, fun j hj => pw_cell_below hb (hc j hj)⟩⟩
theorem ReadsOf.take_ {w : World} {A : Option Addr} {n : Nat} {xs : List α} (h : ReadsOf enc d w A n xs) (i : Nat) (hi : i ≤ n) : ReadsOf enc d w A i (xs.take i) := by
  refine ⟨by rw [List.length_take, h.1]; omega, by have := h.2.1; omega, fun hp => ?_⟩
  obtain ⟨ad, e, hc⟩ := h.2.2 (by omega)
  refine ⟨ad, e, fun j hj => ?_⟩
  rw [hc j (by omega)]
  simp [List.getD_eq_getElem?_getD, hj]
end
theorem blk_new (w : World) (o : Obj) : (w.alloc o).heap[w.heap.size]? = some o := heap_alloc_new w o
theorem own_le {w : World} {base n m c size : Nat} {e : TypeId} {A : Option Addr} {xs : List Value} (h : w.ownsRow base e size (.slice A m c) n xs) : m ≤ c := by
  rcases h.2 with ⟨he, _⟩ | ⟨g, cap, cur, he, _, _, hnc, _⟩
  · injection he with _ h2 h3
    omega
  · injection he with _ h2 h3
    omega
def OwnRow {α : Type} (R : α → List Value → Prop) (e : TypeId) (size : Nat) (w : World) (base : Nat) (v : Value) (ps : List α) : Prop :=
  ∃ inner, w.ownsRow base e size v ps.length inner ∧ Reps R size ps inner
section
variable {α : Type} {R R' : α → List Value → Prop} {e : TypeId} {size : Nat} {w w1 : World} {base : Nat} {v : Value} {ps : List α}
theorem OwnRow.none_ (R : α → List Value → Prop) (e : TypeId) (size : Nat) (w : World) (base : Nat) : OwnRow R e size w base (.slice none 0 0) [] := ⟨[], own_nil _ _ _ _, Reps.none _ _⟩
theorem OwnRow.imp_ (h : OwnRow R e size w base v ps) (hR : ∀ p c, R p c → R' p c) : OwnRow R' e size w base v ps := by
  obtain ⟨inner, ho, hr⟩ := h
  exact ⟨inner, ho, hr.imp_ hR⟩
theorem OwnRow.below (h : OwnRow R e size w base v ps) (hb : Below w.heap.size w w1) : OwnRow R e size w1 base v ps := by
  obtain ⟨inner, ho, hr⟩ := h
  exact ⟨inner, pw_own_below ho hb, hr⟩
theorem OwnRow.reads (h : OwnRow R e size w base v ps) : ∃ A c, v = .slice A ps.length c ∧ ps.length ≤ c ∧ ReadsRow R size w A ps.length ps := by
  obtain ⟨inner, ho, hr⟩ := h
  obtain ⟨A, c, rfl, hrow⟩ := own_reads_row ho hr rfl
  exact ⟨A, c, rfl, own_le ho, hrow⟩
theorem OwnRow.lit (W : World) (base : Nat) {inner : List Value} (hr : Reps R size ps inner) (hb : base ≤ W.heap.size) (hm : ps.length ≤ 9223372036854775807) :
    OwnRow R e size (W.alloc (.cells inner.toArray e)) base (.slice (some ⟨W.heap.size, 0, none⟩) ps.length ps.length) ps := by
  have h := World.ownsRow_lit (base := base) (e := e) (size := size) W inner.toArray ps.length hb (by simpa [maxLen] using hm) (by simpa using hr.1)
  exact ⟨inner, by simpa using h, hr⟩
end
section
variable {P : Program} {ops : Array Oper} {rest : List Oper} {o : Oper} {a : Act} {Q : Exit → Act → World → Prop} {α : Type} {R : α → List Value → Prop}
theorem OwnRow.append {w0 W : World} (base : Nat) (hgd : o.guard = none) (s x : Operand) (t e : TypeId) (z : Value) (size bytes : Nat)
    (ho : o.op = .call { callee := .builtin .append, args := #[s, x], argTypes := #[t, t] })
    (ht : P.underlying t = some (.slice e)) (hinfo : (P.info? e).map (fun i => (i.zero, i.size, i.bytes)) = some (some z, size, bytes)) (hz : z.cells.size = size) (hs0 : 0 < size) (hb0 : 0 < bytes)
    (v : Value) (ps : List α) (p : α) (cs : List Value) (hs : a.eval s = v) (hx : a.eval x = .slice (some ⟨W.heap.size, 0, none⟩) 1 1) (hp : R p cs) (hcs : cs.length = size) (h1 : ∀ u ∈ cs, u.oneCell' = true)
    (HO : OwnRow R e size W base v ps) (HB : Below base w0 W) (hbase : base ≤ W.heap.size) (hl : (ps.length + 1) * bytes ≤ 140737488355328)
    (h : ∀ v1 w1, OwnRow R e size w1 base v1 (ps ++ [p]) → Below base w0 w1 → W.grownBy w1 v.ownBlock → (v1.ownBlock = v.ownBlock ∨ ∃ b, v1.ownBlock = some b ∧ W.heap.size ≤ b) → wpList P ops Q rest (a.put o.dst v1) w1) :
    wpList P ops Q (o :: rest) a (W.alloc (.cells cs.toArray e)) := by
  obtain ⟨inner, hown, hr⟩ := HO
  refine print_append_cells base hgd s x t e z size bytes ho ht hinfo hz hs0 hb0 v ps.length inner cs hs hx hcs h1 hown HB hbase hl ?_
  intro v1 w1 hown1 hb1 hg1 hat1
  exact h v1 w1 ⟨inner ++ cs, by rw [List.length_append, List.length_singleton]; exact hown1, hr.snoc hp hcs⟩ hb1 hg1 hat1
end
section
variable {P : Program} {ops : Array Oper} {o : Oper} {a : Act} {Q : Exit → Act → World → Prop} {K : Act → World → Prop} {α : Type} {R : α → List Value → Prop}
theorem OwnRow.append_step {w0 W : World} (base : Nat) (hw : Region.wanted o (yielded ops a.tmps) = true) (s x : Operand) (t e : TypeId) (z : Value) (size bytes : Nat)
    (ho : o.op = .call { callee := .builtin .append, args := #[s, x], argTypes := #[t, t] })
    (ht : P.underlying t = some (.slice e)) (hinfo : (P.info? e).map (fun i => (i.zero, i.size, i.bytes)) = some (some z, size, bytes)) (hz : z.cells.size = size) (hs0 : 0 < size) (hb0 : 0 < bytes)
    (v : Value) (ps : List α) (p : α) (cs : List Value) (hs : a.eval s = v) (hx : a.eval x = .slice (some ⟨W.heap.size, 0, none⟩) 1 1) (hp : R p cs) (hcs : cs.length = size) (h1 : ∀ u ∈ cs, u.oneCell' = true)
    (HO : OwnRow R e size W base v ps) (HB : Below base w0 W) (hbase : base ≤ W.heap.size) (hl : (ps.length + 1) * bytes ≤ 140737488355328)
    (h : ∀ v1 w1, OwnRow R e size w1 base v1 (ps ++ [p]) → Below base w0 w1 → W.grownBy w1 v.ownBlock → (v1.ownBlock = v.ownBlock ∨ ∃ b, v1.ownBlock = some b ∧ W.heap.size ≤ b) → K (a.put o.dst v1) w1) :
    if Region.wanted o (yielded ops a.tmps) = true then Oper.wp P o a (W.alloc (.cells cs.toArray e)) K Q else K (a.put o.dst undef) (W.alloc (.cells cs.toArray e)) := by
  obtain ⟨inner, hown, hr⟩ := HO
  refine step_append_cells base hw s x t e z size bytes ho ht hinfo hz hs0 hb0 v ps.length inner cs hs hx hcs h1 hown HB hbase hl ?_
  intro v1 w1 hown1 hb1 hg1 hat1
  exact h v1 w1 ⟨inner ++ cs, by rw [List.length_append, List.length_singleton]; exact hown1, hr.snoc hp hcs⟩ hb1 hg1 hat1
end
structure Kd (α : Type) where
  sz : Nat
  E : List Nat
  K : World → α → List Value → Prop
  M : World → Nat → (Nat → Prop) → α → List Value → Prop
  K_len : ∀ {w x cs}, K w x cs → cs.length = sz
  K_one : ∀ {w x cs}, K w x cs → ∀ u ∈ cs, u.oneCell' = true
  K_below : ∀ {w w1 : World} {x cs}, Below w.heap.size w w1 → K w x cs → K w1 x cs
  K_of_M : ∀ {w base ok x cs}, M w base ok x cs → K w x cs
  M_mono : ∀ {w base ok ok' x cs}, (∀ k, ok k → ok' k) → M w base ok x cs → M w base ok' x cs
  M_bound : ∀ {w : World} {base ok x cs}, M w base ok x cs → M w base (fun k => ok k ∧ base ≤ k ∧ k < w.heap.size ∧ ∃ q, q ∈ E ∧ ∃ cells, w.heap[k]? = some (.cells cells q (0, 0))) x cs
  M_move : ∀ {w w1 : World} {base ok x cs}, (∀ k, ok k → w1.heap[k]? = w.heap[k]?) → M w base ok x cs → M w1 base ok x cs
  M_lower : ∀ {w base base' ok x cs}, base' ≤ base → M w base ok x cs → M w base' ok x cs
theorem own_move {w w1 : World} {base : Nat} {e : TypeId} {size n : Nat} {v : Value} {xs : List Value} (h : w.ownsRow base e size v n xs) (hm : ∀ k, v.ownBlock = some k → w1.heap[k]? = w.heap[k]?) : w1.ownsRow base e size v n xs := by
  obtain ⟨h1, h2⟩ := h
  refine ⟨h1, ?_⟩
  rcases h2 with h2 | ⟨g, cap, cur, rfl, hg, hh, r⟩
  · exact .inl h2
  · exact .inr ⟨g, cap, cur, rfl, hg, (hm g (by simp [Value.ownBlock])).trans hh, r⟩
theorem own_typed {w : World} {base : Nat} {e : TypeId} {size n : Nat} {v : Value} {xs : List Value} (h : w.ownsRow base e size v n xs) (k : Nat) (hk : v.ownBlock = some k) : ∃ cells, w.heap[k]? = some (.cells cells e (0, 0)) := by
  rcases h.2 with ⟨rfl, _⟩ | ⟨g, cap, cur, rfl, hg, hh, r⟩
  · simp [Value.ownBlock] at hk
  · have : g = k := by simpa [Value.ownBlock] using hk
    subst this
    exact ⟨cur, hh⟩
namespace Kd
def C {α : Type} (d : Kd α) (w : World) (A : Option Addr) (n : Nat) (xs : List α) : Prop := ReadsRow (d.K w) d.sz w A n xs
def R {α : Type} (d : Kd α) (e : Nat) (w : World) (base : Nat) (ok : Nat → Prop) (v : Value) (xs : List α) : Prop :=
  (∀ k, v.ownBlock = some k → ok k) ∧ OwnRow (d.M w base (fun k => ok k ∧ some k ≠ v.ownBlock)) e d.sz w base v xs
section
variable {α : Type} {d : Kd α} {e : Nat} {w w1 : World} {base : Nat} {ok ok' : Nat → Prop} {v : Value} {xs : List α}
theorem C_below {A : Option Addr} {n : Nat} (h : d.C w A n xs) (hb : Below w.heap.size w w1) : d.C w1 A n xs := ReadsRow.imp_ h hb (fun _ _ hp => d.K_below hb hp)
theorem R_nil (d : Kd α) (e : Nat) (w : World) (base : Nat) (ok : Nat → Prop) : d.R e w base ok (.slice none 0 0) [] := ⟨fun k hk => by simp [Value.ownBlock] at hk, OwnRow.none_ _ _ _ _ _⟩
theorem R_mono (h : d.R e w base ok v xs) (hok : ∀ k, ok k → ok' k) : d.R e w base ok' v xs := ⟨fun k hk => hok k (h.1 k hk), h.2.imp_ (fun _ _ hp => d.M_mono (fun k hk => ⟨hok k hk.1, hk.2⟩) hp)⟩
theorem R_bound (h : d.R e w base ok v xs) : d.R e w base (fun k => ok k ∧ base ≤ k ∧ k < w.heap.size ∧ ∃ q, q ∈ e :: d.E ∧ ∃ cells, w.heap[k]? = some (.cells cells q (0, 0))) v xs := by
  obtain ⟨h0, inner, ho, hr⟩ := h
  refine ⟨fun k hk => ?_, inner, ho, hr.imp_ (fun _ _ hp => d.M_mono (fun k hk => ?_) (d.M_bound hp))⟩
  · obtain ⟨cells, hc⟩ := own_typed ho k hk
    exact ⟨h0 k hk, own_base ho k hk, own_lt ho k hk, e, List.mem_cons_self, cells, hc⟩
  · obtain ⟨⟨h1, h2⟩, h3, h4, q, hq, hc⟩ := hk
    exact ⟨⟨h1, h3, h4, q, List.mem_cons_of_mem _ hq, hc⟩, h2⟩
theorem R_move (h : d.R e w base ok v xs) (hm : ∀ k, ok k → w1.heap[k]? = w.heap[k]?) : d.R e w1 base ok v xs := by
  obtain ⟨h0, inner, ho, hr⟩ := h
  exact ⟨h0, inner, own_move ho (fun k hk => hm k (h0 k hk)), hr.imp_ (fun _ _ hp => d.M_move (fun k hk => hm k hk.1) hp)⟩
theorem R_lower {base' : Nat} (h : d.R e w base ok v xs) (hb : base' ≤ base) : d.R e w base' ok v xs := by
  obtain ⟨h0, inner, ho, hr⟩ := h
  exact ⟨h0, inner, own_weaken ho hb, hr.imp_ (fun _ _ hp => d.M_lower hb hp)⟩
theorem R_step (h : d.R e w base ok v xs) (hm : ∀ k, ok k → k < w.heap.size → w1.heap[k]? = w.heap[k]?) : d.R e w1 base ok v xs :=
  R_mono (R_move (R_bound h) (fun k hk => hm k hk.1 hk.2.2.1)) (fun _ hk => hk.1)
theorem R_below (h : d.R e w base ok v xs) (hb : Below w.heap.size w w1) : d.R e w1 base ok v xs := R_step h (fun k _ hk => hb.block k hk)
theorem R_grown (h : d.R e w base ok v xs) {row : Option Nat} (hg : w.grownBy w1 row) (hok : ∀ k, ok k → some k ≠ row) : d.R e w1 base ok v xs := R_step h (fun k ho hk => hg.block k hk (hok k ho))
theorem R_far (h : d.R e w base ok v xs) {p : Addr} (hok : ∀ k, ok k → k ≠ p.block) (u : Value) : d.R e (w.setCell p u) base ok v xs := R_step h (fun k ho _ => Below.heap_setCell w p u k (hok k ho))
theorem R_keep (h : d.R e w base ok v xs) {g : Nat} (hk : KeepBut w w1 g none) (hok : ∀ k, ok k → k ≠ g) : d.R e w1 base ok v xs := R_step h (fun k ho hlt => hk.2 k hlt (hok k ho) (by simp))
theorem R_types (h : d.R e w base ok v xs) {g t : Nat} {cells : Array Value} (hb : w.heap[g]? = some (.cells cells t (0, 0))) (ht : ∀ q, q ∈ e :: d.E → q ≠ t) : d.R e w base (fun k => ok k ∧ k ≠ g) v xs :=
  R_mono (R_bound h) (fun k hk => ⟨hk.1, by
    obtain ⟨_, _, _, q, hq, cells', hc⟩ := hk
    rintro rfl
    rw [hc] at hb
    injection hb with hb
    injection hb with _ hb
    exact ht q hq hb⟩)
theorem R_set (h : d.R e w base ok v xs) {g t : Nat} {cells : Array Value} (hb : w.heap[g]? = some (.cells cells t (0, 0))) (ht : ∀ q, q ∈ e :: d.E → q ≠ t) (j : Nat) (u : Value) : d.R e (w.setCell ⟨g, j, none⟩ u) base ok v xs :=
  R_mono (R_far (p := ⟨g, j, none⟩) (R_types h hb ht) (fun _ hk => hk.2) u) (fun _ hk => hk.1)
theorem R_reads (h : d.R e w base ok v xs) : ∃ A c, v = .slice A xs.length c ∧ xs.length ≤ c ∧ d.C w A xs.length xs := by
  obtain ⟨A, c, he, hl, hr⟩ := OwnRow.reads h.2
  exact ⟨A, c, he, hl, hr.imp_ (Below.refl _ _) (fun _ _ hp => d.K_of_M hp)⟩
theorem R_slice (h : d.R e w base ok v xs) : ∃ A c, v = .slice A xs.length c := by
  obtain ⟨A, c, he, _⟩ := R_reads h
  exact ⟨A, c, he⟩
theorem R_own (h : d.R e w base ok v xs) : ∃ inner, w.ownsRow base e d.sz v xs.length inner := by
  obtain ⟨_, inner, ho, _⟩ := h
  exact ⟨inner, ho⟩
end
def scalar {α : Type} (enc : α → Value) (h1 : ∀ x, (enc x).oneCell' = true) : Kd α where
  sz := 1
  E := []
  K := fun _ x cs => cs = [enc x]
  M := fun _ _ _ x cs => cs = [enc x]
  K_len := fun h => by rw [h]; rfl
  K_one := fun h u hu => by
    rw [h] at hu
    rw [List.mem_singleton.1 hu]
    exact h1 _
  K_below := fun _ h => h
  K_of_M := fun h => h
  M_mono := fun _ h => h
  M_bound := fun h => h
  M_move := fun _ h => h
  M_lower := fun _ h => h
def int (k : IntKind) : Kd Int := scalar (Value.int k) (fun _ => rfl)
def bool : Kd Bool := scalar Value.bool (fun _ => rfl)
def string : Kd ByteArray := scalar Value.string (fun _ => rfl)
def slice {α : Type} (e : Nat) (d : Kd α) : Kd (List α) where
  sz := 1
  E := e :: d.E
  K := fun w xs cs => ∃ A c, cs = [.slice A xs.length c] ∧ xs.length ≤ c ∧ d.C w A xs.length xs
  M := fun w base ok xs cs => ∃ v, cs = [v] ∧ d.R e w base ok v xs
  K_len := by
    rintro w x cs ⟨A, c, rfl, _⟩
    rfl
  K_one := by
    rintro w x cs ⟨A, c, rfl, _⟩ u hu
    rw [List.mem_singleton.1 hu]
    rfl
  K_below := by
    rintro w w1 x cs hb ⟨A, c, rfl, hl, hr⟩
    exact ⟨A, c, rfl, hl, C_below hr hb⟩
  K_of_M := by
    rintro w base ok x cs ⟨v, rfl, h⟩
    obtain ⟨A, c, rfl, hl, hr⟩ := R_reads h
    exact ⟨A, c, rfl, hl, hr⟩
  M_mono := by
    rintro w base ok ok' x cs hok ⟨v, rfl, h⟩
    exact ⟨v, rfl, R_mono h hok⟩
  M_bound := by
    rintro w base ok x cs ⟨v, rfl, h⟩
    exact ⟨v, rfl, R_bound h⟩
  M_move := by
    rintro w w1 base ok x cs hm ⟨v, rfl, h⟩
    exact ⟨v, rfl, R_move h hm⟩
  M_lower := by
    rintro w base base' ok x cs hb ⟨v, rfl, h⟩
    exact ⟨v, rfl, R_lower h hb⟩
def pair {α β : Type} (a : Kd α) (b : Kd β) : Kd (α × β) where
  sz := a.sz + b.sz
  E := a.E ++ b.E
  K := fun w x cs => ∃ c0 c1, cs = c0 ++ c1 ∧ a.K w x.1 c0 ∧ b.K w x.2 c1
  M := fun w base ok x cs => ∃ c0 c1, cs = c0 ++ c1 ∧ a.M w base ok x.1 c0 ∧ b.M w base ok x.2 c1
  K_len := by
    rintro w x cs ⟨c0, c1, rfl, h0, h1⟩
    rw [List.length_append, a.K_len h0, b.K_len h1]
  K_one := by
    rintro w x cs ⟨c0, c1, rfl, h0, h1⟩ u hu
    rcases List.mem_append.1 hu with hu | hu
    · exact a.K_one h0 u hu
    · exact b.K_one h1 u hu
  K_below := by
    rintro w w1 x cs hb ⟨c0, c1, rfl, h0, h1⟩
    exact ⟨c0, c1, rfl, a.K_below hb h0, b.K_below hb h1⟩
  K_of_M := by
    rintro w base ok x cs ⟨c0, c1, rfl, h0, h1⟩
    exact ⟨c0, c1, rfl, a.K_of_M h0, b.K_of_M h1⟩
  M_mono := by
    rintro w base ok ok' x cs hok ⟨c0, c1, rfl, h0, h1⟩
    exact ⟨c0, c1, rfl, a.M_mono hok h0, b.M_mono hok h1⟩
  M_bound := by
    rintro w base ok x cs ⟨c0, c1, rfl, h0, h1⟩
    refine ⟨c0, c1, rfl, a.M_mono ?_ (a.M_bound h0), b.M_mono ?_ (b.M_bound h1)⟩
    · rintro k ⟨h2, h3, h4, q, hq, hc⟩
      exact ⟨h2, h3, h4, q, List.mem_append_left _ hq, hc⟩
    · rintro k ⟨h2, h3, h4, q, hq, hc⟩
      exact ⟨h2, h3, h4, q, List.mem_append_right _ hq, hc⟩
  M_move := by
    rintro w w1 base ok x cs hm ⟨c0, c1, rfl, h0, h1⟩
    exact ⟨c0, c1, rfl, a.M_move hm h0, b.M_move hm h1⟩
  M_lower := by
    rintro w base base' ok x cs hb ⟨c0, c1, rfl, h0, h1⟩
    exact ⟨c0, c1, rfl, a.M_lower hb h0, b.M_lower hb h1⟩
def iso {α β : Type} (d : Kd α) (f : β → α) : Kd β where
  sz := d.sz
  E := d.E
  K := fun w x cs => d.K w (f x) cs
  M := fun w base ok x cs => d.M w base ok (f x) cs
  K_len := d.K_len
  K_one := d.K_one
  K_below := d.K_below
  K_of_M := d.K_of_M
  M_mono := d.M_mono
  M_bound := d.M_bound
  M_move := d.M_move
  M_lower := d.M_lower
def bot {α : Type} (sz : Nat) (E : List Nat) : Kd α where
  sz := sz
  E := E
  K := fun _ _ _ => False
  M := fun _ _ _ _ _ => False
  K_len := fun h => h.elim
  K_one := fun h => h.elim
  K_below := fun _ h => h
  K_of_M := fun h => h
  M_mono := fun _ h => h
  M_bound := fun h => h
  M_move := fun _ h => h
  M_lower := fun _ h => h
def upto {α : Type} (F : Kd α → Kd α) (sz : Nat) (E : List Nat) : Nat → Kd α
  | 0 => bot sz E
  | n + 1 => F (upto F sz E n)
theorem R_appended {α : Type} {d : Kd α} {e base : Nat} {ok okp : Nat → Prop} {W w1 : World} {v v1 : Value} {xs : List α} {p : α} {inner cs : List Value} (h0 : ∀ k, v.ownBlock = some k → ok k) (hr : Reps (d.M W base (fun k => ok k ∧ some k ≠ v.ownBlock)) d.sz xs inner) (hp : d.M W base okp p cs) (hokp : ∀ k, okp k → ok k ∧ some k ≠ v.ownBlock) (hfresh : ∀ k, W.heap.size ≤ k → ok k)
    (hown : w1.ownsRow base e d.sz v1 (xs.length + 1) (inner ++ cs)) (hg : W.grownBy w1 v.ownBlock) (hat : v1.ownBlock = v.ownBlock ∨ ∃ b, v1.ownBlock = some b ∧ W.heap.size ≤ b) : d.R e w1 base ok v1 (xs ++ [p]) := by
  have hne : ∀ k, some k ≠ v.ownBlock → k < W.heap.size → some k ≠ v1.ownBlock := by
    intro k hk hlt
    rcases hat with hat | ⟨b, hb, hle⟩
    · rw [hat]; exact hk
    · rw [hb]
      intro he
      injection he with he
      omega
  have step : ∀ {q : α} {c : List Value} {o : Nat → Prop}, d.M W base o q c → (∀ k, o k → ok k ∧ some k ≠ v.ownBlock) → d.M w1 base (fun k => ok k ∧ some k ≠ v1.ownBlock) q c := by
    intro q c o hq ho
    have h1 := d.M_move (w1 := w1) (fun k hk => hg.block k hk.2.2.1 (ho k hk.1).2) (d.M_bound hq)
    exact d.M_mono (fun k hk => ⟨(ho k hk.1).1, hne k (ho k hk.1).2 hk.2.2.1⟩) h1
  refine ⟨fun k hk => ?_, inner ++ cs, by rw [List.length_append, List.length_singleton]; exact hown, ?_⟩
  · rcases hat with hat | ⟨b, hb, hle⟩
    · exact h0 k (hat ▸ hk)
    · rw [hb] at hk
      injection hk with hk
      exact hfresh k (by omega)
  · exact (hr.imp_ (fun _ _ hq => step hq (fun _ hk => hk))).snoc (step hp hokp) (d.K_len (d.K_of_M hp))
section
variable {P : Program} {ops : Array Oper} {rest : List Oper} {o : Oper} {a : Act} {Q : Exit → Act → World → Prop} {α : Type}
theorem R_append (d : Kd α) {w0 W : World} (base : Nat) (hgd : o.guard = none) (s x : Operand) (t e : TypeId) (z : Value) (bytes : Nat)
    (ho : o.op = .call { callee := .builtin .append, args := #[s, x], argTypes := #[t, t] })
    (ht : P.underlying t = some (.slice e)) (hinfo : (P.info? e).map (fun i => (i.zero, i.size, i.bytes)) = some (some z, d.sz, bytes)) (hz : z.cells.size = d.sz) (hs0 : 0 < d.sz) (hb0 : 0 < bytes)
    (v : Value) (xs : List α) (p : α) (cs : List Value) (ok okp : Nat → Prop) (hs : a.eval s = v) (hx : a.eval x = .slice (some ⟨W.heap.size, 0, none⟩) 1 1) (hp : d.M W base okp p cs) (hokp : ∀ k, okp k → ok k ∧ some k ≠ v.ownBlock) (hfresh : ∀ k, W.heap.size ≤ k → ok k)
    (HO : d.R e W base ok v xs) (HB : Below base w0 W) (hbase : base ≤ W.heap.size) (hl : (xs.length + 1) * bytes ≤ 140737488355328)
    (h : ∀ v1 w1, d.R e w1 base ok v1 (xs ++ [p]) → Below base w0 w1 → W.grownBy w1 v.ownBlock → (v1.ownBlock = v.ownBlock ∨ ∃ b, v1.ownBlock = some b ∧ W.heap.size ≤ b) → wpList P ops Q rest (a.put o.dst v1) w1) :
    wpList P ops Q (o :: rest) a (W.alloc (.cells cs.toArray e)) := by
  obtain ⟨h0, inner, hown, hr⟩ := HO
  refine print_append_cells base hgd s x t e z d.sz bytes ho ht hinfo hz hs0 hb0 v xs.length inner cs hs hx (d.K_len (d.K_of_M hp)) (d.K_one (d.K_of_M hp)) hown HB hbase hl ?_
  intro v1 w1 hown1 hb1 hg1 hat1
  exact h v1 w1 (R_appended h0 hr hp hokp hfresh hown1 hg1 hat1) hb1 hg1 hat1
end
section
variable {P : Program} {ops : Array Oper} {o : Oper} {a : Act} {Q : Exit → Act → World → Prop} {Kc : Act → World → Prop} {α : Type}
theorem R_append_step (d : Kd α) {w0 W : World} (base : Nat) (hw : Region.wanted o (yielded ops a.tmps) = true) (s x : Operand) (t e : TypeId) (z : Value) (bytes : Nat)
    (ho : o.op = .call { callee := .builtin .append, args := #[s, x], argTypes := #[t, t] })
    (ht : P.underlying t = some (.slice e)) (hinfo : (P.info? e).map (fun i => (i.zero, i.size, i.bytes)) = some (some z, d.sz, bytes)) (hz : z.cells.size = d.sz) (hs0 : 0 < d.sz) (hb0 : 0 < bytes)
    (v : Value) (xs : List α) (p : α) (cs : List Value) (ok okp : Nat → Prop) (hs : a.eval s = v) (hx : a.eval x = .slice (some ⟨W.heap.size, 0, none⟩) 1 1) (hp : d.M W base okp p cs) (hokp : ∀ k, okp k → ok k ∧ some k ≠ v.ownBlock) (hfresh : ∀ k, W.heap.size ≤ k → ok k)
    (HO : d.R e W base ok v xs) (HB : Below base w0 W) (hbase : base ≤ W.heap.size) (hl : (xs.length + 1) * bytes ≤ 140737488355328)
    (h : ∀ v1 w1, d.R e w1 base ok v1 (xs ++ [p]) → Below base w0 w1 → W.grownBy w1 v.ownBlock → (v1.ownBlock = v.ownBlock ∨ ∃ b, v1.ownBlock = some b ∧ W.heap.size ≤ b) → Kc (a.put o.dst v1) w1) :
    if Region.wanted o (yielded ops a.tmps) = true then Oper.wp P o a (W.alloc (.cells cs.toArray e)) Kc Q else Kc (a.put o.dst undef) (W.alloc (.cells cs.toArray e)) := by
  obtain ⟨h0, inner, hown, hr⟩ := HO
  refine step_append_cells base hw s x t e z d.sz bytes ho ht hinfo hz hs0 hb0 v xs.length inner cs hs hx (d.K_len (d.K_of_M hp)) (d.K_one (d.K_of_M hp)) hown HB hbase hl ?_
  intro v1 w1 hown1 hb1 hg1 hat1
  exact h v1 w1 (R_appended h0 hr hp hokp hfresh hown1 hg1 hat1) hb1 hg1 hat1
end
theorem reps_scalar {α : Type} {enc : α → Value} (xs : List α) : Reps (fun (x : α) (cs : List Value) => cs = [enc x]) 1 xs (encs enc xs) := by
  refine ⟨by simp [encs], fun j p hj => ?_⟩
  obtain ⟨hl, hp⟩ := List.getElem?_eq_some_iff.1 hj
  have hl' : j < (encs enc xs).length := by rw [encs_length]; exact hl
  rw [Nat.mul_one, List.drop_eq_getElem_cons hl']
  simp [encs, hp]
theorem R_of_own {α : Type} {enc : α → Value} {h1 : ∀ x, (enc x).oneCell' = true} {e : Nat} {w : World} {base : Nat} {ok : Nat → Prop} {v : Value} {xs : List α} (ho : w.ownsRow base e 1 v xs.length (encs enc xs)) (hok : ∀ k, v.ownBlock = some k → ok k) : (scalar enc h1).R e w base ok v xs := ⟨hok, encs enc xs, ho, reps_scalar xs⟩
theorem own_of_R {α : Type} {enc : α → Value} {h1 : ∀ x, (enc x).oneCell' = true} {e : Nat} {w : World} {base : Nat} {ok : Nat → Prop} {v : Value} {xs : List α} (h : (scalar enc h1).R e w base ok v xs) : w.ownsRow base e 1 v xs.length (encs enc xs) := by
  obtain ⟨_, inner, ho, hr⟩ := h
  have : inner = encs enc xs := by
    apply List.ext_getElem?
    intro j
    rcases Nat.lt_or_ge j xs.length with hj | hj
    · have h2 := hr.2 j _ (List.getElem?_eq_getElem hj)
      have hl : j < inner.length := by have := hr.1; simp [scalar] at this; omega
      have h3 : (inner.drop (j * 1)).take 1 = [enc xs[j]] := h2
      rw [Nat.mul_one, List.drop_eq_getElem_cons hl] at h3
      have h4 : inner[j] = enc xs[j] := by
        have h5 := congrArg List.head? h3
        rw [List.take_succ_cons] at h5
        exact Option.some.inj h5
      rw [List.getElem?_eq_getElem hl, h4]
      simp [encs, List.getElem?_eq_getElem hj]
    · have h3 : inner.length = xs.length := by have := hr.1; simp [scalar] at this; omega
      rw [List.getElem?_eq_none (by omega), List.getElem?_eq_none (by rw [encs_length]; omega)]
  rw [← this]
  exact ho
end Kd
namespace Kd
def Sub {α β : Type} (F : Kd α → Kd β) (E : List Nat) : Prop := ∀ d : Kd α, (∀ q, q ∈ d.E → q ∈ E) → ∀ q, q ∈ (F d).E → q ∈ E
end Kd
namespace Kd
theorem R_after {α : Type} {d : Kd α} {e base : Nat} {ok : Nat → Prop} {W w1 : World} {u v v1 : Value} {xs : List α} (h : d.R e W base (fun k => ok k ∧ some k ≠ v.ownBlock) u xs) (hg : W.grownBy w1 v.ownBlock) (hat : v1.ownBlock = v.ownBlock ∨ ∃ b, v1.ownBlock = some b ∧ W.heap.size ≤ b) : d.R e w1 base (fun k => ok k ∧ some k ≠ v1.ownBlock) u xs := by
  refine R_mono (R_move (R_bound h) (fun k hk => hg.block k hk.2.2.1 hk.1.2)) (fun k hk => ⟨hk.1.1, ?_⟩)
  rcases hat with hat | ⟨b, hb, hle⟩
  · rw [hat]; exact hk.1.2
  · rw [hb]
    intro he
    injection he with he
    have := hk.2.2.1
    omega
theorem R_apart_nil {α : Type} {d : Kd α} {e base : Nat} {ok : Nat → Prop} {w : World} {u : Value} {xs : List α} (h : d.R e w base ok u xs) : d.R e w base (fun k => ok k ∧ some k ≠ (Value.slice none 0 0).ownBlock) u xs := R_mono h (fun k hk => ⟨hk, by simp [Value.ownBlock]⟩)
end Kd
namespace Kd
section
variable {α β : Type} {d : Kd α} {d' : Kd β} {e e' : Nat} {w w1 W : World} {base b b' : Nat} {ok ok' okv oku : Nat → Prop} {v u : Value} {xs : List α} {ys : List β}
theorem R_lt (h : d.R e w base ok v xs) : ∀ k, v.ownBlock = some k → k < w.heap.size := by
  obtain ⟨inner, ho⟩ := R_own h
  exact own_lt ho
theorem R_base (h : d.R e w base ok v xs) : ∀ k, v.ownBlock = some k → base ≤ k := by
  obtain ⟨inner, ho⟩ := R_own h
  exact own_base ho
end
section
variable {P : Program} {ops : Array Oper} {rest : List Oper} {o : Oper} {a : Act} {Q : Exit → Act → World → Prop}
theorem event_run {W w1 : World} {v : Value} (hgd : o.guard = none) (hrun : (execOp a.eval o).run P W = .ok (.value v) w1) (h : wpList P ops Q rest (a.put o.dst v) w1) : wpList P ops Q (o :: rest) a W := by
  refine wpList_plain hgd fun K hK => ?_
  unfold Oper.wp
  rw [hrun]
  exact hK _ _ h
variable {α : Type}
end
end Kd
def QRow (w : World) (base : Nat) (e : TypeId) (size : Nat) (v : Value) (n : Nat) (xs : List Value) : Prop :=
  xs.length = n * size ∧
  ((n = 0 ∧ ∃ A, v = .slice A 0 0 ∧ ∀ a, A = some a → base ≤ a.block ∧ ∃ cur, w.heap[a.block]? = some (.cells cur e (0, 0))) ∨
   ∃ g off cap cur, v = .slice (some ⟨g, off * size, none⟩) n cap ∧ base ≤ g ∧ w.heap[g]? = some (.cells cur e (0, 0)) ∧ n ≤ cap ∧ off + cap ≤ maxLen ∧ cur.size = (off + cap) * size ∧ (cur.toList.drop (off * size)).take (n * size) = xs)
namespace Kd
def Q {α : Type} (d : Kd α) (e : Nat) (w : World) (base : Nat) (ok : Nat → Prop) (v : Value) (xs : List α) : Prop :=
  (∀ k, v.ownBlock = some k → ok k) ∧ ∃ inner, QRow w base e d.sz v xs.length inner ∧ Reps (d.M w base (fun k => ok k ∧ some k ≠ v.ownBlock)) d.sz xs inner
end Kd
namespace Kd
end Kd
namespace Kd
end Kd
namespace Kd
end Kd
namespace Kd
end Kd
namespace Kd
end Kd
theorem add_add (a : Addr) (i j : Nat) : (a.add i).add j = a.add (i + j) := by
  unfold Addr.add
  by_cases h1 : i = 0 <;> by_cases h2 : j = 0 <;> simp [h1, h2, Nat.add_assoc]
namespace Kd
end Kd
theorem below_step {w W w2 : World} (h : Below w.heap.size w W) (k : Below W.heap.size W w2) : Below w.heap.size w w2 := below_then h h.size k
theorem ReadsInt.nil (W : World) (k : IntKind) : ReadsInt W k none ([] : List Int).length [] := ⟨rfl, by simp, fun h => absurd h (Nat.lt_irrefl 0)⟩
theorem ReadsInt.drewN {W : World} {k : IntKind} {A : Option Addr} {n : Nat} {xs : List Int} (h : ReadsInt W k A n xs) (m : Nat) : ReadsInt (W.drewN m) k A n xs := h
theorem ReadsOf.nil {α : Type} (enc : α → Value) (d : α) (W : World) : ReadsOf enc d W none ([] : List α).length [] := ⟨rfl, by simp, fun h => absurd h (Nat.lt_irrefl 0)⟩
theorem ReadsOf.drewN {α : Type} {enc : α → Value} {d : α} {W : World} {A : Option Addr} {n : Nat} {xs : List α} (h : ReadsOf enc d W A n xs) (m : Nat) : ReadsOf enc d (W.drewN m) A n xs := h
namespace Kd
end Kd
namespace Kd
end Kd
section
variable {P : Program} {ops : Array Oper} {rest : List Oper} {o : Oper} {a : Act} {Q : Exit → Act → World → Prop}
theorem box_event {W : World} (hgd : o.guard = none) {N : Tmp} (_hd : o.dst = some N) {cs : Array Value} {t : TypeId}
    (hrun : (execOp a.eval o).run P W = .ok (.value (.pointer (some ⟨W.heap.size, 0, none⟩))) (W.alloc (.cells cs t (0, 0))))
    (h : ∀ g, g = W.heap.size → ∀ w1, w1.heap[g]? = some (.cells cs t (0, 0)) → Below W.heap.size W w1 → wpList P ops Q rest (a.put o.dst (.pointer (some ⟨g, 0, none⟩))) w1) : wpList P ops Q (o :: rest) a W :=
  Kd.event_run hgd hrun (h _ rfl _ (blk_new W _) (below_alloc (Below.refl _ _) _))
end
namespace Kd
end Kd
namespace Kd
end Kd
section
variable {P : Program} {ops : Array Oper} {rest : List Oper} {o : Oper} {a : Act} {Q : Exit → Act → World → Prop} {W : World}
theorem gate_dst {N : Tmp} (_hN : o.dst = some N) (h : wpList P ops Q (o :: rest) a W) : wpList P ops Q (o :: rest) a W := h
end
section
variable {P : Program} {ops : Array Oper} {o : Oper} {a : Act} {Q : Exit → Act → World → Prop} {Kc : Act → World → Prop}
namespace Kd
variable {α : Type}
end Kd
end
namespace Kd
end Kd
end Go.Proofs.YtjpfalanoifpbaaDoorW.PrintWords
end

section
namespace Go.Proofs.YtjpfalanoifpbaaDoorW.PrintLast
section
variable {P : Program} {ops : Array Oper} {Q : Exit → Act → World → Prop} {md : Region.Mode} {S : World → Prop} {ds : List Nat}
def Region.reachB (md : Region.Mode) (ops : Array Oper) (i : Nat) : Nat → Nat → Bool
  | 0, _ => false
  | fuel + 1, d => match ops[d]? with
    | some o => o.after.any fun e => Region.binds md e && (e.on == i || Region.reachB md ops i fuel e.on)
    | none => false
def Region.closedB (md : Region.Mode) (ops : Array Oper) (listed : Array Bool) : Bool :=
  (List.range ops.size).all fun j => !listed.getD j false || match ops[j]? with
    | some o => o.after.all fun e => !Region.binds md e || listed.getD e.on false
    | none => true
def Region.lastB (md : Region.Mode) (ops : Array Oper) (listed : Array Bool) (ds : List Nat) (i : Nat) : Bool :=
  ds.all fun d => listed.getD d true || Region.reachB md ops i ops.size d
def ListedClosed (md : Region.Mode) (ops : Array Oper) (listed : Array Bool) : Prop :=
  ∀ j oj, ops[j]? = some oj → listed.getD j false = true → ∀ e ∈ oj.after, Region.binds md e = true → listed.getD e.on false = true
theorem Region.closedB_spec {listed : Array Bool} (h : Region.closedB md ops listed = true) : ListedClosed md ops listed := by
  intro j oj hj hl e he hb
  have hlt : j < ops.size := (Array.getElem?_eq_some_iff.1 hj).1
  have h1 := List.all_eq_true.1 h j (List.mem_range.2 hlt)
  simp only [hl, hj, Bool.not_true, Bool.false_or] at h1
  have h2 := Array.all_eq_true_iff_forall_mem.1 h1 e he
  simpa [hb] using h2
theorem ListedClosed.set {listed : Array Bool} {i : Nat} (h : ListedClosed md ops listed) (hi : i ∈ Region.ready md ops listed) : ListedClosed md ops (listed.setIfInBounds i true) := by
  obtain ⟨_, oi, hoi, hall⟩ := mem_ready.1 hi
  intro j oj hj hl e he hb
  by_cases hij : i = j
  · subst hij
    have : oj = oi := Option.some.inj (hj.symm.trans hoi)
    subst this
    exact getD_set_true (hall e he hb)
  · rw [getD_set_ne false hij] at hl
    exact getD_set_true (h j oj hj hl e he hb)
theorem Region.reach_listed {listed : Array Bool} {i : Nat} (hc : ListedClosed md ops listed) : ∀ (fuel d : Nat), Region.reachB md ops i fuel d = true → listed.getD d false = true → listed.getD i false = true
  | 0, _, h, _ => by simp [Region.reachB] at h
  | fuel + 1, d, h, hl => by
    unfold Region.reachB at h
    cases ho : ops[d]? with
    | none => rw [ho] at h; simp at h
    | some o =>
      rw [ho] at h
      obtain ⟨e, he, h1⟩ := Array.any_eq_true'.1 h
      simp only [Bool.and_eq_true, Bool.or_eq_true, beq_iff_eq] at h1
      have hle := hc d o ho hl e he h1.1
      rcases h1.2 with h2 | h2
      · rw [← h2]; exact hle
      · exact Region.reach_listed hc fuel e.on h2 hle
theorem Region.reach_not_ready {listed : Array Bool} {i d fuel : Nat} (hc : ListedClosed md ops listed) (hr : Region.reachB md ops i fuel d = true) (hun : listed.getD i true = false) : d ∉ Region.ready md ops listed := by
  intro hd
  obtain ⟨_, o, ho, hall⟩ := mem_ready.1 hd
  have hi : listed.getD i false = true := by
    cases fuel with
    | zero => simp [Region.reachB] at hr
    | succ n =>
      unfold Region.reachB at hr
      rw [ho] at hr
      obtain ⟨e, he, h1⟩ := Array.any_eq_true'.1 hr
      simp only [Bool.and_eq_true, Bool.or_eq_true, beq_iff_eq] at h1
      have hle := hall e he h1.1
      rcases h1.2 with h2 | h2
      · rw [← h2]; exact hle
      · exact Region.reach_listed hc n e.on h2 hle
  rcases Nat.lt_or_ge i listed.size with h' | h'
  · simp [h'] at hun hi
    rw [hun] at hi
    cases hi
  · simp [Array.getElem?_eq_none h'] at hun
def wpAnyLast (P : Program) (md : Region.Mode) (ops : Array Oper) (Q : Exit → Act → World → Prop) (S : World → Prop) (ds : List Nat) : Nat → Array Bool → Act → World → Prop
  | 0, listed, a, w => Region.ready md ops listed = [] ∧ Q .normal a w
  | fuel + 1, listed, a, w =>
    (Region.ready md ops listed = [] → Q .normal a w) ∧
    ∀ i ∈ Region.ready md ops listed, wpOp P ops Q i (fun a' w' => (i ∉ ds → S w → S w') ∧ wpAnyLast P md ops Q S ds fuel (listed.setIfInBounds i true) a' w') a w
theorem wpAny_of_last : ∀ (fuel : Nat) (listed : Array Bool) (a : Act) (w : World), wpAnyLast P md ops Q S ds fuel listed a w → wpAny P md ops Q fuel listed a w
  | 0, _, _, _, h => h
  | fuel + 1, _, _, _, h => ⟨h.1, fun i hi => wpOp_mono (fun a' w' h' => wpAny_of_last fuel _ a' w' h'.2) (h.2 i hi)⟩
theorem wpAnyLast_first {i : Nat} {oi : Oper} {v : Value} (hi : ops[i]? = some oi) (hsel : ∀ (j : Nat) (o : Oper) cs b, ops[j]? = some o → o.op ≠ .select cs b)
    (hQ : ∀ c a w, Q (.panic c) (a.put oi.dst v) w → Q (.panic c) a w) (n : Nat) :
    ∀ (fuel : Nat) (listed : Array Bool) (a : Act) (w : World),
      (∀ j oj, ops[j]? = some oj → j ≠ i → listed.getD j true = false → (∀ e ∈ oj.after, Region.binds md e = true → e.on ≠ i) → oi.apart ops oj = true) →
      ListedClosed md ops listed → (∀ d ∈ ds, listed.getD d true = false → Region.reachB md ops i n d = true) →
      i ∈ Region.ready md ops listed → YieldsIf P ops S oi v a → S w →
      wpAnyLast P md ops Q S ds fuel (listed.setIfInBounds i true) (a.put oi.dst v) w → wpAnyLast P md ops Q S ds (fuel + 1) listed a w := by
  intro fuel
  induction fuel with
  | zero =>
    intro listed a w _ _ _ hr hy hS H
    refine ⟨fun h => (by rw [h] at hr; cases hr), fun j hj => ?_⟩
    by_cases hji : j = i
    · subst hji; exact hy.wpOp hi hS ⟨fun _ h => h, H⟩
    · have := ready_mono hj hji
      rw [H.1] at this
      cases this
  | succ fuel ih =>
    intro listed a w hfree hc hd hr hy hS H
    refine ⟨fun h => (by rw [h] at hr; cases hr), fun j hj => ?_⟩
    by_cases hji : j = i
    · subst hji; exact hy.wpOp hi hS ⟨fun _ h => h, H⟩
    · have h1 := H.2 j (ready_mono hj hji)
      obtain ⟨hjun, oj, hoj, hall⟩ := mem_ready.1 hj
      have hiun := (mem_ready.1 hr).1
      have hnot : ∀ e ∈ oj.after, Region.binds md e = true → e.on ≠ i := fun e he hb heq => by
        have h1 := hall e he hb
        rw [heq] at h1
        rcases Nat.lt_or_ge i listed.size with h' | h'
        · simp [h'] at hiun h1; rw [hiun] at h1; cases h1
        · simp [Array.getElem?_eq_none h'] at h1
      have hjd : j ∉ ds := fun hm => Region.reach_not_ready hc (hd j hm hjun) hiun hj
      have h2 := wpOp_putIf hoj (hfree j oj hoj hji hjun hnot) (fun cs b => hsel i oi cs b hi) (fun cs b => hsel j oj cs b hoj) hQ hy h1
      have hfree' : ∀ k ok, ops[k]? = some ok → k ≠ i → (listed.setIfInBounds j true).getD k true = false →
          (∀ e ∈ ok.after, Region.binds md e = true → e.on ≠ i) → oi.apart ops ok = true := fun k ok hk hki hun hno => by
        refine hfree k ok hk hki ?_ hno
        by_cases hjk : j = k
        · subst hjk; exact hjun
        · rw [getD_set_ne true hjk] at hun; exact hun
      have hd' : ∀ d ∈ ds, (listed.setIfInBounds j true).getD d true = false → Region.reachB md ops i n d = true := fun d hm hun => by
        refine hd d hm ?_
        by_cases hjk : j = d
        · subst hjk; exact hjun
        · rw [getD_set_ne true hjk] at hun; exact hun
      refine wpOp_mono (fun a' w' h3 => ⟨h3.2.1, ih (listed.setIfInBounds j true) a' w' hfree' (hc.set hj) hd' (ready_mono hr (Ne.symm hji)) h3.1 (h3.2.1 hjd hS) ?_⟩) h2
      rw [Array.setIfInBounds_comm _ _ hji]
      exact h3.2.2
theorem wpAnyLast_any {i : Nat} {oi : Oper} {v : Value} (hi : ops[i]? = some oi) (hsel : ∀ (j : Nat) (o : Oper) cs b, ops[j]? = some o → o.op ≠ .select cs b)
    (hQ : ∀ c a w, Q (.panic c) (a.put oi.dst v) w → Q (.panic c) a w) :
    ∀ (fuel : Nat) (listed : Array Bool) (a : Act) (w : World),
      (∀ j oj, ops[j]? = some oj → j ≠ i → listed.getD j true = false → (∀ e ∈ oj.after, Region.binds md e = true → e.on ≠ i) → oi.apart ops oj = true) →
      i ∈ Region.ready md ops listed → Yields P ops oi v a →
      wpAnyLast P md ops Q S ds fuel (listed.setIfInBounds i true) (a.put oi.dst v) w → wpAnyLast P md ops Q S ds (fuel + 1) listed a w := by
  intro fuel
  induction fuel with
  | zero =>
    intro listed a w _ hr hy H
    refine ⟨fun h => (by rw [h] at hr; cases hr), fun j hj => ?_⟩
    by_cases hji : j = i
    · subst hji; exact (hy.yieldsIf (S := fun _ => True)).wpOp hi trivial ⟨fun _ h => h, H⟩
    · have := ready_mono hj hji
      rw [H.1] at this
      cases this
  | succ fuel ih =>
    intro listed a w hfree hr hy H
    refine ⟨fun h => (by rw [h] at hr; cases hr), fun j hj => ?_⟩
    by_cases hji : j = i
    · subst hji; exact (hy.yieldsIf (S := fun _ => True)).wpOp hi trivial ⟨fun _ h => h, H⟩
    · have h1 := H.2 j (ready_mono hj hji)
      obtain ⟨hjun, oj, hoj, hall⟩ := mem_ready.1 hj
      have hiun := (mem_ready.1 hr).1
      have hnot : ∀ e ∈ oj.after, Region.binds md e = true → e.on ≠ i := fun e he hb heq => by
        have h1 := hall e he hb
        rw [heq] at h1
        rcases Nat.lt_or_ge i listed.size with h' | h'
        · simp [h'] at hiun h1; rw [hiun] at h1; cases h1
        · simp [Array.getElem?_eq_none h'] at h1
      have h2 := wpOp_put hoj (hfree j oj hoj hji hjun hnot) (fun cs b => hsel i oi cs b hi) (fun cs b => hsel j oj cs b hoj) hQ hy h1
      have hfree' : ∀ k ok, ops[k]? = some ok → k ≠ i → (listed.setIfInBounds j true).getD k true = false →
          (∀ e ∈ ok.after, Region.binds md e = true → e.on ≠ i) → oi.apart ops ok = true := fun k ok hk hki hun hno => by
        refine hfree k ok hk hki ?_ hno
        by_cases hjk : j = k
        · subst hjk; exact hjun
        · rw [getD_set_ne true hjk] at hun; exact hun
      refine wpOp_mono (fun a' w' h3 => ⟨h3.2.1, ih (listed.setIfInBounds j true) a' w' hfree' (ready_mono hr (Ne.symm hji)) h3.1 ?_⟩) h2
      rw [Array.setIfInBounds_comm _ _ hji]
      exact h3.2.2
theorem wpAnyLast_take {i : Nat} {oi : Oper} {v : Value} {fuel : Nat} {listed : Array Bool} {a : Act} {w : World} (hi : ops[i]? = some oi)
    (hs : Region.noSelect ops = true) (hf : Region.free md ops listed i = true) (hr : (Region.ready md ops listed).contains i = true)
    (hc : Region.closedB md ops listed = true) (hl : Region.lastB md ops listed ds i = true)
    (hQ : ∀ c a w, Q (.panic c) (a.put oi.dst v) w → Q (.panic c) a w) (hy : YieldsIf P ops S oi v a) (hS : S w)
    (h : wpAnyLast P md ops Q S ds fuel (listed.setIfInBounds i true) (a.put oi.dst v) w) : wpAnyLast P md ops Q S ds (fuel + 1) listed a w :=
  wpAnyLast_first hi (Region.noSelect_spec hs) hQ ops.size fuel listed a w (Region.free_spec hi hf) (Region.closedB_spec hc)
    (fun d hm hun => by have := List.all_eq_true.1 hl d hm; rw [hun] at this; simpa using this) (by simpa using hr) hy hS h
theorem wpAnyLast_all {rs : List Nat} {fuel : Nat} {listed : Array Bool} {a : Act} {w : World} (hr : Region.ready md ops listed = rs) (hne : rs ≠ [])
    (h : ∀ i ∈ rs, wpOp P ops Q i (fun a' w' => (i ∉ ds → S w → S w') ∧ wpAnyLast P md ops Q S ds fuel (listed.setIfInBounds i true) a' w') a w) : wpAnyLast P md ops Q S ds (fuel + 1) listed a w :=
  ⟨fun h0 => absurd (hr ▸ h0) hne, hr ▸ h⟩
theorem wpAnyLast_done {listed : Array Bool} {a : Act} {w : World} (hr : Region.ready md ops listed = []) (h : Q .normal a w) :
    ∀ fuel, wpAnyLast P md ops Q S ds fuel listed a w
  | 0 => ⟨hr, h⟩
  | _ + 1 => ⟨fun _ => h, by rw [hr]; simp⟩
theorem wp_region_last {id : Nat} {a : Act} {w : World} (hm : P.follows .mixedOrders = true)
    (h : wpAnyLast P .any ops Q S ds ops.size (Array.replicate ops.size false) a { w with drawn := w.drawn + 1 }) : (Code.region id ops true).wp P Q a w :=
  wp_region_any hm (wpAny_of_last _ _ _ _ h)
end
section
variable {P : Program} {ops : Array Oper} {Q : Exit → Act → World → Prop} {md : Region.Mode} {S : World → Prop} {ds : List Nat}
def AllReadyL (P : Program) (md : Region.Mode) (ops : Array Oper) (Q : Exit → Act → World → Prop) (S : World → Prop) (ds : List Nat) (fuel : Nat) (listed : Array Bool) (a : Act) (w : World) (rs : List Nat) : Prop :=
  ∀ i ∈ rs, wpOp P ops Q i (fun a' w' => (i ∉ ds → S w → S w') ∧ wpAnyLast P md ops Q S ds fuel (listed.setIfInBounds i true) a' w') a w
theorem AllReadyL.nil {fuel : Nat} {listed : Array Bool} {a : Act} {w : World} : AllReadyL P md ops Q S ds fuel listed a w [] := fun _ h => by cases h
theorem AllReadyL.cons {fuel : Nat} {listed : Array Bool} {a : Act} {w : World} {i : Nat} {o : Oper} {rs : List Nat} (ho : ops[i]? = some o) (hd : i ∉ ds)
    (h : ∀ K' : Act → World → Prop, Shut (∀ a w, S w → (S w → wpAnyLast P md ops Q S ds fuel (listed.setIfInBounds i true) a w) → K' a w) → if Region.wanted o (yielded ops a.tmps) = true then Oper.wp P o a w K' Q else K' (a.put o.dst undef) w)
    (hs : AllReadyL P md ops Q S ds fuel listed a w rs) : AllReadyL P md ops Q S ds fuel listed a w (i :: rs) := fun j hj => by
  rcases List.mem_cons.1 hj with rfl | hj
  · exact wpOp_step ho (fun K' hK => h K' (fun a w hS hW => hK a w ⟨fun _ _ => hS, hW hS⟩))
  · exact hs j hj
theorem AllReadyL.cons_last {fuel : Nat} {listed : Array Bool} {a : Act} {w : World} {i : Nat} {o : Oper} {rs : List Nat} (ho : ops[i]? = some o) (hd : i ∈ ds)
    (h : ∀ K' : Act → World → Prop, Shut (∀ a w, wpAnyLast P md ops Q S ds fuel (listed.setIfInBounds i true) a w → K' a w) → if Region.wanted o (yielded ops a.tmps) = true then Oper.wp P o a w K' Q else K' (a.put o.dst undef) w)
    (hs : AllReadyL P md ops Q S ds fuel listed a w rs) : AllReadyL P md ops Q S ds fuel listed a w (i :: rs) := fun j hj => by
  rcases List.mem_cons.1 hj with rfl | hj
  · exact wpOp_step ho (fun K' hK => h K' (fun a w hW => hK a w ⟨fun hn => absurd hd hn, hW⟩))
  · exact hs j hj
theorem wpAnyLast_ready {rs : List Nat} {fuel : Nat} {listed : Array Bool} {a : Act} {w : World} (hr : Region.ready md ops listed = rs) (hne : rs ≠ [])
    (h : AllReadyL P md ops Q S ds fuel listed a w rs) : wpAnyLast P md ops Q S ds (fuel + 1) listed a w := wpAnyLast_all hr hne h
theorem start_ {id n : Nat} {a : Act} {w : World} (l : Array Bool) (hm : P.follows .mixedOrders = true) (hn : ops.size = n) (hl : Array.replicate n false = l) (hS : S w.drew)
    (h : S w.drew → wpAnyLast P .any ops Q S ds n l a w.drew) : (Code.region id ops true).wp P Q a w := by
  subst hn
  subst hl
  exact wp_region_last hm (h hS)
def takeB (md : Region.Mode) (ops : Array Oper) (ds : List Nat) (l l' : Array Bool) (i : Nat) : Bool :=
  Region.noSelect ops && Region.free md ops l i && (Region.ready md ops l).contains i && Region.closedB md ops l && Region.lastB md ops l ds i && (l.setIfInBounds i true == l')
theorem take_ {i : Nat} {N : Option Tmp} {oi : Oper} {v : Value} {fuel : Nat} {l : Array Bool} {a : Act} {w : World} (l' : Array Bool) (hi : ops[i]? = some oi) (hN : oi.dst = N) (hc : takeB md ops ds l l' i = true)
    (hQ : ∀ c a w, Q (.panic c) (a.put oi.dst v) w → Q (.panic c) a w) (hy : YieldsIf P ops S oi v a) (hS : S w) {a' : Act} (ha : a.put N v = a')
    (h : wpAnyLast P md ops Q S ds fuel l' a' w) : wpAnyLast P md ops Q S ds (fuel + 1) l a w := by
  subst ha
  subst hN
  simp only [takeB, Bool.and_eq_true, beq_iff_eq] at hc
  obtain ⟨⟨⟨⟨⟨h1, h2⟩, h3⟩, h4⟩, h5⟩, h6⟩ := hc
  subst h6
  exact wpAnyLast_take hi h1 h2 h3 h4 h5 hQ hy hS h
def anyB (md : Region.Mode) (ops : Array Oper) (l l' : Array Bool) (i : Nat) : Bool :=
  Region.noSelect ops && Region.free md ops l i && (Region.ready md ops l).contains i && (l.setIfInBounds i true == l')
theorem pure_ {i : Nat} {N : Option Tmp} {oi : Oper} {v : Value} {fuel : Nat} {l : Array Bool} {a : Act} {w : World} (l' : Array Bool) (hi : ops[i]? = some oi) (hN : oi.dst = N) (hc : anyB md ops l l' i = true)
    (hQ : ∀ c a w, Q (.panic c) (a.put oi.dst v) w → Q (.panic c) a w) (hy : Yields P ops oi v a) {a' : Act} (ha : a.put N v = a')
    (h : wpAnyLast P md ops Q S ds fuel l' a' w) : wpAnyLast P md ops Q S ds (fuel + 1) l a w := by
  subst ha
  subst hN
  simp only [anyB, Bool.and_eq_true, beq_iff_eq] at hc
  obtain ⟨⟨⟨h1, h2⟩, h3⟩, h6⟩ := hc
  subst h6
  exact wpAnyLast_any hi (Region.noSelect_spec h1) hQ fuel l a w (Region.free_spec hi h2) (by simpa using h3) hy h
def readyB (md : Region.Mode) (ops : Array Oper) (l l' : Array Bool) (i : Nat) : Bool := (Region.ready md ops l == [i]) && (l.setIfInBounds i true == l')
theorem one_ {i : Nat} {N : Option Tmp} {oi : Oper} {fuel : Nat} {l : Array Bool} {a : Act} {w : World} (l' : Array Bool) (hi : ops[i]? = some oi) (hN : oi.dst = N) (hc : readyB md ops l l' i = true) (hd : i ∉ ds)
    (h : ∀ K : Act → World → Prop, Shut (∀ a' w', S w' → (S w' → wpAnyLast P md ops Q S ds fuel l' a' w') → K a' w') → if Region.wanted oi (yielded ops a.tmps) = true then Oper.wp P oi a w K Q else K (a.put N undef) w) :
    wpAnyLast P md ops Q S ds (fuel + 1) l a w := by
  subst hN
  simp only [readyB, Bool.and_eq_true, beq_iff_eq] at hc
  obtain ⟨h1, h2⟩ := hc
  subst h2
  exact wpAnyLast_ready h1 (by simp) (AllReadyL.cons hi hd (fun K hK => h K hK) AllReadyL.nil)
theorem last_ {i : Nat} {N : Option Tmp} {oi : Oper} {fuel : Nat} {l : Array Bool} {a : Act} {w : World} (l' : Array Bool) (hi : ops[i]? = some oi) (hN : oi.dst = N) (hc : readyB md ops l l' i = true) (hd : i ∈ ds)
    (h : ∀ K : Act → World → Prop, Shut (∀ a' w', wpAnyLast P md ops Q S ds fuel l' a' w' → K a' w') → if Region.wanted oi (yielded ops a.tmps) = true then Oper.wp P oi a w K Q else K (a.put N undef) w) :
    wpAnyLast P md ops Q S ds (fuel + 1) l a w := by
  subst hN
  simp only [readyB, Bool.and_eq_true, beq_iff_eq] at hc
  obtain ⟨h1, h2⟩ := hc
  subst h2
  exact wpAnyLast_ready h1 (by simp) (AllReadyL.cons_last hi hd (fun K hK => h K hK) AllReadyL.nil)
theorem done_ {l : Array Bool} {a : Act} {w : World} {n : Nat} (hr : (Region.ready md ops l == []) = true) (h : Q .normal a w) : wpAnyLast P md ops Q S ds n l a w := wpAnyLast_done (by simpa using hr) h n
theorem norm_ {fuel : Nat} {l : Array Bool} {a a' : Act} {w : World} (ha : a = a') (h : wpAnyLast P md ops Q S ds fuel l a' w) : wpAnyLast P md ops Q S ds fuel l a w := by
  subst ha
  exact h
theorem call_ {oi : Oper} {N : Option Tmp} {a : Act} {w : World} {K : Act → World → Prop} (f : FuncId) (args : Array Value) (hw : Region.wanted oi (yielded ops a.tmps) = true) (hN : oi.dst = N) (hrun : (execOp a.eval oi).run P w = .ok (.enter f args) w)
    (h : Calls P f args w fun e w' => ∃ v, e = .returned v ∧ K (a.put N v) w') : if Region.wanted oi (yielded ops a.tmps) = true then Oper.wp P oi a w K Q else K (a.put N undef) w := by
  rw [if_pos hw]
  subst hN
  unfold Oper.wp
  rw [hrun, Oper.upon_enter]
  refine h.mono fun e w'' hh => ?_
  obtain ⟨v, rfl, hk⟩ := hh
  exact hk
theorem enters_ {f : FuncId} {fn : Func} (hf : P.funcs[f]? = some fn) (hname : (fn.name == "runtime.NumGoroutine") = false) (hb : fn.body.isSome = true) (args : Array Value) (w : World) : (callFunc f args).run P w = .ok (.enter f args) w := by
  have h1 : fn.name ≠ "runtime.NumGoroutine" := by simpa using hname
  obtain ⟨c, hc⟩ := Option.isSome_iff_exists.1 hb
  simp [callFunc, hf, h1, hc]
theorem goes_ {oi : Oper} {N : Option Tmp} {a : Act} {w : World} {K : Act → World → Prop} {f : FuncId} {fn : Func} {as0 : Array Operand} {ts : Array TypeId} (hf : P.funcs[f]? = some fn) (hname : (fn.name == "runtime.NumGoroutine") = false) (hb : fn.body.isSome = true) (args : Array Value)
    (hw : Region.wanted oi (yielded ops a.tmps) = true) (hN : oi.dst = N) (hop : oi.op = .call { callee := .value (.func f), args := as0, argTypes := ts }) (hargs : as0.map a.eval = args)
    (h : Calls P f args w fun e w' => ∃ v, e = .returned v ∧ K (a.put N v) w') : if Region.wanted oi (yielded ops a.tmps) = true then Oper.wp P oi a w K Q else K (a.put N undef) w := by
  refine call_ f args hw hN ?_ h
  have he := enters_ hf hname hb args w
  unfold execOp
  simp [hop, resolve, Deferred.ofValue, invoke, Act.eval, hargs, he]
theorem off_ {oi : Oper} {N : Option Tmp} {a : Act} {w : World} {K : Act → World → Prop} (hw : Region.wanted oi (yielded ops a.tmps) = false) (h : K (a.put N undef) w) : if Region.wanted oi (yielded ops a.tmps) = true then Oper.wp P oi a w K Q else K (a.put N undef) w := by
  rw [hw, if_neg (by simp)]
  exact h
theorem i64_w (n : Int) : IntKind.i64.wrap n = Go.RowKit.wrap64 n := by unfold Go.RowKit.wrap64; exact IntKind.wrap_i64 n
theorem i32_w (n : Int) : IntKind.i32.wrap n = Go.RowKit.wrap32 n := by unfold Go.RowKit.wrap32; exact IntKind.wrap_i32 n
end
end Go.Proofs.YtjpfalanoifpbaaDoorW.PrintLast
end

section
namespace Go.Proofs.YtjpfalanoifpbaaDoorW.PrintWords
open Go.RowKit
namespace Kd
def tag {α : Type} (f : Nat → Nat) (d : Kd α) : Kd (α × Nat) where
  sz := d.sz
  E := d.E
  K := fun w x cs => d.K w x.1 cs
  M := fun w base ok x cs => d.M w base (fun k => ok k ∧ f k = x.2) x.1 cs
  K_len := fun h => d.K_len h
  K_one := fun h => d.K_one h
  K_below := fun hb h => d.K_below hb h
  K_of_M := fun h => d.K_of_M h
  M_mono := fun hok h => d.M_mono (fun k hk => ⟨hok k hk.1, hk.2⟩) h
  M_bound := fun h => d.M_mono (fun _ hk => ⟨⟨hk.1.1, hk.2⟩, hk.1.2⟩) (d.M_bound h)
  M_move := fun hm h => d.M_move (fun k hk => hm k hk.1) h
  M_lower := fun hb h => d.M_lower hb h
def raw (sz : Nat) : Kd (List Value) where
  sz := sz
  E := []
  K := fun _ x cs => cs = x ∧ cs.length = sz ∧ ∀ u ∈ cs, u.oneCell' = true
  M := fun _ _ _ x cs => cs = x ∧ cs.length = sz ∧ ∀ u ∈ cs, u.oneCell' = true
  K_len := fun h => h.2.1
  K_one := fun h => h.2.2
  K_below := fun _ h => h
  K_of_M := fun h => h
  M_mono := fun _ h => h
  M_bound := fun h => h
  M_move := fun _ h => h
  M_lower := fun _ h => h
def S {α : Type} (d : Kd α) (e : Nat) (w : World) (base : Nat) (ok : Nat → Prop) (v : Value) (xs : List α) : Prop := ∃ f, (tag f d).R e w base ok v xs.zipIdx
def gap {α : Type} (f : Nat → Nat) (d : Kd α) (i : Nat) (c : List Value) : Kd (α × Nat) where
  sz := d.sz
  E := d.E
  K := fun w x cs => (x.2 = i → cs = c ∧ cs.length = d.sz ∧ ∀ u ∈ cs, u.oneCell' = true) ∧ (x.2 ≠ i → d.K w x.1 cs)
  M := fun w base ok x cs => (x.2 = i → cs = c ∧ cs.length = d.sz ∧ ∀ u ∈ cs, u.oneCell' = true) ∧ (x.2 ≠ i → d.M w base (fun k => ok k ∧ f k = x.2) x.1 cs)
  K_len := fun {w x cs} h => by
    by_cases hx : x.2 = i
    · exact (h.1 hx).2.1
    · exact d.K_len (h.2 hx)
  K_one := fun {w x cs} h => by
    by_cases hx : x.2 = i
    · exact (h.1 hx).2.2
    · exact d.K_one (h.2 hx)
  K_below := fun hb h => ⟨h.1, fun hx => d.K_below hb (h.2 hx)⟩
  K_of_M := fun h => ⟨h.1, fun hx => d.K_of_M (h.2 hx)⟩
  M_mono := fun hok h => ⟨h.1, fun hx => d.M_mono (fun k hk => ⟨hok k hk.1, hk.2⟩) (h.2 hx)⟩
  M_bound := fun h => ⟨h.1, fun hx => d.M_mono (fun _ hk => ⟨⟨hk.1.1, hk.2⟩, hk.1.2⟩) (d.M_bound (h.2 hx))⟩
  M_move := fun hm h => ⟨h.1, fun hx => d.M_move (fun k hk => hm k hk.1) (h.2 hx)⟩
  M_lower := fun hb h => ⟨h.1, fun hx => d.M_lower hb (h.2 hx)⟩
def H {α : Type} (d : Kd α) (e : Nat) (w : World) (base : Nat) (ok : Nat → Prop) (v : Value) (xs : List α) (i : Int) (oki : Nat → Prop) (c : List Value) : Prop :=
  (∀ k, oki k → ok k) ∧ ∃ f, (gap f d i.toNat c).R e w base (fun k => ok k ∧ ¬ oki k) v xs.zipIdx
end Kd
end Go.Proofs.YtjpfalanoifpbaaDoorW.PrintWords
end

section
namespace Go.Proofs.YtjpfalanoifpbaaDoorW.PrintWords
open Go.RowKit
namespace Kd
structure Heap {α : Type} (d : Kd α) : Prop where
  K : ∀ {w w1 : World} {x : α} {cs : List Value}, (∀ k, k < w.heap.size → w1.heap[k]? = w.heap[k]?) → d.K w x cs → d.K w1 x cs
theorem cell_heap {w w1 : World} (hb : ∀ k, k < w.heap.size → w1.heap[k]? = w.heap[k]?) {a : Addr} {v : Value} (h : w.cell? a = some v) : w1.cell? a = some v := by
  have := hb a.block (World.block_lt_of_cell? w a h)
  simpa [World.cell?, this] using h
theorem Heap.C {α : Type} {d : Kd α} (hd : Heap d) {w w1 : World} {A : Option Addr} {n : Nat} {xs : List α} (hb : ∀ k, k < w.heap.size → w1.heap[k]? = w.heap[k]?) (h : d.C w A n xs) : d.C w1 A n xs :=
  ⟨h.1, h.2.1, fun hn => by
    obtain ⟨ad, e, hc⟩ := h.2.2 hn
    refine ⟨ad, e, fun j p hj => ?_⟩
    obtain ⟨c, hs, hr, hcell⟩ := hc j p hj
    exact ⟨c, hs, hd.K hb hr, fun i u hu => cell_heap hb (hcell i u hu)⟩⟩
end Kd
end Go.Proofs.YtjpfalanoifpbaaDoorW.PrintWords
end

section
namespace Go.Proofs.YtjpfalanoifpbaaDoorW.PrintWords
open Go.RowKit
def Kept (w W : World) (S : Nat → Prop) : Prop := w.heap.size ≤ W.heap.size ∧ ∀ i, i < w.heap.size → ¬ S i → W.heap[i]? = w.heap[i]?
section
variable {w W W2 : World} {S S2 S' : Nat → Prop}
theorem Kept.refl (w : World) (S : Nat → Prop) : Kept w w S := ⟨Nat.le_refl _, fun _ _ _ => rfl⟩
theorem Kept.of_below (h : Below w.heap.size w W) (S : Nat → Prop) : Kept w W S := ⟨h.size, fun i hi _ => h.block i hi⟩
theorem Kept.then_ (h : Kept w W S) (k : Kept W W2 S2) (hs : ∀ k, S2 k → S k ∨ w.heap.size ≤ k) : Kept w W2 S :=
  ⟨Nat.le_trans h.1 k.1, fun i hi hn => (k.2 i (Nat.lt_of_lt_of_le hi h.1) (fun h2 => (hs i h2).elim hn (fun h3 => by omega))).trans (h.2 i hi hn)⟩
theorem Kept.of_grown {row : Option Nat} (hg : W.grownBy W2 row) (h : Kept w W S) (hr : ∀ k, row = some k → S k ∨ w.heap.size ≤ k) : Kept w W2 S :=
  h.then_ (S2 := fun k => row = some k) ⟨hg.size, fun i hi hn => hg.block i hi (fun he => hn he.symm)⟩ hr
theorem Kept.below (h : Kept w W S) (hb : Below W.heap.size W W2) : Kept w W2 S := h.then_ (Kept.of_below hb (fun _ => False)) (fun _ hk => hk.elim)
theorem Kept.alloc (h : Kept w W S) (o : Obj) : Kept w (W.alloc o) S := h.below (below_alloc (Below.refl _ _) o)
theorem Kept.drew (h : Kept w W S) : Kept w W.drew S := h
theorem Kept.drewN (h : Kept w W S) (m : Nat) : Kept w (W.drewN m) S := h
theorem Kept.setCell (h : Kept w W S) {p : Addr} (hp : S p.block ∨ w.heap.size ≤ p.block) (u : Value) : Kept w (W.setCell p u) S :=
  h.then_ (S2 := fun k => k = p.block) ⟨by simp [World.setCell], fun i _ hn => Below.heap_setCell W p u i hn⟩ (fun k hk => by rw [hk]; exact hp)
end
namespace Kd
end Kd
end Go.Proofs.YtjpfalanoifpbaaDoorW.PrintWords
end

section
namespace Go.Proofs.YtjpfalanoifpbaaDoorW.PrintWords
open Go.RowKit
def Foot (P : World → Prop) (W : World) (ok : Nat → Prop) : Prop := ∀ W' : World, (∀ k, ok k → k < W.heap.size → W'.heap[k]? = W.heap[k]?) → P W'
theorem heap_lt {W W1 : World} {k : Nat} (h : W1.heap[k]? = W.heap[k]?) (hlt : k < W.heap.size) : k < W1.heap.size := by
  rw [Array.getElem?_eq_getElem hlt] at h
  exact (Array.getElem?_eq_some_iff.1 h).1
namespace Foot
variable {P Q : World → Prop} {W W1 : World} {ok ok' : Nat → Prop}
theorem mono (h : Foot P W ok) (hok : ∀ k, ok k → ok' k) : Foot P W ok' := fun W' hW => h W' (fun k hk hlt => hW k (hok k hk) hlt)
theorem bound (h : Foot P W ok) : Foot P W (fun k => ok k ∧ k < W.heap.size) := fun W' hW => h W' (fun k hk hlt => hW k ⟨hk, hlt⟩ hlt)
theorem step (h : Foot P W ok) (hm : ∀ k, ok k → k < W.heap.size → W1.heap[k]? = W.heap[k]?) : Foot P W1 ok := fun W' hW => h W' (fun k hk hlt => (hW k hk (heap_lt (hm k hk hlt) hlt)).trans (hm k hk hlt))
theorem imp (h : Foot P W ok) (hi : ∀ W', P W' → Q W') : Foot Q W ok := fun W' hW => hi W' (h W' hW)
theorem old (h : Foot P W ok) (hb : Below W.heap.size W W1) : Foot P W1 (fun k => ok k ∧ k < W.heap.size) := (h.bound).step (fun k _ hlt => hb.block k hlt)
end Foot
namespace Kd
def F {α : Type} (d : Kd α) (W : World) (ok : Nat → Prop) (A : Option Addr) (n : Nat) (xs : List α) : Prop := Foot (fun W => d.C W A n xs) W ok
def FK {α : Type} (d : Kd α) (W : World) (ok : Nat → Prop) (x : α) (c : List Value) : Prop := Foot (fun W => d.K W x c) W ok
end Kd
end Go.Proofs.YtjpfalanoifpbaaDoorW.PrintWords
end

section
namespace Go.Proofs.YtjpfalanoifpbaaDoorW.PrintWords
open Go.RowKit
namespace Kd
section
variable {α : Type} {d : Kd α} {e base n cc g : Nat} {ok ok' okp S : Nat → Prop} {w w1 W W1 : World} {A : Option Addr} {u v v1 : Value} {xs : List α} {x : α} {c : List Value}
def N {α : Type} (d : Kd α) (e : Nat) (w : World) (base : Nat) (ok : Nat → Prop) (v : Value) (xs : List α) : Prop :=
  (∀ k, v.ownBlock = some k → ok k) ∧ ∃ rows : List (List Value), rows.length = xs.length ∧ (raw d.sz).R e w base (fun k => some k = v.ownBlock) v rows ∧ ∀ (j : Nat) (x : α) (c : List Value), xs[j]? = some x → rows[j]? = some c → FK d w (fun k => ok k ∧ some k ≠ v.ownBlock) x c
end
end Kd
end Go.Proofs.YtjpfalanoifpbaaDoorW.PrintWords
end

section
namespace Go.Proofs.YtjpfalanoifpbaaDoorW.PrintWords
theorem Reps.front {α : Type} {R : α → List Value → Prop} {size : Nat} {ps : List α} {cs c all : List Value} {p : α} (hp : R p c) (hc : c.length = size) (h : Reps R size ps cs) (ha : c ++ cs = all) : Reps R size (p :: ps) all := by
  subst ha
  refine ⟨by rw [List.length_append, hc, h.1, List.length_cons, Nat.succ_mul, Nat.add_comm], fun j q hq => ?_⟩
  cases j with
  | zero =>
    simp only [List.getElem?_cons_zero, Option.some.injEq] at hq
    subst hq
    rw [Nat.zero_mul, List.drop_zero, List.take_append_of_le_length (by omega), List.take_of_length_le (by omega)]
    exact hp
  | succ j =>
    simp only [List.getElem?_cons_succ] at hq
    have h1 := h.2 j q hq
    rw [Nat.succ_mul, List.drop_append, List.drop_of_length_le (by rw [hc]; exact Nat.le_add_left _ _), List.nil_append, hc, Nat.add_sub_cancel]
    exact h1
theorem Reps.c2 {α : Type} {R : α → List Value → Prop} {ps : List α} {cs : List Value} {p : α} {va vb : Value} (hp : R p [va, vb]) (h : Reps R 2 ps cs) : Reps R 2 (p :: ps) (va :: vb :: cs) := Reps.front hp rfl h rfl
theorem Reps.c3 {α : Type} {R : α → List Value → Prop} {ps : List α} {cs : List Value} {p : α} {va vb vc : Value} (hp : R p [va, vb, vc]) (h : Reps R 3 ps cs) : Reps R 3 (p :: ps) (va :: vb :: vc :: cs) := Reps.front hp rfl h rfl
theorem Reps.c4 {α : Type} {R : α → List Value → Prop} {ps : List α} {cs : List Value} {p : α} {va vb vc vd : Value} (hp : R p [va, vb, vc, vd]) (h : Reps R 4 ps cs) : Reps R 4 (p :: ps) (va :: vb :: vc :: vd :: cs) := Reps.front hp rfl h rfl
theorem Reps.c5 {α : Type} {R : α → List Value → Prop} {ps : List α} {cs : List Value} {p : α} {va vb vc vd ve : Value} (hp : R p [va, vb, vc, vd, ve]) (h : Reps R 5 ps cs) : Reps R 5 (p :: ps) (va :: vb :: vc :: vd :: ve :: cs) := Reps.front hp rfl h rfl
theorem Reps.c6 {α : Type} {R : α → List Value → Prop} {ps : List α} {cs : List Value} {p : α} {va vb vc vd ve vf : Value} (hp : R p [va, vb, vc, vd, ve, vf]) (h : Reps R 6 ps cs) : Reps R 6 (p :: ps) (va :: vb :: vc :: vd :: ve :: vf :: cs) := Reps.front hp rfl h rfl
theorem Reps.c7 {α : Type} {R : α → List Value → Prop} {ps : List α} {cs : List Value} {p : α} {va vb vc vd ve vf vg : Value} (hp : R p [va, vb, vc, vd, ve, vf, vg]) (h : Reps R 7 ps cs) : Reps R 7 (p :: ps) (va :: vb :: vc :: vd :: ve :: vf :: vg :: cs) := Reps.front hp rfl h rfl
theorem Reps.c8 {α : Type} {R : α → List Value → Prop} {ps : List α} {cs : List Value} {p : α} {va vb vc vd ve vf vg vh : Value} (hp : R p [va, vb, vc, vd, ve, vf, vg, vh]) (h : Reps R 8 ps cs) : Reps R 8 (p :: ps) (va :: vb :: vc :: vd :: ve :: vf :: vg :: vh :: cs) := Reps.front hp rfl h rfl
theorem Reps.c9 {α : Type} {R : α → List Value → Prop} {ps : List α} {cs : List Value} {p : α} {va vb vc vd ve vf vg vh vi : Value} (hp : R p [va, vb, vc, vd, ve, vf, vg, vh, vi]) (h : Reps R 9 ps cs) : Reps R 9 (p :: ps) (va :: vb :: vc :: vd :: ve :: vf :: vg :: vh :: vi :: cs) := Reps.front hp rfl h rfl
end Go.Proofs.YtjpfalanoifpbaaDoorW.PrintWords
end

section
namespace Go.Proofs.YtjpfalanoifpbaaDoorW.PrintLast
def up (b : Nat → Bool) (i : Nat) : Nat → Bool := fun j => if j = i then true else b j
end Go.Proofs.YtjpfalanoifpbaaDoorW.PrintLast
end

section
namespace Go.Proofs.YtjpfalanoifpbaaDoorW.PrintMore
open Go.RowKit Go.Proofs.YtjpfalanoifpbaaDoorW.PrintWords
namespace Kd
open Go.Proofs.YtjpfalanoifpbaaDoorW.PrintWords.Kd
end Kd
namespace Kd
open Go.Proofs.YtjpfalanoifpbaaDoorW.PrintWords.Kd
end Kd
end Go.Proofs.YtjpfalanoifpbaaDoorW.PrintMore
namespace Go.Proofs.YtjpfalanoifpbaaDoorW.PrintWords
open Go.RowKit
def mx (a b : Int) : Int := if a < b then b else a
namespace Kd
end Kd
end Go.Proofs.YtjpfalanoifpbaaDoorW.PrintWords
namespace Go.Proofs.YtjpfalanoifpbaaDoorW.PrintWords
open Go.RowKit
namespace Kd
def V {α : Type} (d : Kd α) (_e : Nat) (W : World) (_base : Nat) (ok : Nat → Prop) (v : Value) (xs : List α) : Prop := ∃ A c, v = .slice A xs.length c ∧ xs.length ≤ c ∧ F d W ok A xs.length xs
end Kd
end Go.Proofs.YtjpfalanoifpbaaDoorW.PrintWords
end

section
namespace Go.Proofs.YtjpfalanoifpbaaDoor.X
open Go.RowKit Go.Proofs.YtjpfalanoifpbaaDoorW.PrintWords Go.Proofs.YtjpfalanoifpbaaDoorW.PrintLast Go.Proofs.YtjpfalanoifpbaaDoorW.PrintMore
theorem skip_step {P : Program} {ops : Array Oper} {oi : Oper} {a : Act} {Q : Exit → Act → World → Prop} {K : Act → World → Prop} {W w1 : World} (hw : Region.wanted oi (yielded ops a.tmps) = true) (hrun : (execOp a.eval oi).run P W = .ok .skip w1) (h : K (a.put oi.dst undef) w1) :
    if Region.wanted oi (yielded ops a.tmps) = true then Oper.wp P oi a W K Q else K (a.put none undef) W := by
  rw [if_pos hw]
  unfold Oper.wp
  rw [hrun]
  exact h
theorem cell_set_other {w : World} {p q : Addr} (v : Value) (hne : q.block ≠ p.block) : (w.setCell p v).cell? q = w.cell? q :=
  World.cell?_of_block (Below.heap_setCell w p v q.block hne)
theorem ret_bool {a b : Bool} (h : a = b) : Ending.returned (.bool a) = .returned (.bool b) := by rw [h]
end Go.Proofs.YtjpfalanoifpbaaDoor.X
end

section
set_option linter.unusedVariables false
namespace Go.Proofs.YtjpfalanoifpbaaDoor.T
def pc (x : Nat) : Nat := (List.range 5).countP fun i => x.testBit i
theorem countP_le_of {α : Type} {p q : α → Bool} {l : List α} (h : ∀ x ∈ l, p x = true → q x = true) : l.countP p ≤ l.countP q := List.countP_mono_left fun x hx => h x hx
theorem countP_eq_of {α : Type} {p q : α → Bool} : ∀ {l : List α}, (∀ x ∈ l, p x = true → q x = true) → l.countP p = l.countP q → ∀ x ∈ l, p x = q x
  | [], _, _, x, hx => by cases hx
  | a :: l, h, e, x, hx => by
    have h1 : l.countP p ≤ l.countP q := countP_le_of fun y hy => h y (List.mem_cons_of_mem _ hy)
    have ha := h a List.mem_cons_self
    rw [List.countP_cons, List.countP_cons] at e
    have key : p a = q a ∧ l.countP p = l.countP q := by
      cases hp : p a <;> cases hq : q a <;> simp [hp, hq] at e ha ⊢ <;> omega
    rcases List.mem_cons.1 hx with rfl | hx
    · exact key.1
    · exact countP_eq_of (fun y hy => h y (List.mem_cons_of_mem _ hy)) key.2 x hx
theorem pc_le (x : Nat) : pc x ≤ 5 := by
  unfold pc
  have := List.countP_le_length (p := fun i => x.testBit i) (l := List.range 5)
  simpa using this
theorem pc_mono (x y : Nat) : pc x ≤ pc (x ||| y) := countP_le_of fun i _ h => by rw [Nat.testBit_or, h, Bool.true_or]
theorem pc_eq {x y : Nat} (hx : x < 32) (hy : y < 32) (h : pc x = pc (x ||| y)) : x ||| y = x := by
  refine Nat.eq_of_testBit_eq fun i => ?_
  by_cases hi : i < 5
  · have := countP_eq_of (p := fun i => x.testBit i) (q := fun i => (x ||| y).testBit i) (l := List.range 5) (fun j _ hj => by rw [Nat.testBit_or, hj, Bool.true_or]) h i (List.mem_range.2 hi)
    exact this.symm
  · have e1 : x.testBit i = false := Nat.testBit_lt_two_pow (Nat.lt_of_lt_of_le hx (show 2 ^ 5 ≤ 2 ^ i from Nat.pow_le_pow_right (by decide) (by omega)))
    have e2 : y.testBit i = false := Nat.testBit_lt_two_pow (Nat.lt_of_lt_of_le hy (show 2 ^ 5 ≤ 2 ^ i from Nat.pow_le_pow_right (by decide) (by omega)))
    rw [Nat.testBit_or, e1, e2]
    rfl
theorem or_lt {x y : Nat} (hx : x < 32) (hy : y < 32) : x ||| y < 32 := Nat.or_lt_two_pow (n := 5) hx hy
def rep {α : Type} (T : α → α) : Nat → α → α
  | 0, x => x
  | n + 1, x => T (rep T n x)
theorem rep_fix {α : Type} {T : α → α} {x : α} {m : Nat} (h : T (rep T m x) = rep T m x) : ∀ d, rep T (m + d) x = rep T m x
  | 0 => rfl
  | d + 1 => by rw [← Nat.add_assoc, rep, rep_fix h d, h]
theorem rep_stands {α : Type} (T : α → α) (P : α → Prop) (μ : α → Nat) (N : Nat) (hP : ∀ x, P x → P (T x)) (hT : ∀ x, P x → T x = x ∨ μ x < μ (T x)) (hN : ∀ x, P x → μ x ≤ N) {x : α} (hx : P x) :
    ∀ m, N ≤ m → T (rep T m x) = rep T m x := by
  have hPn : ∀ m, P (rep T m x) := fun m => by
    induction m with
    | zero => exact hx
    | succ m ih => exact hP _ ih
  have key : ∀ m, T (rep T m x) = rep T m x ∨ m < μ (T (rep T m x)) := by
    intro m
    induction m with
    | zero =>
      rcases hT _ (hPn 0) with h | h
      · exact .inl h
      · exact .inr (by omega)
    | succ m ih =>
      rcases ih with h | h
      · exact .inl (by rw [rep, h, h])
      · rcases hT _ (hPn (m + 1)) with h2 | h2
        · exact .inl h2
        · exact .inr (by rw [rep] at h2 ⊢; omega)
  intro m hm
  rcases key m with h | h
  · exact h
  · have := hN _ (hPn (m + 1))
    rw [rep] at this
    omega
theorem rep_more {α : Type} (T : α → α) (P : α → Prop) (μ : α → Nat) (N : Nat) (hP : ∀ x, P x → P (T x)) (hT : ∀ x, P x → T x = x ∨ μ x < μ (T x)) (hN : ∀ x, P x → μ x ≤ N) {x : α} (hx : P x) {m k : Nat} (hm : N ≤ m) (hk : N ≤ k) :
    rep T m x = rep T k x := by
  have h := rep_stands T P μ N hP hT hN hx N (Nat.le_refl _)
  rw [show m = N + (m - N) by omega, show k = N + (k - N) by omega, rep_fix h, rep_fix h]
def Five (F : Nat → Nat) : Prop := (∀ j, F j < 32) ∧ ∀ j, 5 ≤ j → F j = 0
def upd (F : Nat → Nat) (j v : Nat) : Nat → Nat := fun i => if i = j then F i ||| v else F i
def mu (F : Nat → Nat) : Nat := pc (F 0) + pc (F 1) + pc (F 2) + pc (F 3) + pc (F 4)
theorem Five.upd {F : Nat → Nat} (h : Five F) {j v : Nat} (hj : j < 5) (hv : v < 32) : Five (upd F j v) := by
  refine ⟨fun i => ?_, fun i hi => ?_⟩
  · unfold Go.Proofs.YtjpfalanoifpbaaDoor.T.upd
    split
    · exact or_lt (h.1 i) hv
    · exact h.1 i
  · unfold Go.Proofs.YtjpfalanoifpbaaDoor.T.upd
    rw [if_neg (by omega)]
    exact h.2 i hi
def Up (F G : Nat → Nat) : Prop := ∀ j, F j ||| G j = G j
theorem Up.refl (F : Nat → Nat) : Up F F := fun j => Nat.or_self _
theorem Up.trans {F G H : Nat → Nat} (h : Up F G) (k : Up G H) : Up F H := fun j => by rw [← k j, ← Nat.or_assoc, h j]
theorem Up.upd (F : Nat → Nat) (j v : Nat) : Up F (upd F j v) := fun i => by
  unfold Go.Proofs.YtjpfalanoifpbaaDoor.T.upd
  split
  · rw [← Nat.or_assoc, Nat.or_self]
  · exact Nat.or_self _
theorem Up.pc {F G : Nat → Nat} (h : Up F G) (j : Nat) : pc (F j) ≤ pc (G j) := by
  rw [← h j]
  exact pc_mono _ _
theorem Up.stands {F G : Nat → Nat} (h : Up F G) (hF : Five F) (hG : Five G) : G = F ∨ mu F < mu G := by
  by_cases hm : mu F < mu G
  · exact .inr hm
  · refine .inl (funext fun j => ?_)
    by_cases hj : j < 5
    · have e : ∀ i, i < 5 → Go.Proofs.YtjpfalanoifpbaaDoor.T.pc (F i) = Go.Proofs.YtjpfalanoifpbaaDoor.T.pc (G i) := by
        have a0 := h.pc 0
        have a1 := h.pc 1
        have a2 := h.pc 2
        have a3 := h.pc 3
        have a4 := h.pc 4
        unfold mu at hm
        intro i hi
        match i, hi with
        | 0, _ => omega
        | 1, _ => omega
        | 2, _ => omega
        | 3, _ => omega
        | 4, _ => omega
      have := e j hj
      have k := pc_eq (hF.1 j) (hG.1 j) (by rw [h j]; exact this)
      rw [← h j]
      exact k
    · rw [hF.2 j (by omega), hG.2 j (by omega)]
theorem mu_le (F : Nat → Nat) : mu F ≤ 25 := by
  have := pc_le (F 0)
  have := pc_le (F 1)
  have := pc_le (F 2)
  have := pc_le (F 3)
  have := pc_le (F 4)
  unfold mu
  omega
def ch (s : ByteArray) (i : Nat) : Int := if h : i < s.size then ((s[i]'h).toNat : Int) else 0
theorem ch_at (s : ByteArray) (i : Nat) (h : i < s.size) : ((s[i]'h).toNat : Int) = ch s i := by unfold ch; rw [dif_pos h]
theorem ch_range (s : ByteArray) (i : Nat) : 0 ≤ ch s i ∧ ch s i < 256 := by
  unfold ch
  split
  · rename_i h
    have := (s[i]'h).toNat_lt
    omega
  · omega
def isP (c : Int) : Bool := decide (65 ≤ c) && decide (c ≤ 69)
def isD (c : Int) : Bool := decide (97 ≤ c) && decide (c ≤ 100)
def pn (c : Int) : Nat := (c - 65).toNat
def wn (c : Int) : Nat := (c - 97).toNat
theorem isP_iff {c : Int} : isP c = true ↔ 65 ≤ c ∧ c ≤ 69 := by unfold isP; simp
theorem isD_iff {c : Int} : isD c = true ↔ 97 ≤ c ∧ c ≤ 100 := by unfold isD; simp
theorem pn_lt {c : Int} (h : isP c = true) : pn c < 5 := by rw [isP_iff] at h; unfold pn; omega
theorem wn_lt {c : Int} (h : isD c = true) : 2 ^ wn c < 32 := by
  rw [isD_iff] at h
  have : wn c ≤ 3 := by unfold wn; omega
  exact Nat.lt_of_le_of_lt (Nat.pow_le_pow_right (by decide) this) (by decide)
theorem pp_lt {c : Int} (h : isP c = true) : 2 ^ pn c < 32 := by
  have : pn c ≤ 4 := by have := pn_lt h; omega
  exact Nat.lt_of_le_of_lt (Nat.pow_le_pow_right (by decide) this) (by decide)
def okR (s : ByteArray) : Prop := ∀ i, i < s.size → isP (ch s i) = true ∨ isD (ch s i) = true
def beg (F : Nat → Nat) (e : Nat) (s : ByteArray) (k acc : Nat) : Nat × Bool :=
  if k < s.size then
    if isP (ch s k) = true then
      if e.testBit (pn (ch s k)) = true then beg F e s (k + 1) (acc ||| F (pn (ch s k)))
      else (acc ||| F (pn (ch s k)), false)
    else (acc ||| 2 ^ wn (ch s k), false)
  else (acc, true)
termination_by s.size - k
theorem beg_lt {F : Nat → Nat} (hF : ∀ j, F j < 32) (e : Nat) {s : ByteArray} (hs : okR s) (k acc : Nat) (ha : acc < 32) : (beg F e s k acc).1 < 32 := by
  unfold beg
  split
  · rename_i hk
    split
    · rename_i hp
      split
      · exact beg_lt hF e hs (k + 1) _ (or_lt ha (hF _))
      · exact or_lt ha (hF _)
    · rename_i hp
      exact or_lt ha (wn_lt ((hs k hk).resolve_left hp))
  · exact ha
termination_by s.size - k
section
variable (L : Nat → Int) (R : Nat → ByteArray)
def allP (e : Nat) (s : ByteArray) : Bool := (List.range s.size).all fun i => isP (ch s i) && e.testBit (pn (ch s i))
def eTo (e : Nat) : Nat → Nat
  | 0 => e
  | k + 1 => if allP (eTo e k) (R k) = true then eTo e k ||| 2 ^ pn (L k) else eTo e k
def fTo (E : Nat) (F : Nat → Nat) : Nat → Nat → Nat
  | 0 => F
  | k + 1 => upd (fTo E F k) (pn (L k)) (beg (fTo E F k) E (R k) 0 0).1
def nIn (G : Nat → Nat) (E : Nat) (l : Int) (s : ByteArray) (F : Nat → Nat) : Nat → Nat → Nat
  | 0 => F
  | i + 1 => if isP (ch s i) = true then
      upd (nIn G E l s F i) (pn (ch s i)) (if (beg G E (s.extract (i + 1) s.size) 0 0).2 = true then (beg G E (s.extract (i + 1) s.size) 0 0).1 ||| nIn G E l s F i (pn l) else (beg G E (s.extract (i + 1) s.size) 0 0).1)
    else nIn G E l s F i
def nTo (G : Nat → Nat) (E : Nat) (F : Nat → Nat) : Nat → Nat → Nat
  | 0 => F
  | k + 1 => nIn G E (L k) (R k) (nTo G E F k) (R k).size
def emptyN (n : Nat) : Nat := rep (fun e => eTo L R e n) 5 0
def firstN (n : Nat) : Nat → Nat := rep (fun F => fTo L R (emptyN L R n) F n) 25 fun _ => 0
def start16 : Nat → Nat := fun j => if j = pn (L 0) then 16 else 0
def nextN (n m : Nat) : Nat → Nat := rep (fun F => nTo L R (firstN L R n) (emptyN L R n) F n) m (start16 L)
def okG (n : Nat) : Prop := ∀ k, k < n → isP (L k) = true ∧ okR (R k)
variable {L R}
theorem eTo_lt {n : Nat} (h : okG L R n) {e : Nat} (he : e < 32) : ∀ k, k ≤ n → eTo L R e k < 32
  | 0, _ => he
  | k + 1, hk => by
    rw [eTo]
    split
    · exact or_lt (eTo_lt h he k (by omega)) (pp_lt (h k (by omega)).1)
    · exact eTo_lt h he k (by omega)
theorem eTo_up (e : Nat) : ∀ k, e ||| eTo L R e k = eTo L R e k
  | 0 => Nat.or_self _
  | k + 1 => by
    rw [eTo]
    split
    · rw [← Nat.or_assoc, eTo_up e k]
    · exact eTo_up e k
theorem eTo_stands {n : Nat} (h : okG L R n) {e : Nat} (he : e < 32) : eTo L R e n = e ∨ pc e < pc (eTo L R e n) := by
  have h1 := eTo_lt h he n (Nat.le_refl _)
  have h2 := eTo_up (L := L) (R := R) e n
  have h3 := pc_mono e (eTo L R e n)
  rw [h2] at h3
  by_cases hc : pc e = pc (eTo L R e n)
  · refine .inl ?_
    have := pc_eq he h1 (by rw [h2]; exact hc)
    rw [h2] at this
    exact this
  · exact .inr (by omega)
theorem empty_end {n : Nat} (h : okG L R n) {m : Nat} (hm : eTo L R (rep (fun e => eTo L R e n) m 0) n = rep (fun e => eTo L R e n) m 0) : rep (fun e => eTo L R e n) m 0 = emptyN L R n := by
  have h1 := rep_stands (fun e => eTo L R e n) (fun e => e < 32) pc 5 (fun e he => eTo_lt h he n (Nat.le_refl _)) (fun e he => eTo_stands h he) (fun e _ => pc_le e) (x := 0) (by decide) 5 (Nat.le_refl _)
  have a := rep_fix (T := fun e => eTo L R e n) (x := 0) (m := m) hm 5
  have b := rep_fix (T := fun e => eTo L R e n) (x := 0) (m := 5) h1 m
  rw [Nat.add_comm] at b
  exact a.symm.trans b
theorem empty_lt {n : Nat} (h : okG L R n) : ∀ m, rep (fun e => eTo L R e n) m 0 < 32
  | 0 => show (0 : Nat) < 32 by decide
  | m + 1 => eTo_lt h (empty_lt h m) n (Nat.le_refl _)
theorem zero_five : Five fun _ => 0 := ⟨fun _ => show (0 : Nat) < 32 by decide, fun _ _ => rfl⟩
theorem fTo_five {n : Nat} (h : okG L R n) (E : Nat) {F : Nat → Nat} (hF : Five F) : ∀ k, k ≤ n → Five (fTo L R E F k)
  | 0, _ => hF
  | k + 1, hk => by
    have ih := fTo_five h E hF k (by omega)
    exact ih.upd (pn_lt (h k (by omega)).1) (beg_lt ih.1 E (h k (by omega)).2 0 0 (by decide))
theorem first_five {n : Nat} (h : okG L R n) : ∀ m, Five (rep (fun F => fTo L R (emptyN L R n) F n) m fun _ => 0)
  | 0 => zero_five
  | m + 1 => fTo_five h _ (first_five h m) n (Nat.le_refl _)
theorem okR_tail {s : ByteArray} (h : okR s) (i : Nat) : okR (s.extract i s.size) := by
  intro j hj
  rw [ByteArray.size_extract] at hj
  have : ch (s.extract i s.size) j = ch s (i + j) := by
    unfold ch
    rw [dif_pos (by rw [ByteArray.size_extract]; omega), dif_pos (by omega)]
    congr 2
    exact ByteArray.getElem_extract _
  rw [this]
  exact h _ (by omega)
theorem nIn_five {G : Nat → Nat} (hG : Five G) (E : Nat) {l : Int} (hl : isP l = true) {s : ByteArray} (hs : okR s) {F : Nat → Nat} (hF : Five F) : ∀ i, i ≤ s.size → Five (nIn G E l s F i) ∧ Up F (nIn G E l s F i)
  | 0, _ => ⟨hF, Up.refl _⟩
  | i + 1, hi => by
    obtain ⟨ih, iu⟩ := nIn_five hG E hl hs hF i (by omega)
    rw [nIn]
    split
    · rename_i hp
      have hb := beg_lt hG.1 E (okR_tail hs (i + 1)) 0 0 (by decide)
      refine ⟨ih.upd (pn_lt hp) ?_, iu.trans (Up.upd _ _ _)⟩
      split
      · exact or_lt hb (ih.1 _)
      · exact hb
    · exact ⟨ih, iu⟩
theorem nTo_five {n : Nat} (h : okG L R n) {G : Nat → Nat} (hG : Five G) (E : Nat) {F : Nat → Nat} (hF : Five F) : ∀ k, k ≤ n → Five (nTo L R G E F k) ∧ Up F (nTo L R G E F k)
  | 0, _ => ⟨hF, Up.refl _⟩
  | k + 1, hk => by
    obtain ⟨ih, iu⟩ := nTo_five h hG E hF k (by omega)
    obtain ⟨a, b⟩ := nIn_five hG E (h k (by omega)).1 (h k (by omega)).2 ih (R k).size (Nat.le_refl _)
    exact ⟨a, iu.trans b⟩
theorem start_five {n : Nat} (h : okG L R n) (hn : 0 < n) : Five (start16 L) := by
  refine ⟨fun j => ?_, fun j hj => ?_⟩
  · unfold start16
    split <;> decide
  · unfold start16
    rw [if_neg]
    have := pn_lt (h 0 hn).1
    omega
theorem next_five {n : Nat} (h : okG L R n) (hn : 0 < n) : ∀ m, Five (nextN L R n m)
  | 0 => start_five h hn
  | m + 1 => (nTo_five h (first_five h 25) _ (next_five h hn m) n (Nat.le_refl _)).1
theorem next_stands {n : Nat} (h : okG L R n) (hn : 0 < n) : nextN L R n 30 = nextN L R n 25 :=
  rep_more _ Five mu 25 (fun F hF => (nTo_five h (first_five h 25) _ hF n (Nat.le_refl _)).1) (fun F hF => by
    obtain ⟨a, b⟩ := nTo_five h (first_five h 25) (emptyN L R n) hF n (Nat.le_refl _)
    exact b.stands hF a) (fun F _ => mu_le F) (start_five h hn) (by decide) (by decide)
end
abbrev Cnt := Int → Nat → Nat → Nat
def sumIJ (f : Nat → Nat) (i : Nat) : Nat → Nat
  | 0 => 0
  | d + 1 => sumIJ f i d + f (i + d)
section
variable (sw : Nat → Int)
def W (a : Cnt) : List Int → Nat → Nat → Nat
  | [], i, j => if i = j then 1 else 0
  | c :: l, i, j => if isP c = true then sumIJ (fun k => a c i k * W a l k j) i (j + 1 - i) else if i < j ∧ sw i = c then W a l (i + 1) j else 0
abbrev Node := Int × Nat × Nat
def at_ (a : Cnt) (u : Node) : Nat := a u.1 u.2.1 u.2.2
def occ (a : Cnt) (u : Node) : List Int → Nat → Nat → Prop
  | [], _, _ => False
  | c :: l, i, j => if isP c = true then (∃ k, i ≤ k ∧ k ≤ j ∧ u = (c, i, k) ∧ 0 < W sw a l k j) ∨ (∃ k, i ≤ k ∧ k ≤ j ∧ 0 < a c i k ∧ occ a u l k j) else i < j ∧ sw i = c ∧ occ a u l (i + 1) j
variable {sw}
theorem occ_in {a : Cnt} {u : Node} : ∀ {l : List Int} {i j : Nat}, occ sw a u l i j → isP u.1 = true ∧ i ≤ u.2.1 ∧ u.2.1 ≤ u.2.2 ∧ u.2.2 ≤ j
  | c :: l, i, j, ho => by
    unfold occ at ho
    split at ho
    · rename_i hc
      rcases ho with ⟨k, h1, h2, rfl, -⟩ | ⟨k, h1, h2, -, h4⟩
      · exact ⟨hc, Nat.le_refl _, h1, h2⟩
      · obtain ⟨a1, a2, a3, a4⟩ := occ_in h4
        exact ⟨a1, by omega, a3, a4⟩
    · obtain ⟨a1, a2, a3, a4⟩ := occ_in ho.2.2
      exact ⟨a1, by omega, a3, a4⟩
def off (a : Cnt) (u : Node) : Cnt := fun c i j => if (c, i, j) = u then 0 else a c i j
end
section
variable (sw : Nat → Int) (L : Nat → Int) (rt : Nat → List Int)
def rnd (a : Cnt) (c : Int) (i j : Nat) : Nat → Nat
  | 0 => 0
  | k + 1 => rnd a c i j k + if L k = c then W sw a (rt k) i j else 0
def A (n : Nat) : Nat → Cnt
  | 0 => fun _ _ _ => 0
  | t + 1 => fun c i j => rnd sw L rt (A n t) c i j n
variable {sw L rt}
def Edge (n : Nat) (a : Cnt) (u v : Node) : Prop := ∃ k, k < n ∧ L k = v.1 ∧ occ sw a u (rt k) v.2.1 v.2.2
def EdgeE (n : Nat) (u v : Node) : Prop := ∃ s, Edge (sw := sw) (L := L) (rt := rt) n (A sw L rt n s) u v
theorem EdgeE.in {n : Nat} {u v : Node} (h : EdgeE (sw := sw) (L := L) (rt := rt) n u v) : isP u.1 = true ∧ v.2.1 ≤ u.2.1 ∧ u.2.1 ≤ u.2.2 ∧ u.2.2 ≤ v.2.2 := by
  obtain ⟨s, k, -, -, ho⟩ := h
  exact occ_in ho
end
theorem subset_length {α : Type} [DecidableEq α] : ∀ {l m : List α}, l.Nodup → (∀ a ∈ l, a ∈ m) → l.length ≤ m.length
  | [], _, _, _ => Nat.zero_le _
  | a :: l, m, hn, hs => by
    rw [List.nodup_cons] at hn
    have h1 : l.length ≤ (m.erase a).length := subset_length hn.2 fun b hb => by
      refine (List.mem_erase_of_ne fun e => ?_).2 (hs b (List.mem_cons_of_mem _ hb))
      subst e
      exact hn.1 hb
    have h2 := hs a List.mem_cons_self
    rw [List.length_erase_of_mem h2] at h1
    have := List.length_pos_of_mem h2
    simp only [List.length_cons]
    omega
section
variable {sw : Nat → Int} {L : Nat → Int} {rt : Nat → List Int} {N : Nat}
structure Ok (sw : Nat → Int) (L : Nat → Int) (rt : Nat → List Int) (N n : Nat) : Prop where
  n8 : N ≤ 8
  sw : ∀ i, N ≤ i → sw i = 0
  le : ∀ k, k < n → isP (L k) = true
  rt : ∀ k, k < n → ∀ c ∈ rt k, c ≠ 0
variable {n : Nat} (H : Ok sw L rt N n)
include H
omit H
end
section
variable (M : Nat)
def csum (f g : Nat → Nat) (i : Nat) : Nat → Nat
  | 0 => 0
  | d + 1 => if 0 < f (i + d) then min (csum f g i d + f (i + d) * g (i + d)) M else csum f g i d
variable (sw : Nat → Int) (a : Cnt)
def cW : List Int → Nat → Nat → Nat
  | [], i, j => if i = j then 1 else 0
  | c :: l, i, j => if isP c = true then csum M (fun k => a c i k) (fun k => cW l k j) i (j + 1 - i) else if i < j ∧ sw i = c then cW l (i + 1) j else 0
variable (L : Nat → Int) (rt : Nat → List Int)
def cR (c : Int) (i j : Nat) : Nat → Nat
  | 0 => 0
  | k + 1 => if L k = c then min (cR c i j k + cW M sw a (rt k) i j) M else cR c i j k
variable {M sw a L rt}
def cA (M : Nat) (sw : Nat → Int) (L : Nat → Int) (rt : Nat → List Int) (n t : Nat) : Cnt := fun c i j => min (A sw L rt n t c i j) M
end
end Go.Proofs.YtjpfalanoifpbaaDoor.T
end

section
set_option linter.unusedVariables false
set_option linter.unusedSimpArgs false
namespace Go.Proofs.YtjpfalanoifpbaaDoor.X
open Go.RowKit Go.Proofs.YtjpfalanoifpbaaDoorW.PrintWords Go.Proofs.YtjpfalanoifpbaaDoorW.PrintLast Go.Proofs.YtjpfalanoifpbaaDoorW.PrintMore Go.Proofs.YtjpfalanoifpbaaDoor.T
theorem i64_nat {x : Nat} (h : x < 2 ^ 62) : IntKind.i64.wrap (x : Int) = (x : Int) := by
  rw [IntKind.wrap_i64]
  have h2 : (x : Int) < 2 ^ 62 := by exact_mod_cast h
  have : (2 : Int) ^ 62 = 4611686018427387904 := by decide
  omega
theorem and_nat {x y : Nat} (hx : x < 2 ^ 62) (hy : y < 2 ^ 62) : bits .and .i64 (x : Int) (y : Int) = ((x &&& y : Nat) : Int) :=
  (bits_nat .i64 62 (by decide) (fun n h1 h2 => by obtain ⟨z, rfl⟩ := Int.eq_ofNat_of_zero_le h1; exact i64_nat (by exact_mod_cast h2)) x y hx hy).1
theorem or_nat {x y : Nat} (hx : x < 2 ^ 62) (hy : y < 2 ^ 62) : bits .or .i64 (x : Int) (y : Int) = ((x ||| y : Nat) : Int) :=
  (bits_nat .i64 62 (by decide) (fun n h1 h2 => by obtain ⟨z, rfl⟩ := Int.eq_ofNat_of_zero_le h1; exact i64_nat (by exact_mod_cast h2)) x y hx hy).2
theorem lt62 {x : Nat} (h : x < 32) : x < 2 ^ 62 := Nat.lt_of_lt_of_le h (by decide)
theorem bit_at (e k : Nat) (he : e < 32) : (bits .and .i64 ((e : Int) / 2 ^ k) 1 == 1) = e.testBit k := by
  have h1 : (e : Int) / 2 ^ k = ((e / 2 ^ k : Nat) : Int) := by simp
  have h2 : e / 2 ^ k < 32 := Nat.lt_of_le_of_lt (Nat.div_le_self _ _) he
  rw [h1, show (1 : Int) = ((1 : Nat) : Int) from rfl, and_nat (lt62 h2) (by decide), Nat.and_one_is_mod, Nat.testBit_eq_decide_div_mod_eq]
  by_cases h : e / 2 ^ k % 2 = 1
  · rw [h]
    rfl
  · rw [decide_eq_false h, beq_eq_false_iff_ne]
    intro q
    exact h (by exact_mod_cast q)
theorem below_one {w : World} (o : Obj) : Below w.heap.size w (w.alloc o) := (Below.refl _ _).alloc (Nat.le_refl _) _
set_option maxHeartbeats 1000000 in
set_option maxRecDepth 100000 in
theorem isPart_calls (c : Int) (w : World) : Calls Tryd.prog 79 #[.int .u8 c] w fun e w' => e = .returned (.bool (isP c)) ∧ w' = w := by
  unfold isP
  by_cases h1 : 65 ≤ c
  · by_cases h2 : c ≤ 69
    · rw [decide_eq_true h1, decide_eq_true h2]
      go_enter Tryd.func79, Tryd.ntmps79
      go_wp2
      go_ret
      exact ⟨rfl, rfl⟩
    · rw [decide_eq_true h1, decide_eq_false h2]
      go_enter Tryd.func79, Tryd.ntmps79
      go_wp2
      go_ret
      exact ⟨rfl, rfl⟩
  · rw [decide_eq_false h1]
    go_enter Tryd.func79, Tryd.ntmps79
    go_wp2
    go_ret
    exact ⟨rfl, rfl⟩
set_option maxHeartbeats 1000000 in
set_option maxRecDepth 100000 in
theorem part_calls (c : Int) (w : World) : Calls Tryd.prog 62 #[.int .u8 c] w fun e w' => e = .returned (.bool (isP c)) ∧ w' = w := by
  unfold isP
  by_cases h1 : 65 ≤ c
  · by_cases h2 : c ≤ 69
    · rw [decide_eq_true h1, decide_eq_true h2]
      go_enter Tryd.func62, Tryd.ntmps62
      go_wp2
      go_ret
      exact ⟨rfl, rfl⟩
    · rw [decide_eq_true h1, decide_eq_false h2]
      go_enter Tryd.func62, Tryd.ntmps62
      go_wp2
      go_ret
      exact ⟨rfl, rfl⟩
  · rw [decide_eq_false h1]
    go_enter Tryd.func62, Tryd.ntmps62
    go_wp2
    go_ret
    exact ⟨rfl, rfl⟩
set_option maxHeartbeats 1000000 in
set_option maxRecDepth 100000 in
theorem word_calls (c : Int) (w : World) : Calls Tryd.prog 63 #[.int .u8 c] w fun e w' => e = .returned (.bool (isD c)) ∧ w' = w := by
  unfold isD
  by_cases h1 : 97 ≤ c
  · by_cases h2 : c ≤ 100
    · rw [decide_eq_true h1, decide_eq_true h2]
      go_enter Tryd.func63, Tryd.ntmps63
      go_wp2
      go_ret
      exact ⟨rfl, rfl⟩
    · rw [decide_eq_true h1, decide_eq_false h2]
      go_enter Tryd.func63, Tryd.ntmps63
      go_wp2
      go_ret
      exact ⟨rfl, rfl⟩
  · rw [decide_eq_false h1]
    go_enter Tryd.func63, Tryd.ntmps63
    go_wp2
    go_ret
    exact ⟨rfl, rfl⟩
set_option maxHeartbeats 1000000 in
set_option maxRecDepth 100000 in
theorem has_calls (e : Nat) (c : Int) (w : World) (he : e < 32) : Calls Tryd.prog 74 #[.int .i64 e, .int .u8 c] w fun r w' => r = .returned (.bool (isP c && e.testBit (pn c))) ∧ w' = w := by
  go_enter Tryd.func74, Tryd.ntmps74
  go_wp2_with fail
  refine (isPart_calls c w).mono ?_
  rintro r w1 ⟨rfl, rfl⟩
  cases hp : isP c with
  | false =>
    go_wp2
    go_ret
    rw [hp]
    exact ⟨rfl, rfl⟩
  | true =>
    have h5 := isP_iff.1 hp
    obtain ⟨k, rfl⟩ : ∃ k : Nat, c = (k : Int) + 65 := ⟨(c - 65).toNat, by omega⟩
    have hk : k ≤ 4 := by omega
    have e1 : IntKind.u8.wrap ((k : Int) + 65 - 65) = (k : Int) := by
      unfold IntKind.wrap
      simp [IntKind.signed, IntKind.bits]
      omega
    have hb := bit_at e k he
    have hpn : pn ((k : Int) + 65) = k := by unfold pn; omega
    go_wp2
    go_ret
    rw [hp, hpn]
    exact ⟨ret_bool (by simp), rfl⟩
end Go.Proofs.YtjpfalanoifpbaaDoor.X
end

section
set_option linter.unusedVariables false
set_option linter.unusedSimpArgs false
namespace Go.Proofs.YtjpfalanoifpbaaDoor.X
open Go.RowKit Go.Proofs.YtjpfalanoifpbaaDoorW.PrintWords Go.Proofs.YtjpfalanoifpbaaDoorW.PrintLast Go.Proofs.YtjpfalanoifpbaaDoorW.PrintMore Go.Proofs.YtjpfalanoifpbaaDoor.T
structure Rls (w : World) (b off n : Nat) (L : Nat → Int) (R : Nat → ByteArray) : Prop where
  c0 : ∀ i : Nat, i < n → w.cell? ⟨b, off + i * 2, none⟩ = some (.int .u8 (L i))
  c1 : ∀ i : Nat, i < n → w.cell? ⟨b, off + i * 2 + 1, none⟩ = some (.string (R i))
theorem Rls.later {w w' : World} {b off n : Nat} {L : Nat → Int} {R : Nat → ByteArray} (h : Rls w b off n L R) (hb : Below w.heap.size w w') : Rls w' b off n L R :=
  ⟨fun i hi => (hb.cell (p := ⟨b, off + i * 2, none⟩) (World.block_lt_of_cell? _ _ (h.c0 i hi))).trans (h.c0 i hi), fun i hi => (hb.cell (p := ⟨b, off + i * 2 + 1, none⟩) (World.block_lt_of_cell? _ _ (h.c1 i hi))).trans (h.c1 i hi)⟩
def Sr (w : World) (A : Option Addr) (n c : Nat) (L : Nat → Int) (R : Nat → ByteArray) : Prop := n = 0 ∨ ∃ b off, A = some ⟨b, off, none⟩ ∧ n ≤ c ∧ Rls w b off n L R
theorem Sr.later {w w' : World} {A : Option Addr} {n c : Nat} {L : Nat → Int} {R : Nat → ByteArray} (h : Sr w A n c L R) (hb : Below w.heap.size w w') : Sr w' A n c L R := by
  rcases h with h | ⟨b, off, h1, h2, h3⟩
  · exact .inl h
  · exact .inr ⟨b, off, h1, h2, h3.later hb⟩
theorem Sr.open {w : World} {A : Option Addr} {n c : Nat} {L : Nat → Int} {R : Nat → ByteArray} (h : Sr w A n c L R) (h0 : 0 < n) : ∃ b off, A = some ⟨b, off, none⟩ ∧ n ≤ c ∧ Rls w b off n L R := by
  rcases h with h | h
  · omega
  · exact h
def agg5 (F : Nat → Nat) : Value := .agg #[.int .i64 (F 0), .int .i64 (F 1), .int .i64 (F 2), .int .i64 (F 3), .int .i64 (F 4)]
def cells5 (F : Nat → Nat) : Array Value := #[.int .i64 (F 0), .int .i64 (F 1), .int .i64 (F 2), .int .i64 (F 3), .int .i64 (F 4)]
theorem five_at {w : World} {g : Nat} {F : Nat → Nat} {t : TypeId} (h : w.heap[g]? = some (.cells (cells5 F) t (0, 0))) {k : Nat} (hk : k < 5) : w.cell? ⟨g, k, none⟩ = some (.int .i64 (F k)) := by
  rw [blk_cell h]
  match k, hk with
  | 0, _ => rfl
  | 1, _ => rfl
  | 2, _ => rfl
  | 3, _ => rfl
  | 4, _ => rfl
theorem pow_small {j : Nat} (h : j ≤ 4) : wrap64 (2 ^ j) = ((2 ^ j : Nat) : Int) := by
  have h := i64_nat (x := 2 ^ j) (Nat.pow_lt_pow_right (by decide) (by omega))
  rw [IntKind.wrap_i64] at h
  rw [wrap64]
  have e : ((2 ^ j : Nat) : Int) = (2 : Int) ^ j := by simp
  rw [e] at h ⊢
  exact h
theorem pow_lt32 {j : Nat} (h : j ≤ 4) : 2 ^ j < 32 := Nat.lt_of_le_of_lt (Nat.pow_le_pow_right (by decide) h) (by decide)
theorem or_pow {a j : Nat} (ha : a < 32) (h : j ≤ 4) : bits .or .i64 (a : Int) (wrap64 (2 ^ j)) = ((a ||| 2 ^ j : Nat) : Int) := by
  rw [pow_small h, or_nat (lt62 ha) (lt62 (pow_lt32 h))]
theorem bytes_world (w : World) (s : ByteArray) : (∀ i : Nat, i < s.size → (Lib.bytesWorld w 5 s).cell? ⟨w.heap.size, i, none⟩ = some (.int .u8 (ch s i))) ∧ Below w.heap.size w (Lib.bytesWorld w 5 s) ∧ (Lib.bytesWorld w 5 s).heap.size = w.heap.size + 1 := by
  refine ⟨fun i hi => ?_, ?_, Lib.bytesWorld_size _ _ _⟩
  · rw [Lib.bytesWorld_cell w 5 s i hi]
    congr 2
    have hl : i < s.data.toList.length := by simpa using hi
    rw [← ch_at s i hi, List.getD_eq_getElem?_getD, List.getElem?_eq_getElem hl]
    simp
    rfl
  · exact ⟨rfl, rfl, rfl, by rw [Lib.bytesWorld_size]; omega, fun k hk => Lib.bytesWorld_at_old w 5 s k hk⟩
set_option maxHeartbeats 4000000 in
set_option maxRecDepth 100000 in
theorem begins_calls (F : Nat → Nat) (s : ByteArray) (E : Nat) (w : World) (hF : ∀ j, F j < 32) (hE : E < 32) (hs : okR s) (hsz : s.size ≤ 1000) :
    Calls Tryd.prog 95 #[agg5 F, .string s, .int .i64 E] w fun e w' => e = .returned (.tuple #[.int .i64 ((beg F E s 0 0).1 : Nat), .bool (beg F E s 0 0).2]) ∧ Below w.heap.size w w' := by
  have hcv := fun (w : World) => Lib.run_convert_string_bytes (P := Tryd.prog) w 9 74 5 s Tryd.underlying9 Tryd.underlying74 Tryd.underlying5
  unfold agg5
  go_enter Tryd.func95, Tryd.ntmps95
  go_wp2_with fail
  obtain ⟨hc, hb, hsz1⟩ := bytes_world (w.alloc (.cells (cells5 F) 89)) s
  have hbF : Below w.heap.size w (Lib.bytesWorld (w.alloc (.cells (cells5 F) 89)) 5 s) := (below_one _).trans (hb.mono (by simp))
  have hF5 : (Lib.bytesWorld (w.alloc (.cells (cells5 F) 89)) 5 s).heap[w.heap.size]? = some (.cells (cells5 F) 89 (0, 0)) := (hb.block _ (by simp)).trans (blk_new w _)
  have hG : (w.alloc (.cells (cells5 F) 89)).heap.size = w.heap.size + 1 := by simp
  rw [hG] at hc
  unfold cells5 at hc hb hbF hF5
  generalize Lib.bytesWorld (w.alloc (.cells #[.int .i64 (F 0), .int .i64 (F 1), .int .i64 (F 2), .int .i64 (F 3), .int .i64 (F 4)] 89)) 5 s = w1 at hc hb hbF hF5 ⊢
  have HC := Lib.hid hc
  have HB := Lib.hid hbF
  have HF5 := Lib.hid hF5
  have HF := Lib.hid hF
  have HS := Lib.hid hs
  clear hc hb hbF hF5 hsz1 hG hcv hF hs
  go_loopw [13, 6] (fun i v wr => ∃ k acc : Nat, k ≤ s.size ∧ acc < 32 ∧ i = .int .i64 k ∧ v = .int .i64 acc ∧ Hid (beg F E s 0 0 = beg F E s k acc) ∧ wr = w1) (fun i _ _ => s.size - (intOf i).toNat)
  case atStart => exact ⟨0, 0, by omega, by omega, rfl, rfl, Lib.hid rfl, rfl⟩
  case round =>
    obtain ⟨k, acc, hk, hacc, rfl, rfl, HE, rfl⟩ := hrel
    by_cases hlt : k < s.size
    · have c0 := HC.out k hlt
      obtain ⟨c, hcc⟩ : ∃ c, ch s k = c := ⟨_, rfl⟩
      rw [hcc] at c0
      have HCC := Lib.hid hcc
      have hbe : beg F E s k acc = (if isP c = true then (if E.testBit (pn c) = true then beg F E s (k + 1) (acc ||| F (pn c)) else (acc ||| F (pn c), false)) else (acc ||| 2 ^ wn c, false)) := by rw [beg, if_pos hlt, hcc]
      have HBE := Lib.hid (HE.out.trans hbe)
      clear hcc hbe
      go_wp2_with fail
      refine (isPart_calls c _).mono ?_
      rintro r w2 ⟨rfl, rfl⟩
      cases hp : isP c with
      | false =>
        have HP := Lib.hid hp
        have hd : isD c = true := by
          have := HS.out k hlt
          rw [HCC.out, hp] at this
          rcases this with q | q
          · cases q
          · exact q
        have hd2 := isD_iff.1 hd
        obtain ⟨j, rfl⟩ : ∃ j : Nat, c = (j : Int) + 97 := ⟨(c - 97).toNat, by omega⟩
        have hj : j ≤ 3 := by omega
        have e1 : IntKind.u8.wrap ((j : Int) + 97 - 97) = (j : Int) := by
          unfold IntKind.wrap
          simp [IntKind.signed, IntKind.bits]
          omega
        have ho := or_pow hacc (show j ≤ 4 by omega)
        have hw : wn ((j : Int) + 97) = j := by unfold wn; omega
        go_wp2
        go_ret2
        rw [HBE.out, if_neg (by rw [HP.out]; decide), hw]
        exact ⟨rfl, HB.out⟩
      | true =>
        have HP := Lib.hid hp
        have h5 := isP_iff.1 hp
        obtain ⟨j, rfl⟩ : ∃ j : Nat, c = (j : Int) + 65 := ⟨(c - 65).toNat, by omega⟩
        have hj : j ≤ 4 := by omega
        have hj5 : j < 5 := by omega
        have e1 : IntKind.u8.wrap ((j : Int) + 65 - 65) = (j : Int) := by
          unfold IntKind.wrap
          simp [IntKind.signed, IntKind.bits]
          omega
        have f0 := five_at HF5.out (show j < 5 by omega)
        have ho : bits .or .i64 (acc : Int) (F j : Int) = ((acc ||| F j : Nat) : Int) := or_nat (lt62 hacc) (lt62 (HF.out j))
        have hpn : pn ((j : Int) + 65) = j := by unfold pn; omega
        have HPN := Lib.hid hpn
        clear hpn
        go_wp2_with fail
        refine (has_calls E _ _ hE).mono ?_
        rintro r w3 ⟨rfl, rfl⟩
        rw [HP.out, HPN.out, Bool.true_and]
        cases ht : E.testBit j with
        | false =>
          have HT := Lib.hid ht
          clear ht
          go_wp2
          go_ret2
          rw [HBE.out, if_pos HP.out, HPN.out, if_neg (by rw [HT.out]; decide)]
          exact ⟨rfl, HB.out⟩
        | true =>
          have HT := Lib.hid ht
          clear ht
          go_wp2_with fail
          refine ⟨⟨k + 1, acc ||| F j, by omega, or_lt hacc (HF.out j), by go_num, rfl, Lib.hid ?_, by trivial⟩, by simp [intOf]; omega⟩
          rw [HBE.out, if_pos HP.out, HPN.out, if_pos HT.out]
    · obtain rfl : k = s.size := by omega
      have HBE : Hid (beg F E s 0 0 = (acc, true)) := Lib.hid (by rw [HE.out, beg, if_neg (by omega)])
      go_wp2
      go_ret2
      rw [HBE.out]
      exact ⟨rfl, HB.out⟩
end Go.Proofs.YtjpfalanoifpbaaDoor.X
end

section
set_option linter.unusedVariables false
set_option linter.unusedSimpArgs false
namespace Go.Proofs.YtjpfalanoifpbaaDoor.X
open Go.RowKit Go.Proofs.YtjpfalanoifpbaaDoorW.PrintWords Go.Proofs.YtjpfalanoifpbaaDoorW.PrintLast Go.Proofs.YtjpfalanoifpbaaDoorW.PrintMore Go.Proofs.YtjpfalanoifpbaaDoor.T
theorem bit_no (e k : Nat) (he : e < 32) : (bits .and .i64 ((e : Int) / 2 ^ k) 1 == 0) = !e.testBit k := by
  have h1 : (e : Int) / 2 ^ k = ((e / 2 ^ k : Nat) : Int) := by simp
  have h2 : e / 2 ^ k < 32 := Nat.lt_of_le_of_lt (Nat.div_le_self _ _) he
  rw [h1, show (1 : Int) = ((1 : Nat) : Int) from rfl, and_nat (lt62 h2) (by decide), Nat.and_one_is_mod, Nat.testBit_eq_decide_div_mod_eq]
  by_cases h : e / 2 ^ k % 2 = 1
  · rw [h]
    rfl
  · rw [decide_eq_false h, show e / 2 ^ k % 2 = 0 by omega]
    rfl
set_option maxHeartbeats 4000000 in
set_option maxRecDepth 100000 in
theorem rbegins_calls (F : Nat → Nat) (s : ByteArray) (E : Nat) (w : World) (hF : ∀ j, F j < 32) (hE : E < 32) (hs : okR s) (hsz : s.size ≤ 1000) :
    Calls Tryd.prog 64 #[agg5 F, .int .i64 E, .string s] w fun e w' => e = .returned (.tuple #[.int .i64 ((beg F E s 0 0).1 : Nat), .bool (beg F E s 0 0).2]) ∧ Below w.heap.size w w' := by
  unfold agg5
  go_enter Tryd.func64, Tryd.ntmps64
  go_wp2_with fail
  have hbF : Below w.heap.size w (w.alloc (.cells (cells5 F) 89)) := below_one _
  have hF5 : (w.alloc (.cells (cells5 F) 23)).heap[w.heap.size]? = some (.cells (cells5 F) 23 (0, 0)) := blk_new w _
  have hbF : Below w.heap.size w (w.alloc (.cells (cells5 F) 23)) := below_one _
  unfold cells5 at hbF hF5
  generalize w.alloc (.cells #[.int .i64 (F 0), .int .i64 (F 1), .int .i64 (F 2), .int .i64 (F 3), .int .i64 (F 4)] 23) = w1 at hbF hF5 ⊢
  have HB := Lib.hid hbF
  have HF5 := Lib.hid hF5
  have HF := Lib.hid hF
  have HS := Lib.hid hs
  clear hbF hF5 hF hs
  go_loopw [12, 8] (fun i v wr => ∃ k acc : Nat, k ≤ s.size ∧ acc < 32 ∧ i = .int .i64 k ∧ v = .int .i64 acc ∧ Hid (beg F E s 0 0 = beg F E s k acc) ∧ wr = w1) (fun i _ _ => s.size - (intOf i).toNat)
  case atStart => exact ⟨0, 0, by omega, by omega, rfl, rfl, Lib.hid rfl, rfl⟩
  case round =>
    obtain ⟨k, acc, hk, hacc, rfl, rfl, HE, rfl⟩ := hrel
    by_cases hlt : k < s.size
    · have hbt : (((s[k]'hlt).toNat : Nat) : Int) = ch s k := ch_at s k hlt
      obtain ⟨c, hcc⟩ : ∃ c, ch s k = c := ⟨_, rfl⟩
      rw [hcc] at hbt
      have HCC := Lib.hid hcc
      have hbe : beg F E s k acc = (if isP c = true then (if E.testBit (pn c) = true then beg F E s (k + 1) (acc ||| F (pn c)) else (acc ||| F (pn c), false)) else (acc ||| 2 ^ wn c, false)) := by rw [beg, if_pos hlt, hcc]
      have HBE := Lib.hid (HE.out.trans hbe)
      clear hcc hbe
      go_wp2_with fail
      refine (word_calls c _).mono ?_
      rintro r w2 ⟨rfl, rfl⟩
      cases hd : isD c with
      | true =>
        have hd2 := isD_iff.1 hd
        have HP : Hid (isP c = false) := Lib.hid (by
          rw [Bool.eq_false_iff]
          intro q
          have := isP_iff.1 q
          omega)
        obtain ⟨j, rfl⟩ : ∃ j : Nat, c = (j : Int) + 97 := ⟨(c - 97).toNat, by omega⟩
        have hj : j ≤ 3 := by omega
        have e1 : IntKind.u8.wrap ((j : Int) + 97 - 97) = (j : Int) := by
          unfold IntKind.wrap
          simp [IntKind.signed, IntKind.bits]
          omega
        have ho := or_pow hacc (show j ≤ 4 by omega)
        have hw : wn ((j : Int) + 97) = j := by unfold wn; omega
        go_wp2
        go_ret2
        rw [HBE.out, if_neg (by rw [HP.out]; decide), hw]
        exact ⟨rfl, HB.out⟩
      | false =>
        have hp : isP c = true := by
          have := HS.out k hlt
          rw [HCC.out, hd] at this
          rcases this with q | q
          · exact q
          · cases q
        have HP := Lib.hid hp
        have h5 := isP_iff.1 hp
        obtain ⟨j, rfl⟩ : ∃ j : Nat, c = (j : Int) + 65 := ⟨(c - 65).toNat, by omega⟩
        have hj : j ≤ 4 := by omega
        have hj5 : j < 5 := by omega
        have e1 : IntKind.u8.wrap ((j : Int) + 65 - 65) = (j : Int) := by
          unfold IntKind.wrap
          simp [IntKind.signed, IntKind.bits]
          omega
        have f0 := five_at HF5.out (show j < 5 by omega)
        have ho : bits .or .i64 (acc : Int) (F j : Int) = ((acc ||| F j : Nat) : Int) := or_nat (lt62 hacc) (lt62 (HF.out j))
        have hpn : pn ((j : Int) + 65) = j := by unfold pn; omega
        have HPN := Lib.hid hpn
        have hb := bit_no E j hE
        clear hpn
        cases ht : E.testBit j with
        | false =>
          have HT := Lib.hid ht
          rw [ht] at hb
          clear ht
          go_wp2
          go_ret2
          rw [HBE.out, if_pos HP.out, HPN.out, if_neg (by rw [HT.out]; decide)]
          exact ⟨rfl, HB.out⟩
        | true =>
          have HT := Lib.hid ht
          rw [ht] at hb
          clear ht
          go_wp2_with fail
          refine ⟨⟨k + 1, acc ||| F j, by omega, or_lt hacc (HF.out j), by go_num, rfl, Lib.hid ?_, by trivial⟩, by simp [intOf]; omega⟩
          rw [HBE.out, if_pos HP.out, HPN.out, if_pos HT.out]
    · obtain rfl : k = s.size := by omega
      have HBE : Hid (beg F E s 0 0 = (acc, true)) := Lib.hid (by rw [HE.out, beg, if_neg (by omega)])
      go_wp2
      go_ret2
      rw [HBE.out]
      exact ⟨rfl, HB.out⟩
end Go.Proofs.YtjpfalanoifpbaaDoor.X
end

section
set_option linter.unusedVariables false
set_option linter.unusedSimpArgs false
namespace Go.Proofs.YtjpfalanoifpbaaDoor.X
open Go.RowKit Go.Proofs.YtjpfalanoifpbaaDoorW.PrintWords Go.Proofs.YtjpfalanoifpbaaDoorW.PrintLast Go.Proofs.YtjpfalanoifpbaaDoorW.PrintMore Go.Proofs.YtjpfalanoifpbaaDoor.T
def allT (e : Nat) (s : ByteArray) (i : Nat) : Bool := (List.range i).all fun i => isP (ch s i) && e.testBit (pn (ch s i))
theorem allT_succ (e : Nat) (s : ByteArray) (i : Nat) : allT e s (i + 1) = (allT e s i && (isP (ch s i) && e.testBit (pn (ch s i)))) := by
  unfold allT
  rw [List.range_succ, List.all_append]
  simp
structure Gr (L : Nat → Int) (R : Nat → ByteArray) (n : Nat) : Prop where
  ok : okG L R n
  sz : ∀ k, k < n → (R k).size ≤ 4
  n8 : n ≤ 8
  n1 : 1 ≤ n
theorem rule_new (w : World) (t : TypeId) (c : Int) (s : ByteArray) : (w.alloc (.cells #[.int .u8 c, .string s] t)).cell? ⟨w.heap.size, 0, none⟩ = some (.int .u8 c) ∧ (w.alloc (.cells #[.int .u8 c, .string s] t)).cell? ⟨w.heap.size, 1, none⟩ = some (.string s) := by
  constructor <;> simp
set_option maxHeartbeats 8000000 in
set_option maxRecDepth 100000 in
theorem rEmpty_calls (A : Option Addr) (n c : Nat) (L : Nat → Int) (R : Nat → ByteArray) (w : World) (hA : Sr w A n c L R) (hg : Gr L R n) :
    Calls Tryd.prog 25 #[.slice A n c] w fun e w' => e = .returned (.int .i64 (emptyN L R n : Nat)) ∧ Below w.heap.size w w' := by
  obtain ⟨b, off, rfl, hnc, hP⟩ := hA.open hg.n1
  have HP := Lib.hid hP
  have HG := Lib.hid hg
  have hn8 := hg.n8
  clear hA hP hg
  go_enter Tryd.func25, Tryd.ntmps25
  go_wp2_with fail
  have HB := Lib.hid (Below.refl w.heap.size w)
  go_loopw [8, 3] (fun i v wr => ∃ m : Nat, m ≤ 5 ∧ i = .int .i64 m ∧ v = .int .i64 (rep (fun e => eTo L R e n) m 0 : Nat) ∧ Hid (Below w.heap.size w wr)) (fun i _ _ => 5 - (intOf i).toNat)
  case atStart => exact ⟨0, by omega, rfl, rfl, HB⟩
  case round =>
    clear HB
    obtain ⟨m, hm, rfl, rfl, HB⟩ := hrel
    by_cases hlt : m < 5
    · obtain ⟨e0, he0⟩ : ∃ e0, rep (fun e => eTo L R e n) m 0 = e0 := ⟨_, rfl⟩
      have hel : e0 < 32 := by rw [← he0]; exact empty_lt HG.out.ok m
      rw [he0]
      have HE0 := Lib.hid he0
      have hltI : (m : Int) < 5 := by omega
      clear he0
      go_wp2_with fail
      go_loopw [12, 3] (fun i v wr => ∃ k : Nat, k ≤ n ∧ i = .int .i64 k ∧ v = .int .i64 (eTo L R e0 k : Nat) ∧ Hid (Below w.heap.size w wr)) (fun i _ _ => n - (intOf i).toNat)
      case atStart => exact ⟨0, by omega, rfl, rfl, HB⟩
      case round =>
        clear HB
        obtain ⟨k, hk, rfl, rfl, HB⟩ := hrel
        by_cases hkn : k < n
        · have c0 := (HP.out.later HB.out).c0 k hkn
          have c1 := (HP.out.later HB.out).c1 k hkn
          obtain ⟨e1, he1⟩ : ∃ e1, eTo L R e0 k = e1 := ⟨_, rfl⟩
          have he1l : e1 < 32 := by rw [← he1]; exact eTo_lt HG.out.ok hel k hk
          rw [he1]
          obtain ⟨l, hl⟩ : ∃ l, L k = l := ⟨_, rfl⟩
          obtain ⟨s, hs⟩ : ∃ s, R k = s := ⟨_, rfl⟩
          have hsz : s.size ≤ 4 := by rw [← hs]; exact HG.out.sz k hkn
          have hlp : isP l = true := by rw [← hl]; exact (HG.out.ok k hkn).1
          rw [hl] at c0
          rw [hs] at c1
          have HLS := Lib.hid (And.intro hl (And.intro hs he1))
          have hkc : k < c := by omega
          clear hl hs he1
          go_wp2_with fail
          have hbA := below_one (w := wr) (.cells #[.int .u8 l, .string s] 44)
          obtain ⟨d0, d1⟩ := rule_new wr 44 l s
          have HBA := Lib.hid (HB.out.trans (hbA.mono HB.out.size))
          obtain ⟨w1, hw1⟩ : ∃ w1, w1 = wr.alloc (.cells #[.int .u8 l, .string s] 44) := ⟨_, rfl⟩
          rw [← hw1] at d0 d1 HBA ⊢
          clear hw1 hbA c0 c1 HB
          have HD := Lib.hid (And.intro d0 d1)
          generalize wr.heap.size = G at d0 d1 HD ⊢
          clear d0 d1
          go_loopw [19, 6] (fun i v wr => ∃ j : Nat, j ≤ s.size ∧ i = .int .i64 j ∧ v = .bool (allT e1 s j) ∧ wr = w1) (fun i _ _ => s.size - (intOf i).toNat)
          case atStart => exact ⟨0, by omega, rfl, rfl, rfl⟩
          case round =>
            obtain ⟨j, hj, rfl, rfl, rfl⟩ := hrel
            obtain ⟨d0, d1⟩ := HD.out
            by_cases hjs : j < s.size
            · have hbt : (((s[j]'hjs).toNat : Nat) : Int) = ch s j := ch_at s j hjs
              have hsu := allT_succ e1 s j
              obtain ⟨x, hx⟩ : ∃ x, ch s j = x := ⟨_, rfl⟩
              rw [hx] at hbt hsu
              clear hx
              cases ha : allT e1 s j with
              | false =>
                rw [ha, Bool.false_and] at hsu
                have HSU := Lib.hid hsu
                clear hsu ha
                go_wp2_with fail
                exact ⟨⟨j + 1, by omega, by go_num, by rw [HSU.out], by trivial⟩, by simp [intOf]; omega⟩
              | true =>
                rw [ha, Bool.true_and] at hsu
                have HSU := Lib.hid hsu
                clear hsu ha
                go_wp2_with fail
                refine (part_calls x _).mono ?_
                rintro r w2 ⟨rfl, rfl⟩
                cases hp : isP x with
                | false =>
                  rw [hp, Bool.false_and] at HSU
                  go_wp2_with fail
                  exact ⟨⟨j + 1, by omega, by go_num, by rw [HSU.out], by trivial⟩, by simp [intOf]; omega⟩
                | true =>
                  rw [hp, Bool.true_and] at HSU
                  have h5 := isP_iff.1 hp
                  obtain ⟨q, rfl⟩ : ∃ q : Nat, x = (q : Int) + 65 := ⟨(x - 65).toNat, by omega⟩
                  have hq : q ≤ 4 := by omega
                  have e2 : IntKind.u8.wrap ((q : Int) + 65 - 65) = (q : Int) := by
                    unfold IntKind.wrap
                    simp [IntKind.signed, IntKind.bits]
                    omega
                  have hpn : pn ((q : Int) + 65) = q := by unfold pn; omega
                  rw [hpn] at HSU
                  have hb := bit_at e1 q he1l
                  clear hpn
                  go_wp2_with fail
                  exact ⟨⟨j + 1, by omega, by go_num, by rw [HSU.out], by trivial⟩, by simp [intOf]; omega⟩
            · obtain rfl : j = s.size := by omega
              have HS1 : Hid (eTo L R e0 (k + 1) = if allT e1 s s.size = true then e1 ||| 2 ^ pn l else e1) := Lib.hid (by rw [eTo, HLS.out.1, HLS.out.2.1, HLS.out.2.2]; rfl)
              have h5 := isP_iff.1 hlp
              obtain ⟨q, rfl⟩ : ∃ q : Nat, l = (q : Int) + 65 := ⟨(l - 65).toNat, by omega⟩
              have hq : q ≤ 4 := by omega
              have e2 : IntKind.u8.wrap ((q : Int) + 65 - 65) = (q : Int) := by
                unfold IntKind.wrap
                simp [IntKind.signed, IntKind.bits]
                omega
              have hpn : pn ((q : Int) + 65) = q := by unfold pn; omega
              rw [hpn] at HS1
              have ho := or_pow he1l hq
              clear hpn
              cases ha : allT e1 s s.size with
              | false =>
                rw [ha] at HS1
                clear ha
                go_wp2_with fail
                refine ⟨⟨k + 1, by omega, by go_num, ?_, HBA⟩, by simp [intOf]; omega⟩
                rw [HS1.out]
                rfl
              | true =>
                rw [ha] at HS1
                clear ha
                go_wp2_with fail
                refine ⟨⟨k + 1, by omega, by go_num, ?_, HBA⟩, by simp [intOf]; omega⟩
                rw [HS1.out]
                rfl
        · obtain rfl : k = n := by omega
          go_wp2_with fail
          refine ⟨⟨m + 1, by omega, by go_num, ?_, HB⟩, by simp [intOf]; omega⟩
          rw [rep, HE0.out]
    · obtain rfl : m = 5 := by omega
      go_wp2
      go_ret
      exact ⟨rfl, HB.out⟩
end Go.Proofs.YtjpfalanoifpbaaDoor.X
end

section
set_option linter.unusedVariables false
set_option linter.unusedSimpArgs false
namespace Go.Proofs.YtjpfalanoifpbaaDoor.X
open Go.RowKit Go.Proofs.YtjpfalanoifpbaaDoorW.PrintWords Go.Proofs.YtjpfalanoifpbaaDoorW.PrintLast Go.Proofs.YtjpfalanoifpbaaDoorW.PrintMore Go.Proofs.YtjpfalanoifpbaaDoor.T
def fill5 (w : World) (g : Nat) (F : Nat → Nat) : World := ((((w.setCell ⟨g, 0, none⟩ (.int .i64 (F 0))).setCell ⟨g, 1, none⟩ (.int .i64 (F 1))).setCell ⟨g, 2, none⟩ (.int .i64 (F 2))).setCell ⟨g, 3, none⟩ (.int .i64 (F 3))).setCell ⟨g, 4, none⟩ (.int .i64 (F 4))
theorem five_fill {w : World} {g : Nat} {F F' : Nat → Nat} {t : TypeId} (h : w.heap[g]? = some (.cells (cells5 F') t (0, 0))) : (fill5 w g F).heap[g]? = some (.cells (cells5 F) t (0, 0)) := by
  simp [fill5, World.setCell, Array.getElem?_modify, h, cells5]
theorem fill_below {B : Nat} {a w : World} {g : Nat} {F : Nat → Nat} (h : Below B a w) (hg : B ≤ g) : Below B a (fill5 w g F) :=
  ((((h.setCell (p := ⟨g, 0, none⟩) hg _).setCell (p := ⟨g, 1, none⟩) hg _).setCell (p := ⟨g, 2, none⟩) hg _).setCell (p := ⟨g, 3, none⟩) hg _).setCell (p := ⟨g, 4, none⟩) hg _
theorem five_set {w : World} {g : Nat} {F : Nat → Nat} {t : TypeId} (h : w.heap[g]? = some (.cells (cells5 F) t (0, 0))) {j v : Nat} (hj : j < 5) : (w.setCell ⟨g, j, none⟩ (.int .i64 ((F j ||| v : Nat) : Int))).heap[g]? = some (.cells (cells5 (upd F j v)) t (0, 0)) := by
  match j, hj with
  | 0, _ => simp [World.setCell, Array.getElem?_modify, h, cells5, upd]
  | 1, _ => simp [World.setCell, Array.getElem?_modify, h, cells5, upd]
  | 2, _ => simp [World.setCell, Array.getElem?_modify, h, cells5, upd]
  | 3, _ => simp [World.setCell, Array.getElem?_modify, h, cells5, upd]
  | 4, _ => simp [World.setCell, Array.getElem?_modify, h, cells5, upd]
set_option maxHeartbeats 8000000 in
set_option maxRecDepth 100000 in
theorem rFirst_calls (A : Option Addr) (n c : Nat) (L : Nat → Int) (R : Nat → ByteArray) (w : World) (hA : Sr w A n c L R) (hg : Gr L R n) :
    Calls Tryd.prog 23 #[.slice A n c] w fun e w' => e = .returned (agg5 (firstN L R n)) ∧ Below w.heap.size w w' := by
  obtain ⟨b, off, rfl, hnc, hP⟩ := hA.open hg.n1
  have HP := Lib.hid hP
  have HA := Lib.hid hA
  have HG := Lib.hid hg
  have hn8 := hg.n8
  clear hA hP hg
  go_enter Tryd.func23, Tryd.ntmps23
  go_wp2_with fail
  obtain ⟨w0, hw0⟩ : ∃ w0, w0 = (w.alloc (.cells (cells5 fun _ => 0) 23)).alloc (.cells (cells5 fun _ => 0) 23) := ⟨_, rfl⟩
  have hb0 : Below w.heap.size w w0 := by rw [hw0]; exact (below_one _).trans ((below_one _).mono (by simp))
  have hk3 : w0.heap[w.heap.size + 1]? = some (.cells (cells5 fun _ => 0) 23 (0, 0)) := by
    rw [hw0, show w.heap.size + 1 = (w.alloc (.cells (cells5 fun _ => 0) 23)).heap.size by simp]
    exact blk_new _ _
  have hk2 : w0.heap[w.heap.size]? = some (.cells (cells5 fun _ => 0) 23 (0, 0)) := by
    rw [hw0]
    exact ((below_one _).block w.heap.size (by simp)).trans (blk_new w _)
  unfold cells5 at hw0
  rw [show ((0 : Nat) : Int) = 0 from rfl] at hw0
  rw [← hw0]
  refine (rEmpty_calls _ n c L R w0 (HA.out.later hb0) HG.out).mono ?_
  rintro e w1 ⟨rfl, hb1⟩
  obtain ⟨E, hE⟩ : ∃ E, emptyN L R n = E := ⟨_, rfl⟩
  have hE32 : E < 32 := by rw [← hE]; exact empty_lt HG.out.ok 5
  rw [hE]
  have HE := Lib.hid hE
  have HB := Lib.hid (hb0.trans (hb1.mono hb0.size))
  have H3 : Hid (w1.heap[w.heap.size + 1]? = some (.cells (cells5 (rep (fun F => fTo L R E F n) 0 fun _ => 0)) 23 (0, 0))) := Lib.hid ((hb1.block _ (Array.getElem?_eq_some_iff.1 hk3).1).trans hk3)
  have H2 := Lib.hid ((hb1.block _ (Array.getElem?_eq_some_iff.1 hk2).1).trans hk2)
  have HL : Hid (w.heap.size + 1 < w1.heap.size) := Lib.hid (Nat.lt_of_lt_of_le (Array.getElem?_eq_some_iff.1 hk3).1 hb1.size)
  clear hE hb0 hb1 hk2 hk3 hw0
  generalize hG : w.heap.size = G at H2 H3 HL ⊢
  go_wp2_with fail
  go_loopw [11] (fun i wr => ∃ m : Nat, m ≤ 25 ∧ i = .int .i64 m ∧ Hid (wr.heap[G + 1]? = some (.cells (cells5 (rep (fun F => fTo L R E F n) m fun _ => 0)) 23 (0, 0))) ∧ Hid (wr.heap[G]? = some (.cells (cells5 fun _ => 0) 23 (0, 0))) ∧ Hid (Below w.heap.size w wr)) (fun i _ => 25 - (intOf i).toNat)
  case atStart => exact ⟨0, by omega, rfl, H3, H2, HB⟩
  case round =>
    clear HB H3 H2
    obtain ⟨m, hm, rfl, H3, H2, HB⟩ := hrel
    by_cases hlt : m < 25
    · have hltI : (m : Int) < 25 := by omega
      obtain ⟨F0, hF0⟩ : ∃ F0, rep (fun F => fTo L R E F n) m (fun _ => 0) = F0 := ⟨_, rfl⟩
      have five0 : Five F0 := by rw [← hF0, ← HE.out]; exact first_five HG.out.ok m
      rw [hF0] at H3
      have HF0 := Lib.hid hF0
      have HV0 := Lib.hid five0
      clear hF0 five0
      go_wp2_with fail
      go_loopw [15] (fun i wr => ∃ k : Nat, k ≤ n ∧ i = .int .i64 k ∧ Hid (wr.heap[G + 1]? = some (.cells (cells5 (fTo L R E F0 k)) 23 (0, 0))) ∧ Hid (wr.heap[G]? = some (.cells (cells5 fun _ => 0) 23 (0, 0))) ∧ Hid (Below w.heap.size w wr)) (fun i _ => n - (intOf i).toNat)
      case atStart => exact ⟨0, by omega, rfl, H3, H2, HB⟩
      case round =>
        clear HB H3 H2
        obtain ⟨k, hk, rfl, H3, H2, HB⟩ := hrel
        by_cases hkn : k < n
        · have c0 := (HP.out.later HB.out).c0 k hkn
          have c1 := (HP.out.later HB.out).c1 k hkn
          obtain ⟨F1, hF1⟩ : ∃ F1, fTo L R E F0 k = F1 := ⟨_, rfl⟩
          have five1 : Five F1 := by rw [← hF1]; exact fTo_five HG.out.ok E HV0.out k hk
          rw [hF1] at H3
          obtain ⟨l, hl⟩ : ∃ l, L k = l := ⟨_, rfl⟩
          obtain ⟨s, hs⟩ : ∃ s, R k = s := ⟨_, rfl⟩
          have hsz : s.size ≤ 4 := by rw [← hs]; exact HG.out.sz k hkn
          have hlp : isP l = true := by rw [← hl]; exact (HG.out.ok k hkn).1
          have HOK : Hid (okR s) := Lib.hid (by rw [← hs]; exact (HG.out.ok k hkn).2)
          have HFK : Hid (fTo L R E F0 (k + 1) = upd F1 (pn l) (beg F1 E s 0 0).1) := Lib.hid (by rw [fTo, hF1, hl, hs])
          rw [hl] at c0
          rw [hs] at c1
          have hkc : k < c := by omega
          have HV1 := Lib.hid five1
          clear hl hs hF1 five1
          have hbA := below_one (w := wr) (.cells #[.int .u8 l, .string s] 44)
          obtain ⟨d0, d1⟩ := rule_new wr 44 l s
          have h3A := (hbA.block _ (Array.getElem?_eq_some_iff.1 H3.out).1).trans H3.out
          have f0 := five_at h3A (show 0 < 5 by decide)
          have f1 := five_at h3A (show 1 < 5 by decide)
          have f2 := five_at h3A (show 2 < 5 by decide)
          have f3 := five_at h3A (show 3 < 5 by decide)
          have f4 := five_at h3A (show 4 < 5 by decide)
          have HBA := Lib.hid (HB.out.trans (hbA.mono HB.out.size))
          have H3A := Lib.hid h3A
          have H2A := Lib.hid ((hbA.block _ (Array.getElem?_eq_some_iff.1 H2.out).1).trans H2.out)
          have HD := Lib.hid (And.intro d0 d1)
          have HLT := Lib.hid (show wr.heap.size < (wr.alloc (.cells #[.int .u8 l, .string s] 44)).heap.size by simp)
          clear hbA h3A H3 H2 HB d0 d1
          go_wp2_with fail
          refine (rbegins_calls F1 s E _ HV1.out.1 hE32 HOK.out (by omega)).mono ?_
          rintro e w2 ⟨rfl, hb2⟩
          have hbl := beg_lt HV1.out.1 E HOK.out 0 0 (by decide)
          obtain ⟨B, hB⟩ : ∃ B, beg F1 E s 0 0 = B := ⟨_, rfl⟩
          rw [hB] at hbl HFK ⊢
          have h5 := isP_iff.1 hlp
          obtain ⟨j, rfl⟩ : ∃ j : Nat, l = (j : Int) + 65 := ⟨(l - 65).toNat, by omega⟩
          have hj : j ≤ 4 := by omega
          have hj5 : j < 5 := by omega
          have e1 : IntKind.u8.wrap ((j : Int) + 65 - 65) = (j : Int) := by
            unfold IntKind.wrap
            simp [IntKind.signed, IntKind.bits]
            omega
          have hpn : pn ((j : Int) + 65) = j := by unfold pn; omega
          rw [hpn] at HFK
          have h3 := (hb2.block _ (Array.getElem?_eq_some_iff.1 H3A.out).1).trans H3A.out
          have g0 := five_at h3 hj5
          have g1 := blk_frozen h3 j
          have hd0 := (hb2.cell (p := ⟨wr.heap.size, 0, none⟩) HLT.out).trans HD.out.1
          have H3B := Lib.hid h3
          have H2B := Lib.hid ((hb2.block _ (Array.getElem?_eq_some_iff.1 H2A.out).1).trans H2A.out)
          have HB2 := Lib.hid (HBA.out.trans (hb2.mono HBA.out.size))
          have ho : bits .or .i64 (F1 j : Int) (B.1 : Int) = ((F1 j ||| B.1 : Nat) : Int) := or_nat (lt62 (HV1.out.1 j)) (lt62 hbl)
          clear hB hpn h3 hb2 f0 f1 f2 f3 f4 H3A H2A HBA HD
          go_wp2_with fail
          refine ⟨⟨k + 1, by omega, by go_num, Lib.hid ?_, Lib.hid ?_, Lib.hid (HB2.out.setCell (p := ⟨G + 1, j, none⟩) (by rw [hG]; exact Nat.le_succ _) _)⟩, by simp [intOf]; omega⟩
          · rw [HFK.out]
            exact five_set H3B.out hj5
          · exact (Below.heap_setCell w2 ⟨G + 1, j, none⟩ _ G (by simp)).trans H2B.out
        · obtain rfl : k = n := by omega
          go_wp2_with fail
          refine ⟨⟨m + 1, by omega, by go_num, ?_, H2, HB⟩, by simp [intOf]; omega⟩
          rw [rep, HF0.out]
          exact H3
    · obtain rfl : m = 25 := by omega
      obtain ⟨F, hF⟩ : ∃ F, rep (fun F => fTo L R E F n) 25 (fun _ => 0) = F := ⟨_, rfl⟩
      rw [hF] at H3
      have HFF : Hid (firstN L R n = F) := Lib.hid (by rw [← hF, ← HE.out]; rfl)
      have f0 := five_at H3.out (show 0 < 5 by decide)
      have f1 := five_at H3.out (show 1 < 5 by decide)
      have f2 := five_at H3.out (show 2 < 5 by decide)
      have f3 := five_at H3.out (show 3 < 5 by decide)
      have f4 := five_at H3.out (show 4 < 5 by decide)
      have g0 := five_at H2.out (show 0 < 5 by decide)
      have g1 := five_at H2.out (show 1 < 5 by decide)
      have g2 := five_at H2.out (show 2 < 5 by decide)
      have g3 := five_at H2.out (show 3 < 5 by decide)
      have g4 := five_at H2.out (show 4 < 5 by decide)
      have z0 := blk_frozen H2.out 0
      have z1 := blk_frozen H2.out 1
      have z2 := blk_frozen H2.out 2
      have z3 := blk_frozen H2.out 3
      have z4 := blk_frozen H2.out 4
      clear hF
      go_wp2
      (try simp only [Exit.inBlock, Exit.then])
      refine bodyPost_ret (v := agg5 F) (results_cell_row rfl _ _ G 23 (cells5 F) (0, 0) _ rfl (five_fill H2.out) Tryd.underlying23 rfl (by kernel_rfl)) rfl ⟨by rw [HFF.out], ?_⟩
      refine fill_below HB.out ?_
      rw [hG]
      exact Nat.le_refl _
end Go.Proofs.YtjpfalanoifpbaaDoor.X
end

section
set_option linter.unusedVariables false
set_option linter.unusedSimpArgs false
namespace Go.Proofs.YtjpfalanoifpbaaDoor.X
open Go.RowKit Go.Proofs.YtjpfalanoifpbaaDoorW.PrintWords Go.Proofs.YtjpfalanoifpbaaDoorW.PrintLast Go.Proofs.YtjpfalanoifpbaaDoorW.PrintMore Go.Proofs.YtjpfalanoifpbaaDoor.T
structure NxS (t : TypeId) (w : World) (G G3 G5 : Nat) (Fst N : Nat → Nat) (wr : World) : Prop where
  h2 : wr.heap[G]? = some (.cells (cells5 fun _ => 0) t (0, 0))
  h3 : wr.heap[G3]? = some (.cells (cells5 Fst) t (0, 0))
  h5 : wr.heap[G5]? = some (.cells (cells5 N) t (0, 0))
  bl : Below w.heap.size w wr
theorem NxS.later {t : TypeId} {w : World} {G G3 G5 : Nat} {Fst N : Nat → Nat} {wr w' : World} (h : NxS t w G G3 G5 Fst N wr) (hb : Below wr.heap.size wr w') : NxS t w G G3 G5 Fst N w' :=
  ⟨(hb.block _ (Array.getElem?_eq_some_iff.1 h.h2).1).trans h.h2, (hb.block _ (Array.getElem?_eq_some_iff.1 h.h3).1).trans h.h3, (hb.block _ (Array.getElem?_eq_some_iff.1 h.h5).1).trans h.h5, h.bl.trans (hb.mono h.bl.size)⟩
theorem NxS.set {t : TypeId} {w : World} {G G3 G5 : Nat} {Fst N : Nat → Nat} {wr : World} (h : NxS t w G G3 G5 Fst N wr) {j v : Nat} (hj : j < 5) (h1 : G ≠ G5) (h2 : G3 ≠ G5) (h3 : w.heap.size ≤ G5) : NxS t w G G3 G5 Fst (upd N j v) (wr.setCell ⟨G5, j, none⟩ (.int .i64 ((N j ||| v : Nat) : Int))) :=
  ⟨(Below.heap_setCell wr ⟨G5, j, none⟩ _ G h1).trans h.h2, (Below.heap_setCell wr ⟨G5, j, none⟩ _ G3 h2).trans h.h3, five_set h.h5 hj, h.bl.setCell (p := ⟨G5, j, none⟩) h3 _⟩
theorem u8_part {j : Nat} (hj : j ≤ 4) : IntKind.u8.wrap ((j : Int) + 65 - 65) = (j : Int) := by
  unfold IntKind.wrap
  simp [IntKind.signed, IntKind.bits]
  omega
theorem five_start {w : World} {g : Nat} {t : TypeId} (h : w.heap[g]? = some (.cells (cells5 fun _ => 0) t (0, 0))) {j : Nat} (hj : j < 5) : (w.setCell ⟨g, j, none⟩ (.int .i64 16)).heap[g]? = some (.cells (cells5 fun i => if i = j then 16 else 0) t (0, 0)) := by
  match j, hj with
  | 0, _ => simp [World.setCell, Array.getElem?_modify, h, cells5]
  | 1, _ => simp [World.setCell, Array.getElem?_modify, h, cells5]
  | 2, _ => simp [World.setCell, Array.getElem?_modify, h, cells5]
  | 3, _ => simp [World.setCell, Array.getElem?_modify, h, cells5]
  | 4, _ => simp [World.setCell, Array.getElem?_modify, h, cells5]
set_option maxHeartbeats 16000000 in
set_option maxRecDepth 100000 in
theorem rNext_calls (A : Option Addr) (n c : Nat) (L : Nat → Int) (R : Nat → ByteArray) (w : World) (hA : Sr w A n c L R) (hg : Gr L R n) :
    Calls Tryd.prog 24 #[.slice A n c] w fun e w' => e = .returned (agg5 (nextN L R n 30)) ∧ Below w.heap.size w w' := by
  obtain ⟨b, off, rfl, hnc, hP⟩ := hA.open hg.n1
  have HP := Lib.hid hP
  have HA := Lib.hid hA
  have HG := Lib.hid hg
  have hn8 := hg.n8
  have hn1 := hg.n1
  clear hA hP hg
  go_enter Tryd.func24, Tryd.ntmps24
  go_wp2_with fail
  obtain ⟨w0, hw0⟩ : ∃ w0, w0 = w.alloc (.cells (cells5 fun _ => 0) 23) := ⟨_, rfl⟩
  have hb0 : Below w.heap.size w w0 := by rw [hw0]; exact below_one _
  have hk2 : w0.heap[w.heap.size]? = some (.cells (cells5 fun _ => 0) 23 (0, 0)) := by rw [hw0]; exact blk_new w _
  unfold cells5 at hw0
  rw [show ((0 : Nat) : Int) = 0 from rfl] at hw0
  rw [← hw0]
  refine (rFirst_calls _ n c L R w0 (HA.out.later hb0) HG.out).mono ?_
  rintro e w1 ⟨rfl, hb1⟩
  have HB1 := Lib.hid (hb0.trans (hb1.mono hb0.size))
  have HK1 := Lib.hid ((hb1.block _ (Array.getElem?_eq_some_iff.1 hk2).1).trans hk2)
  clear hw0 hb0 hk2 hb1
  obtain ⟨Fst, hFst⟩ : ∃ Fst, firstN L R n = Fst := ⟨_, rfl⟩
  have fiveF : Five Fst := by rw [← hFst]; exact first_five HG.out.ok 25
  rw [hFst]
  have HFst := Lib.hid hFst
  have HVF := Lib.hid fiveF
  clear hFst fiveF
  unfold agg5
  go_wp2_with fail
  refine (rEmpty_calls _ n c L R w1 (HA.out.later HB1.out) HG.out).mono ?_
  rintro e w2 ⟨rfl, hb2⟩
  obtain ⟨E, hE⟩ : ∃ E, emptyN L R n = E := ⟨_, rfl⟩
  have hE32 : E < 32 := by rw [← hE]; exact empty_lt HG.out.ok 5
  rw [hE]
  have HE := Lib.hid hE
  have HB2 := Lib.hid (HB1.out.trans (hb2.mono HB1.out.size))
  have HK2 := Lib.hid ((hb2.block _ (Array.getElem?_eq_some_iff.1 HK1.out).1).trans HK1.out)
  clear hb2 HB1 HK1 hE
  go_upto_region 3 with fail
  obtain ⟨w3, hw3⟩ : ∃ w3, w3 = (w2.alloc (.cells (cells5 Fst) 23)).alloc (.cells (cells5 fun _ => 0) 23) := ⟨_, rfl⟩
  have hb3 : Below w2.heap.size w2 w3 := by rw [hw3]; exact (below_one _).trans ((below_one _).mono (by simp))
  have hk5 : w3.heap[w2.heap.size + 1]? = some (.cells (cells5 fun _ => 0) 23 (0, 0)) := by
    rw [hw3, show w2.heap.size + 1 = (w2.alloc (.cells (cells5 Fst) 23)).heap.size by simp]
    exact blk_new _ _
  have hk3 : w3.heap[w2.heap.size]? = some (.cells (cells5 Fst) 23 (0, 0)) := by
    rw [hw3]
    exact ((below_one _).block w2.heap.size (by simp)).trans (blk_new w2 _)
  have hk22 := (hb3.block _ (Array.getElem?_eq_some_iff.1 HK2.out).1).trans HK2.out
  have HB3 := Lib.hid (HB2.out.trans (hb3.mono HB2.out.size))
  have c0 := (HP.out.later HB3.out).c0 0 (by omega)
  obtain ⟨l0, hl0⟩ : ∃ l0, L 0 = l0 := ⟨_, rfl⟩
  have hl0p : isP l0 = true := by rw [← hl0]; exact (HG.out.ok 0 (by omega)).1
  rw [hl0] at c0
  have h50 := isP_iff.1 hl0p
  obtain ⟨j0, rfl⟩ : ∃ j : Nat, l0 = (j : Int) + 65 := ⟨(l0 - 65).toNat, by omega⟩
  have hj0 : j0 ≤ 4 := by omega
  have hj05 : j0 < 5 := by omega
  have e10 := u8_part hj0
  have HST : Hid (start16 L = fun i => if i = j0 then 16 else 0) := Lib.hid (by
    unfold start16
    rw [hl0, show pn ((j0 : Int) + 65) = j0 by unfold pn; omega])
  have g0 := five_at hk5 hj05
  have g1 := blk_frozen hk5 j0
  have hc0 : 0 < c := by omega
  simp only [Nat.zero_mul, Nat.add_zero] at c0
  unfold cells5 at hw3
  rw [show ((0 : Nat) : Int) = 0 from rfl] at hw3
  rw [← hw3]
  clear hw3
  have HS5 : Hid (NxS 23 w w.heap.size w2.heap.size (w2.heap.size + 1) Fst (rep (fun F => nTo L R Fst E F n) 0 (start16 L)) (w3.setCell ⟨w2.heap.size + 1, j0, none⟩ (.int .i64 16))) := Lib.hid (by
    have hlt := (Array.getElem?_eq_some_iff.1 HK2.out).1
    refine ⟨(Below.heap_setCell w3 ⟨w2.heap.size + 1, j0, none⟩ _ w.heap.size (by simp; omega)).trans hk22, (Below.heap_setCell w3 ⟨w2.heap.size + 1, j0, none⟩ _ w2.heap.size (by simp)).trans hk3, ?_, HB3.out.setCell (p := ⟨w2.heap.size + 1, j0, none⟩) (by simp; omega) _⟩
    rw [rep, HST.out]
    exact five_start hk5 hj05)
  have HLT := Lib.hid (Array.getElem?_eq_some_iff.1 HK2.out).1
  clear hl0 hl0p hb3 hk3 hk22 HB2 HK2
  go_wp2_with fail
  have HL3 := Lib.hid (And.intro (show w.heap.size ≠ w2.heap.size + 1 by have := HLT.out; omega) (And.intro (show w2.heap.size ≠ w2.heap.size + 1 by omega) (show w.heap.size ≤ w2.heap.size + 1 by have := HLT.out; omega)))
  clear c0 g0 g1 hk5 HB3 HST
  go_loopw [21] (fun i wr => ∃ m : Nat, m ≤ 30 ∧ i = .int .i64 m ∧ Hid (NxS 23 w w.heap.size w2.heap.size (w2.heap.size + 1) Fst (rep (fun F => nTo L R Fst E F n) m (start16 L)) wr)) (fun i _ => 30 - (intOf i).toNat)
  case atStart => exact ⟨0, by omega, rfl, HS5⟩
  case round =>
    clear HS5
    obtain ⟨m, hm, rfl, HS⟩ := hrel
    by_cases hlt : m < 30
    · have hltI : (m : Int) < 30 := by omega
      obtain ⟨N0, hN0⟩ : ∃ N0, rep (fun F => nTo L R Fst E F n) m (start16 L) = N0 := ⟨_, rfl⟩
      have five0 : Five N0 := by rw [← hN0, ← HFst.out, ← HE.out]; exact next_five HG.out.ok hn1 m
      rw [hN0] at HS
      have HN0 := Lib.hid hN0
      have HV0 := Lib.hid five0
      clear hN0 five0
      go_wp2_with fail
      go_loopw [25] (fun i wr => ∃ k : Nat, k ≤ n ∧ i = .int .i64 k ∧ Hid (NxS 23 w w.heap.size w2.heap.size (w2.heap.size + 1) Fst (nTo L R Fst E N0 k) wr)) (fun i _ => n - (intOf i).toNat)
      case atStart => exact ⟨0, by omega, rfl, HS⟩
      case round =>
        clear HS
        obtain ⟨k, hk, rfl, HS⟩ := hrel
        by_cases hkn : k < n
        · have c0 := (HP.out.later HS.out.bl).c0 k hkn
          have c1 := (HP.out.later HS.out.bl).c1 k hkn
          obtain ⟨N1, hN1⟩ : ∃ N1, nTo L R Fst E N0 k = N1 := ⟨_, rfl⟩
          have five1 : Five N1 := by rw [← hN1]; exact (nTo_five HG.out.ok HVF.out E HV0.out k hk).1
          rw [hN1] at HS
          obtain ⟨l, hl⟩ : ∃ l, L k = l := ⟨_, rfl⟩
          obtain ⟨s, hs⟩ : ∃ s, R k = s := ⟨_, rfl⟩
          have hsz : s.size ≤ 4 := by rw [← hs]; exact HG.out.sz k hkn
          have hlp : isP l = true := by rw [← hl]; exact (HG.out.ok k hkn).1
          have HOK : Hid (okR s) := Lib.hid (by rw [← hs]; exact (HG.out.ok k hkn).2)
          have HNK : Hid (nTo L R Fst E N0 (k + 1) = nIn Fst E l s N1 s.size) := Lib.hid (by rw [nTo, hN1, hl, hs])
          rw [hl] at c0
          rw [hs] at c1
          have hkc : k < c := by omega
          have HV1 := Lib.hid five1
          clear hl hs hN1 five1
          obtain ⟨wo, rfl⟩ : ∃ wo : World, wo = wr := ⟨_, rfl⟩
          go_wp2_with fail
          have hbA := below_one (w := wo) (.cells #[.int .u8 l, .string s] 44)
          have hkA := blk_new wo (.cells #[.int .u8 l, .string s] 44)
          have HNE : Hid (wo.heap.size ≠ w2.heap.size + 1) := Lib.hid (by have := (Array.getElem?_eq_some_iff.1 HS.out.h5).1; omega)
          obtain ⟨w5, hw5⟩ : ∃ w5, w5 = wo.alloc (.cells #[.int .u8 l, .string s] 44) := ⟨_, rfl⟩
          rw [← hw5] at hbA hkA ⊢
          have HS5 : Hid (NxS 23 w w.heap.size w2.heap.size (w2.heap.size + 1) Fst (nIn Fst E l s N1 0) w5) := Lib.hid (HS.out.later hbA)
          have HR5 := Lib.hid hkA
          clear hw5 hbA hkA c0 c1 HS
          go_loopw [32] (fun i wr => ∃ q : Nat, q ≤ s.size ∧ i = .int .i64 q ∧ Hid (NxS 23 w w.heap.size w2.heap.size (w2.heap.size + 1) Fst (nIn Fst E l s N1 q) wr) ∧ Hid (wr.heap[wo.heap.size]? = some (.cells #[.int .u8 l, .string s] 44 (0, 0)))) (fun i _ => s.size - (intOf i).toNat)
          case atStart => exact ⟨0, by omega, rfl, HS5, HR5⟩
          case round =>
            clear HS5 HR5
            obtain ⟨q, hq, rfl, HS, HR⟩ := hrel
            by_cases hqs : q < s.size
            · have HQQ : Hid ((q : Int) + 1 ≤ s.size ∧ wrap64 ((q : Int) + 1) = (q : Int) + 1 ∧ (0 : Int) ≤ (q : Int) + 1) := Lib.hid ⟨by omega, by unfold wrap64; omega, by omega⟩
              have HEX : Hid ((s.extract (q + 1) s.size).size ≤ 1000) := Lib.hid (by rw [ByteArray.size_extract]; omega)
              have hbt : (((s[q]'hqs).toNat : Nat) : Int) = ch s q := ch_at s q hqs
              obtain ⟨x, hx⟩ : ∃ x, ch s q = x := ⟨_, rfl⟩
              rw [hx] at hbt
              have d0 := blk_cell HR.out 0
              have d1 := blk_cell HR.out 1
              simp at d0 d1
              have HX := Lib.hid hx
              clear hx
              go_wp2_with fail
              refine (part_calls x _).mono ?_
              rintro r w6 ⟨rfl, rfl⟩
              cases hp : isP x with
              | false =>
                have HSU : Hid (nIn Fst E l s N1 (q + 1) = nIn Fst E l s N1 q) := Lib.hid (by rw [nIn, HX.out, if_neg (by rw [hp]; decide)])
                clear hp
                go_wp2_with fail
                refine ⟨⟨q + 1, by omega, by go_num, ?_, HR⟩, by simp [intOf]; omega⟩
                rw [HSU.out]
                exact HS
              | true =>
                obtain ⟨N2, hN2⟩ : ∃ N2, nIn Fst E l s N1 q = N2 := ⟨_, rfl⟩
                have five2 : Five N2 := by rw [← hN2]; exact (nIn_five HVF.out E hlp HOK.out HV1.out q hq).1
                have HSU : Hid (nIn Fst E l s N1 (q + 1) = upd N2 (pn x) (if (beg Fst E (s.extract (q + 1) s.size) 0 0).2 = true then (beg Fst E (s.extract (q + 1) s.size) 0 0).1 ||| N2 (pn l) else (beg Fst E (s.extract (q + 1) s.size) 0 0).1)) := Lib.hid (by rw [nIn, HX.out, if_pos hp, hN2])
                rw [hN2] at HS
                have HV2 := Lib.hid five2
                have h5 := isP_iff.1 hp
                have h6 := isP_iff.1 hlp
                obtain ⟨j, rfl⟩ : ∃ j : Nat, x = (j : Int) + 65 := ⟨(x - 65).toNat, by omega⟩
                obtain ⟨jl, rfl⟩ : ∃ j : Nat, l = (j : Int) + 65 := ⟨(l - 65).toNat, by omega⟩
                have hj : j ≤ 4 := by omega
                have hj5 : j < 5 := by omega
                have hjl : jl ≤ 4 := by omega
                have hjl5 : jl < 5 := by omega
                have e1 := u8_part hj
                have e2 := u8_part hjl
                rw [show pn ((j : Int) + 65) = j by unfold pn; omega, show pn ((jl : Int) + 65) = jl by unfold pn; omega] at HSU
                have f0 := five_at HS.out.h3 (show 0 < 5 by decide)
                have f1 := five_at HS.out.h3 (show 1 < 5 by decide)
                have f2 := five_at HS.out.h3 (show 2 < 5 by decide)
                have f3 := five_at HS.out.h3 (show 3 < 5 by decide)
                have f4 := five_at HS.out.h3 (show 4 < 5 by decide)
                clear hN2 five2 hp
                go_wp2_with fail
                obtain ⟨hle, hwq, hle0⟩ := HQQ.out
                refine start_ (n := 13) (S := fun w' => w'.cell? ⟨w2.heap.size, 0, none⟩ = some (.int .i64 (Fst 0)) ∧ w'.cell? ⟨w2.heap.size, 1, none⟩ = some (.int .i64 (Fst 1)) ∧ w'.cell? ⟨w2.heap.size, 2, none⟩ = some (.int .i64 (Fst 2)) ∧ w'.cell? ⟨w2.heap.size, 3, none⟩ = some (.int .i64 (Fst 3)) ∧ w'.cell? ⟨w2.heap.size, 4, none⟩ = some (.int .i64 (Fst 4)) ∧ w'.cell? ⟨wo.heap.size, 1, none⟩ = some (.string s)) (ds := [7]) #[false, false, false, false, false, false, false, false, false, false, false, false, false] (by kernel_rfl) rfl rfl ⟨by simpa using f0, by simpa using f1, by simpa using f2, by simpa using f3, by simpa using f4, by simpa using d1⟩ (fun hHeld => ?_)
                refine take_ (i := 0) (N := (some 42)) (v := ?_) (a' := ?_) #[true, false, false, false, false, false, false, false, false, false, false, false, false] rfl rfl (by kernel_rfl) (fun _ _ _ h => h) (Or.inl ⟨by rfl, ?_⟩) hHeld ?_ ?_
                rotate_left
                · rintro w' ⟨s0, s1, s2, s3, s4, s5⟩; go_simp; first | done | with_reducible rfl
                rotate_left
                · simp only [Act.put, List.setIfInBounds_toArray, List.set_cons_zero, List.set_cons_succ, i64_w, i32_w]; rfl
                refine pure_ (i := 1) (N := (some 43)) (v := ?_) (a' := ?_) #[true, true, false, false, false, false, false, false, false, false, false, false, false] rfl rfl (by kernel_rfl) (fun _ _ _ h => h) (Or.inl ⟨by rfl, ?_⟩) ?_ ?_
                rotate_left
                · intro w'; go_simp; first | done | with_reducible rfl
                rotate_left
                · simp only [Act.put, List.setIfInBounds_toArray, List.set_cons_zero, List.set_cons_succ, i64_w, i32_w]; rfl
                refine pure_ (i := 2) (N := (some 44)) (v := ?_) (a' := ?_) #[true, true, true, false, false, false, false, false, false, false, false, false, false] rfl rfl (by kernel_rfl) (fun _ _ _ h => h) (Or.inl ⟨by rfl, ?_⟩) ?_ ?_
                rotate_left
                · intro w'; go_simp; first | done | with_reducible rfl
                rotate_left
                · simp only [Act.put, List.setIfInBounds_toArray, List.set_cons_zero, List.set_cons_succ, i64_w, i32_w]; rfl
                refine take_ (i := 3) (N := (some 45)) (v := ?_) (a' := ?_) #[true, true, true, true, false, false, false, false, false, false, false, false, false] rfl rfl (by kernel_rfl) (fun _ _ _ h => h) (Or.inl ⟨by rfl, ?_⟩) hHeld ?_ ?_
                rotate_left
                · rintro w' ⟨s0, s1, s2, s3, s4, s5⟩; go_simp; first | done | with_reducible rfl
                rotate_left
                · simp only [Act.put, List.setIfInBounds_toArray, List.set_cons_zero, List.set_cons_succ, i64_w, i32_w]; rfl
                refine pure_ (i := 4) (N := (some 46)) (v := ?_) (a' := ?_) #[true, true, true, true, true, false, false, false, false, false, false, false, false] rfl rfl (by kernel_rfl) (fun _ _ _ h => h) (Or.inl ⟨by rfl, ?_⟩) ?_ ?_
                rotate_left
                · intro w'; go_simp; first | done | with_reducible rfl
                rotate_left
                · simp only [Act.put, List.setIfInBounds_toArray, List.set_cons_zero, List.set_cons_succ, i64_w, i32_w]; rfl
                refine pure_ (i := 5) (N := (some 47)) (v := ?_) (a' := ?_) #[true, true, true, true, true, true, false, false, false, false, false, false, false] rfl rfl (by kernel_rfl) (fun _ _ _ h => h) (Or.inl ⟨by rfl, ?_⟩) ?_ ?_
                rotate_left
                · intro w'; go_simp; first | done | with_reducible rfl
                rotate_left
                · simp only [Act.put, List.setIfInBounds_toArray, List.set_cons_zero, List.set_cons_succ, i64_w, i32_w]; rfl
                refine pure_ (i := 6) (N := (some 48)) (v := ?_) (a' := ?_) #[true, true, true, true, true, true, true, false, false, false, false, false, false] rfl rfl (by kernel_rfl) (fun _ _ _ h => h) (Or.inl ⟨by rfl, ?_⟩) ?_ ?_
                rotate_left
                · intro w'; go_simp; first | done | with_reducible rfl
                rotate_left
                · simp only [Act.put, List.setIfInBounds_toArray, List.set_cons_zero, List.set_cons_succ, i64_w, i32_w]; rfl
                refine last_ (i := 7) (N := (some 49)) #[true, true, true, true, true, true, true, true, false, false, false, false, false] rfl rfl (by kernel_rfl) (by decide) (fun K hK => ?_)
                refine goes_ Tryd.func64 (by kernel_rfl) rfl #[agg5 Fst, .int .i64 E, .string (s.extract (q + 1) s.size)] (by rfl) rfl rfl (by (try simp only [List.map_toArray, List.map_cons, List.map_nil]); first | done | rfl) ?_
                refine (rbegins_calls Fst (s.extract (q + 1) s.size) E _ HVF.out.1 hE32 (okR_tail HOK.out (q + 1)) HEX.out).mono ?_
                have hbl := beg_lt HVF.out.1 E (okR_tail HOK.out (q + 1)) 0 0 (by decide)
                obtain ⟨B, hB⟩ : ∃ B, beg Fst E (s.extract (q + 1) s.size) 0 0 = B := ⟨_, rfl⟩
                rw [hB] at hbl HSU ⊢
                rintro e w7 ⟨rfl, hb7⟩
                refine ⟨_, rfl, ?_⟩
                refine hK.out _ _ ?_
                clear hK K
                refine norm_ (a' := ?_) ?_ ?_
                rotate_left
                · show Act.put _ (some 49) _ = _; simp only [Act.put, List.setIfInBounds_toArray, List.set_cons_zero, List.set_cons_succ, i64_w, i32_w]; rfl
                refine pure_ (i := 8) (N := (some 41)) (v := ?_) (a' := ?_) #[true, true, true, true, true, true, true, true, true, false, false, false, false] rfl rfl (by kernel_rfl) (fun _ _ _ h => h) (Or.inl ⟨by rfl, ?_⟩) ?_ ?_
                rotate_left
                · intro w'; go_simp; first | done | with_reducible rfl
                rotate_left
                · simp only [Act.put, List.setIfInBounds_toArray, List.set_cons_zero, List.set_cons_succ, i64_w, i32_w]; rfl
                refine pure_ (i := 9) (N := (some 50)) (v := ?_) (a' := ?_) #[true, true, true, true, true, true, true, true, true, true, false, false, false] rfl rfl (by kernel_rfl) (fun _ _ _ h => h) (Or.inl ⟨by rfl, ?_⟩) ?_ ?_
                rotate_left
                · intro w'; go_simp; first | done | with_reducible rfl
                rotate_left
                · simp only [Act.put, List.setIfInBounds_toArray, List.set_cons_zero, List.set_cons_succ, i64_w, i32_w]; rfl
                refine pure_ (i := 10) (N := (some 51)) (v := ?_) (a' := ?_) #[true, true, true, true, true, true, true, true, true, true, true, false, false] rfl rfl (by kernel_rfl) (fun _ _ _ h => h) (Or.inl ⟨by rfl, ?_⟩) ?_ ?_
                rotate_left
                · intro w'; go_simp; first | done | with_reducible rfl
                rotate_left
                · simp only [Act.put, List.setIfInBounds_toArray, List.set_cons_zero, List.set_cons_succ, i64_w, i32_w]; rfl
                refine pure_ (i := 11) (N := (some 9)) (v := ?_) (a' := ?_) #[true, true, true, true, true, true, true, true, true, true, true, true, false] rfl rfl (by kernel_rfl) (fun _ _ _ h => h) (Or.inl ⟨by rfl, ?_⟩) ?_ ?_
                rotate_left
                · intro w'; go_simp; first | done | with_reducible rfl
                rotate_left
                · simp only [Act.put, List.setIfInBounds_toArray, List.set_cons_zero, List.set_cons_succ, i64_w, i32_w]; rfl
                refine pure_ (i := 12) (N := (some 10)) (v := ?_) (a' := ?_) #[true, true, true, true, true, true, true, true, true, true, true, true, true] rfl rfl (by kernel_rfl) (fun _ _ _ h => h) (Or.inl ⟨by rfl, ?_⟩) ?_ ?_
                rotate_left
                · intro w'; go_simp; first | done | with_reducible rfl
                rotate_left
                · simp only [Act.put, List.setIfInBounds_toArray, List.set_cons_zero, List.set_cons_succ, i64_w, i32_w]; rfl
                refine done_ (by kernel_rfl) ?_
                have hbb := (Below.refl w6.heap.size w6).drew.trans hb7
                have HS7 := Lib.hid (HS.out.later hbb)
                have HR7 := Lib.hid ((hbb.block _ (Array.getElem?_eq_some_iff.1 HR.out).1).trans HR.out)
                clear hHeld f0 f1 f2 f3 f4 d0 d1 hb7 hbb HS HR hB
                have d0 := blk_cell HR7.out 0
                have d1 := blk_cell HR7.out 1
                simp at d0 d1
                have g0 := five_at HS7.out.h5 hj5
                have g1 := five_at HS7.out.h5 hjl5
                have g2 := blk_frozen HS7.out.h5 j
                obtain ⟨B1, B2⟩ := B
                cases B2 with
                | false =>
                  have HSV : Hid (nIn Fst E ((jl : Int) + 65) s N1 (q + 1) = upd N2 j B1) := HSU
                  have ho : bits .or .i64 (N2 j : Int) (B1 : Int) = ((N2 j ||| B1 : Nat) : Int) := or_nat (lt62 (HV2.out.1 j)) (lt62 hbl)
                  clear HSU hle hwq hle0 h5 h6
                  go_wp2_with fail
                  clear ho g0 g1 g2 d0 d1 hbl e1 e2 hbt
                  refine ⟨⟨q + 1, hqs, by go_num, Lib.hid ?_, Lib.hid ((Below.heap_setCell w7 ⟨w2.heap.size + 1, j, none⟩ _ wo.heap.size HNE.out).trans HR7.out)⟩, by simp [intOf]; omega⟩
                  rw [HSV.out]
                  exact HS7.out.set hj5 HL3.out.1 HL3.out.2.1 HL3.out.2.2
                | true =>
                  have HSV : Hid (nIn Fst E ((jl : Int) + 65) s N1 (q + 1) = upd N2 j (B1 ||| N2 jl)) := HSU
                  have ho1 : bits .or .i64 (B1 : Int) (N2 jl : Int) = ((B1 ||| N2 jl : Nat) : Int) := or_nat (lt62 hbl) (lt62 (HV2.out.1 jl))
                  have ho2 : bits .or .i64 (N2 j : Int) ((B1 ||| N2 jl : Nat) : Int) = ((N2 j ||| (B1 ||| N2 jl) : Nat) : Int) := or_nat (lt62 (HV2.out.1 j)) (lt62 (or_lt hbl (HV2.out.1 jl)))
                  clear HSU hle hwq hle0 h5 h6
                  go_wp2_with fail
                  clear ho1 ho2 g0 g1 g2 d0 d1 hbl e1 e2 hbt
                  refine ⟨⟨q + 1, hqs, by go_num, Lib.hid ?_, Lib.hid ((Below.heap_setCell w7 ⟨w2.heap.size + 1, j, none⟩ _ wo.heap.size HNE.out).trans HR7.out)⟩, by simp [intOf]; omega⟩
                  rw [HSV.out]
                  exact HS7.out.set hj5 HL3.out.1 HL3.out.2.1 HL3.out.2.2
            · obtain rfl : q = s.size := by omega
              go_wp2_with fail
              refine ⟨⟨k + 1, by omega, by go_num, ?_⟩, by simp [intOf]; omega⟩
              rw [HNK.out]
              exact HS
        · obtain rfl : k = n := by omega
          go_wp2_with fail
          refine ⟨⟨m + 1, by omega, by go_num, ?_⟩, by simp [intOf]; omega⟩
          rw [rep, HN0.out]
          exact HS
    · obtain rfl : m = 30 := by omega
      obtain ⟨F, hF⟩ : ∃ F, rep (fun F => nTo L R Fst E F n) 30 (start16 L) = F := ⟨_, rfl⟩
      rw [hF] at HS
      have HFF : Hid (nextN L R n 30 = F) := Lib.hid (by rw [← hF, ← HFst.out, ← HE.out]; rfl)
      have f0 := five_at HS.out.h5 (show 0 < 5 by decide)
      have f1 := five_at HS.out.h5 (show 1 < 5 by decide)
      have f2 := five_at HS.out.h5 (show 2 < 5 by decide)
      have f3 := five_at HS.out.h5 (show 3 < 5 by decide)
      have f4 := five_at HS.out.h5 (show 4 < 5 by decide)
      have g0 := five_at HS.out.h2 (show 0 < 5 by decide)
      have g1 := five_at HS.out.h2 (show 1 < 5 by decide)
      have g2 := five_at HS.out.h2 (show 2 < 5 by decide)
      have g3 := five_at HS.out.h2 (show 3 < 5 by decide)
      have g4 := five_at HS.out.h2 (show 4 < 5 by decide)
      have z0 := blk_frozen HS.out.h2 0
      have z1 := blk_frozen HS.out.h2 1
      have z2 := blk_frozen HS.out.h2 2
      have z3 := blk_frozen HS.out.h2 3
      have z4 := blk_frozen HS.out.h2 4
      clear hF
      go_wp2
      (try simp only [Exit.inBlock, Exit.then])
      refine bodyPost_ret (v := agg5 F) (results_cell_row rfl _ _ w.heap.size 23 (cells5 F) (0, 0) _ rfl (five_fill HS.out.h2) Tryd.underlying23 rfl (by kernel_rfl)) rfl ⟨by rw [HFF.out], ?_⟩
      exact fill_below HS.out.bl (Nat.le_refl _)
end Go.Proofs.YtjpfalanoifpbaaDoor.X
end

section
namespace Go.Proofs
open Go.Shelf
def Tryd.lays160_ren : Go.Shelf.Ren := ⟨fun | 160 => 93 | 232 => 118 | 231 => 117 | 227 => 119 | 234 => 121 | 233 => 120 | 236 => 123 | 235 => 122 | 228 => 133 | 271 => 136 | 151 => 135 | 197 => 134 | 120 => 144 | 152 => 143 | 260 => 142 | 137 => 156 | 119 => 157 | 224 => 158 | 225 => 159 | 217 => 165 | 266 => 167 | n => n, fun | 9 => 9 | 4 => 4 | 3 => 3 | 5 => 5 | 117 => 161 | 116 => 160 | 0 => 0 | 124 => 164 | 21 => 21 | 105 => 174 | 46 => 84 | 119 => 192 | 139 => 195 | 138 => 194 | n => n, fun | 3 => 0 | 4 => 1 | n => n⟩
theorem Tryd.lays160 : Go.Proofs.Lays.n160 Tryd.prog Tryd.lays160_ren := {
  mixed := by kernel_rfl
  f119 := Tryd.func157.trans (congrArg some (by kernel_rfl))
  f120 := Tryd.func144.trans (congrArg some (by kernel_rfl))
  f137 := Tryd.func156.trans (congrArg some (by kernel_rfl))
  f151 := Tryd.func135.trans (congrArg some (by kernel_rfl))
  f152 := Tryd.func143.trans (congrArg some (by kernel_rfl))
  f160 := Tryd.func93.trans (congrArg some (by kernel_rfl))
  f197 := Tryd.func134.trans (congrArg some (by kernel_rfl))
  f217 := Tryd.func165.trans (congrArg some (by kernel_rfl))
  f224 := Tryd.func158.trans (congrArg some (by kernel_rfl))
  f225 := Tryd.func159.trans (congrArg some (by kernel_rfl))
  f227 := Tryd.func119.trans (congrArg some (by kernel_rfl))
  f228 := Tryd.func133.trans (congrArg some (by kernel_rfl))
  f231 := Tryd.func117.trans (congrArg some (by kernel_rfl))
  f232 := Tryd.func118.trans (congrArg some (by kernel_rfl))
  f233 := Tryd.func120.trans (congrArg some (by kernel_rfl))
  f234 := Tryd.func121.trans (congrArg some (by kernel_rfl))
  f235 := Tryd.func122.trans (congrArg some (by kernel_rfl))
  f236 := Tryd.func123.trans (congrArg some (by kernel_rfl))
  f260 := Tryd.func142.trans (congrArg some (by kernel_rfl))
  f266 := Tryd.func167.trans (congrArg some (by kernel_rfl))
  f271 := Tryd.func136.trans (congrArg some (by kernel_rfl))
  t0 := Tryd.underlying0
  a0 := Tryd.isAgg0
  z0 := Tryd.sizeOf0
  v0 := Tryd.zeroValue0
  t3 := Tryd.underlying3
  a3 := Tryd.isAgg3
  z3 := Tryd.sizeOf3
  v3 := Tryd.zeroValue3
  t4 := Tryd.underlying4
  a4 := Tryd.isAgg4
  z4 := Tryd.sizeOf4
  v4 := Tryd.zeroValue4
  t5 := Tryd.underlying5
  a5 := Tryd.isAgg5
  z5 := Tryd.sizeOf5
  v5 := Tryd.zeroValue5
  t9 := Tryd.underlying9
  a9 := Tryd.isAgg9
  z9 := Tryd.sizeOf9
  v9 := Tryd.zeroValue9
  t21 := Tryd.underlying21
  a21 := Tryd.isAgg21
  z21 := Tryd.sizeOf21
  v21 := Tryd.zeroValue21
  t46 := Tryd.underlying84
  a46 := Tryd.isAgg84
  z46 := Tryd.sizeOf84
  v46 := Tryd.zeroValue84
  t105 := Tryd.underlying174
  a105 := Tryd.isAgg174
  z105 := Tryd.sizeOf174
  v105 := Tryd.zeroValue174
  t116 := Tryd.underlying160
  a116 := Tryd.isAgg160
  z116 := Tryd.sizeOf160
  t117 := Tryd.underlying161
  a117 := Tryd.isAgg161
  z117 := Tryd.sizeOf161
  v117 := Tryd.zeroValue161
  t119 := Tryd.underlying192
  a119 := Tryd.isAgg192
  z119 := Tryd.sizeOf192
  t124 := Tryd.underlying164
  a124 := Tryd.isAgg164
  z124 := Tryd.sizeOf164
  v124 := Tryd.zeroValue164
  t138 := Tryd.underlying194
  a138 := Tryd.isAgg194
  z138 := Tryd.sizeOf194
  v138 := Tryd.zeroValue194
  t139 := Tryd.underlying195
  a139 := Tryd.isAgg195
  z139 := Tryd.sizeOf195
  v139 := Tryd.zeroValue195
  g3 := by kernel_rfl
  g4 := by kernel_rfl }
def Tryd.laysGw15_ren : Go.Shelf.Ren := ⟨fun | 15 => 77 | 20 => 105 | n => n, fun | 9 => 9 | 23 => 106 | 3 => 3 | 4 => 4 | 0 => 0 | 21 => 21 | n => n, fun | n => n⟩
theorem Tryd.laysGw15 : Go.Proofs.LaysGw.n15 Tryd.prog Tryd.laysGw15_ren := {
  mixed := by kernel_rfl
  f15 := Tryd.func77.trans (congrArg some (by kernel_rfl))
  f20 := Tryd.func105.trans (congrArg some (by kernel_rfl))
  t0 := Tryd.underlying0
  a0 := Tryd.isAgg0
  z0 := Tryd.sizeOf0
  v0 := Tryd.zeroValue0
  i0 := by kernel_rfl
  t3 := Tryd.underlying3
  a3 := Tryd.isAgg3
  z3 := Tryd.sizeOf3
  v3 := Tryd.zeroValue3
  i3 := by kernel_rfl
  t4 := Tryd.underlying4
  a4 := Tryd.isAgg4
  z4 := Tryd.sizeOf4
  v4 := Tryd.zeroValue4
  i4 := by kernel_rfl
  t9 := Tryd.underlying9
  a9 := Tryd.isAgg9
  z9 := Tryd.sizeOf9
  v9 := Tryd.zeroValue9
  i9 := by kernel_rfl
  t21 := Tryd.underlying21
  a21 := Tryd.isAgg21
  z21 := Tryd.sizeOf21
  v21 := Tryd.zeroValue21
  i21 := by kernel_rfl
  t23 := Tryd.underlying106
  a23 := Tryd.isAgg106
  z23 := Tryd.sizeOf106
  v23 := Tryd.zeroValue106
  i23 := by kernel_rfl }
open Go.RowKit Go.Lib in
theorem Tryd.strings_IndexFunc (g : Nat) (lb : Array Value) (eg : ∀ args w, (callFunc g args).run Tryd.prog w = .ok (.enter g args) w) (p : Nat → Bool) (s : ByteArray) (w : World) (hp : PredAt Tryd.prog g lb encR p w) :
    Calls Tryd.prog 77 #[.string s, .func (.func g) #[] lb] w fun e w' => e = .returned (.int .i64 (Lib.idxFunc p true s)) ∧ Below w.heap.size w w' := Any.strings_IndexFunc Tryd.laysGw15 g lb eg p s w hp
end Go.Proofs
end

section
set_option linter.unusedVariables false
set_option linter.unusedSimpArgs false
namespace Go.Proofs.YtjpfalanoifpbaaDoor.X
open Go.RowKit Go.Proofs.YtjpfalanoifpbaaDoorW.PrintWords Go.Proofs.YtjpfalanoifpbaaDoorW.PrintLast Go.Proofs.YtjpfalanoifpbaaDoorW.PrintMore Go.Proofs.YtjpfalanoifpbaaDoor.T
theorem idx_from {s : ByteArray} (hs : okR s) (p : Nat → Bool) : ∀ (f pos : Nat), s.size ≤ pos + f → (Lib.idxFuncFrom p true s f pos < 0 ↔ ∀ i, pos ≤ i → i < s.size → p (ch s i).toNat = false)
  | 0, pos, h => by
    unfold Lib.idxFuncFrom
    exact ⟨fun _ i h1 h2 => by omega, fun _ => by decide⟩
  | f + 1, pos, h => by
    unfold Lib.idxFuncFrom
    by_cases hp : pos < s.size
    · rw [if_pos hp]
      have hc : (s[pos]'hp).toNat < 128 := by
        have := ch_at s pos hp
        rcases hs pos hp with q | q
        · have := isP_iff.1 q
          omega
        · have := isD_iff.1 q
          omega
      have he : (s[pos]'hp).toNat = (ch s pos).toNat := by rw [← ch_at s pos hp]; rfl
      rw [decode_ascii s pos hp hc]
      simp only
      rw [he]
      have ih := idx_from hs p f (pos + 1) (by omega)
      cases hx : p (ch s pos).toNat with
      | true =>
        rw [if_pos rfl]
        exact ⟨fun q => by omega, fun q => by rw [q pos (Nat.le_refl _) hp] at hx; cases hx⟩
      | false =>
        rw [if_neg (by decide), ih]
        refine ⟨fun q i h1 h2 => ?_, fun q i h1 h2 => q i (by omega) h2⟩
        by_cases e : i = pos
        · rw [e]
          exact hx
        · exact q i (by omega) h2
    · rw [if_neg hp]
      exact ⟨fun _ i h1 h2 => by omega, fun _ => by decide⟩
def notIn (E : Nat) (x : Nat) : Bool := !(isP (IntKind.u8.wrap (x : Int)) && E.testBit (pn (IntKind.u8.wrap (x : Int))))
theorem u8_small {c : Int} (h0 : 0 ≤ c) (h : c < 256) : IntKind.u8.wrap c = c := by
  unfold IntKind.wrap
  simp [IntKind.signed, IntKind.bits]
  omega
theorem idx_all {s : ByteArray} (hs : okR s) (E : Nat) : decide (Lib.idxFunc (notIn E) true s < 0) = allP E s := by
  rw [Bool.eq_iff_iff, decide_eq_true_eq]
  unfold Lib.idxFunc
  rw [idx_from hs _ _ _ (by omega)]
  unfold allP
  rw [List.all_eq_true]
  have key : ∀ i, notIn E (ch s i).toNat = !(isP (ch s i) && E.testBit (pn (ch s i))) := fun i => by
    have := ch_range s i
    unfold notIn
    rw [show (((ch s i).toNat : Nat) : Int) = ch s i by omega, u8_small this.1 this.2]
  refine ⟨fun q i hi => ?_, fun q i _ hi => ?_⟩
  · have := q i (Nat.zero_le _) (List.mem_range.1 hi)
    rw [key] at this
    simpa using this
  · rw [key, q i (List.mem_range.2 hi)]
    rfl
set_option maxHeartbeats 1000000 in
set_option maxRecDepth 100000 in
theorem none_calls (x E G : Nat) (w : World) (hE : E < 32) (hc : w.cell? ⟨G, 0, none⟩ = some (.int .i64 E)) :
    Calls Tryd.prog 98 #[.int .i32 x, .pointer (some ⟨G, 0, none⟩)] w fun e w' => e = .returned (.bool (notIn E x)) ∧ w' = w := by
  unfold notIn
  go_enter Tryd.func98, Tryd.ntmps98
  go_wp2_with fail
  refine (has_calls E _ w hE).mono ?_
  rintro r w1 ⟨rfl, rfl⟩
  have hw : IntKind.u8.wrap (x : Int) = (x : Int) % 256 := by
    unfold IntKind.wrap
    simp [IntKind.signed, IntKind.bits]
  go_wp2
  go_ret
  refine ⟨ret_bool ?_, rfl⟩
  rw [hw, Bool.not_and]
set_option maxHeartbeats 1000000 in
set_option maxRecDepth 100000 in
theorem allP_calls (s : ByteArray) (E : Nat) (w : World) (hE : E < 32) (hs : okR s) :
    Calls Tryd.prog 97 #[.string s, .int .i64 E] w fun e w' => e = .returned (.bool (allP E s)) ∧ Below w.heap.size w w' := by
  have hi := idx_all hs E
  go_enter Tryd.func97, Tryd.ntmps97
  go_wp2_with fail
  have hb := below_one (w := w) (.cells #[.int .i64 E] 3)
  have hc : (w.alloc (.cells #[.int .i64 E] 3)).cell? ⟨w.heap.size, 0, none⟩ = some (.int .i64 E) := by simp
  have hl : w.heap.size < (w.alloc (.cells #[.int .i64 E] 3)).heap.size := by simp
  have hp : PredAt Tryd.prog 98 #[.pointer (some ⟨w.heap.size, 0, none⟩)] encR (notIn E) (w.alloc (.cells #[.int .i64 E] 3)) := fun W x hW => by
    refine (none_calls x E w.heap.size W hE ((hW.cell (p := ⟨w.heap.size, 0, none⟩) hl).trans hc)).mono ?_
    rintro e w' ⟨rfl, rfl⟩
    exact ⟨rfl, 0, rfl⟩
  refine (Tryd.strings_IndexFunc 98 _ (fun args w => enters_ Tryd.func98 (by kernel_rfl) rfl args w) (notIn E) s _ hp).mono ?_
  rintro e w1 ⟨rfl, hb1⟩
  have HB := Lib.hid (hb.trans (hb1.mono hb.size))
  clear hb hc hl hp hb1
  go_wp2
  go_ret
  first | exact ⟨rfl, HB.out⟩ | exact ⟨ret_bool hi, HB.out⟩
theorem and_bit (e j : Nat) : e &&& 2 ^ j = if e.testBit j = true then 2 ^ j else 0 := by
  refine Nat.eq_of_testBit_eq fun i => ?_
  rw [Nat.testBit_and, Nat.testBit_two_pow]
  split
  · rename_i h
    rw [Nat.testBit_two_pow]
    by_cases q : j = i
    · subst q
      rw [h]
      simp
    · simp [q]
  · rename_i h
    rw [Nat.zero_testBit]
    by_cases q : j = i
    · subst q
      rw [Bool.eq_false_iff.2 h]
      rfl
    · simp [q]
theorem bit_pow {e j : Nat} (he : e < 32) (hj : j ≤ 4) : (bits .and .i64 (e : Int) (wrap64 (2 ^ j)) == 0) = !e.testBit j := by
  rw [pow_small hj, and_nat (lt62 he) (lt62 (pow_lt32 hj)), and_bit]
  have hp := Nat.two_pow_pos j
  cases e.testBit j with
  | true =>
    rw [if_pos rfl, Bool.not_true, beq_eq_false_iff_ne]
    intro q
    have : 2 ^ j = 0 := by exact_mod_cast q
    omega
  | false =>
    rw [if_neg (by decide)]
    rfl
theorem or_bit {e j : Nat} (h : e.testBit j = true) : e ||| 2 ^ j = e := by
  refine Nat.eq_of_testBit_eq fun i => ?_
  rw [Nat.testBit_or, Nat.testBit_two_pow]
  by_cases q : j = i
  · subst q
    rw [h]
    rfl
  · simp [q]
theorem pc_bit {e j : Nat} (he : e < 32) (hj : j ≤ 4) (h : e.testBit j = false) : pc e < pc (e ||| 2 ^ j) := by
  have h1 := pc_mono e (2 ^ j)
  by_cases q : pc e = pc (e ||| 2 ^ j)
  · have := pc_eq he (pow_lt32 hj) q
    have h2 : (e ||| 2 ^ j).testBit j = true := by rw [Nat.testBit_or, Nat.testBit_two_pow_self, Bool.or_true]
    rw [this, h] at h2
    cases h2
  · omega
end Go.Proofs.YtjpfalanoifpbaaDoor.X
end

section
set_option linter.unusedVariables false
set_option linter.unusedSimpArgs false
namespace Go.Proofs.YtjpfalanoifpbaaDoor.X
open Go.RowKit Go.Proofs.YtjpfalanoifpbaaDoorW.PrintWords Go.Proofs.YtjpfalanoifpbaaDoorW.PrintLast Go.Proofs.YtjpfalanoifpbaaDoorW.PrintMore Go.Proofs.YtjpfalanoifpbaaDoor.T
def lack (again set : Value) : Nat := match again, set with
  | .bool true, .int _ e => 6 - pc e.toNat
  | _, _ => 0
set_option maxHeartbeats 8000000 in
set_option maxRecDepth 100000 in
theorem grown_calls (A : Option Addr) (n c : Nat) (L : Nat → Int) (R : Nat → ByteArray) (w : World) (hA : Sr w A n c L R) (hg : Gr L R n) :
    Calls Tryd.prog 96 #[.slice A n c, .func (.func 97) #[] #[]] w fun e w' => e = .returned (.int .i64 (emptyN L R n : Nat)) ∧ Below w.heap.size w w' := by
  obtain ⟨b, off, rfl, hnc, hP⟩ := hA.open hg.n1
  have HP := Lib.hid hP
  have HG := Lib.hid hg
  have hn8 := hg.n8
  clear hA hP hg
  go_enter Tryd.func96, Tryd.ntmps96
  go_wp2_with fail
  have HB := Lib.hid (Below.refl w.heap.size w)
  go_loopw [6, 5] (fun a v wr => ∃ (m : Nat) (g : Bool), a = .bool g ∧ v = .int .i64 (rep (fun e => eTo L R e n) m 0 : Nat) ∧ Hid (g = false → eTo L R (rep (fun e => eTo L R e n) m 0) n = rep (fun e => eTo L R e n) m 0) ∧ Hid (Below w.heap.size w wr)) (fun a v _ => lack a v)
  case atStart => exact ⟨0, true, rfl, rfl, Lib.hid (fun h => by cases h), HB⟩
  case round =>
    clear HB
    obtain ⟨m, g, rfl, rfl, HZ, HB⟩ := hrel
    obtain ⟨e0, he0⟩ : ∃ e0, rep (fun e => eTo L R e n) m 0 = e0 := ⟨_, rfl⟩
    have hel : e0 < 32 := by rw [← he0]; exact empty_lt HG.out.ok m
    cases g with
    | true =>
      rw [he0]
      have HE0 := Lib.hid he0
      clear he0 HZ
      go_wp2_with fail
      go_loopw [13, 6, 5] (fun i a v wr => ∃ (k : Nat) (g : Bool), k ≤ n ∧ i = .int .i64 k ∧ a = .bool g ∧ v = .int .i64 (eTo L R e0 k : Nat) ∧ Hid (if g = true then pc e0 < pc (eTo L R e0 k) else eTo L R e0 k = e0) ∧ Hid (Below w.heap.size w wr)) (fun i _ _ _ => n - (intOf i).toNat)
      case atStart => exact ⟨0, false, by omega, rfl, rfl, rfl, Lib.hid rfl, HB⟩
      case round =>
        clear HB
        obtain ⟨k, g, hk, rfl, rfl, rfl, HM, HB⟩ := hrel
        by_cases hkn : k < n
        · have c0 := (HP.out.later HB.out).c0 k hkn
          have c1 := (HP.out.later HB.out).c1 k hkn
          obtain ⟨e1, he1⟩ : ∃ e1, eTo L R e0 k = e1 := ⟨_, rfl⟩
          have he1l : e1 < 32 := by rw [← he1]; exact eTo_lt HG.out.ok hel k hk
          rw [he1] at HM ⊢
          obtain ⟨l, hl⟩ : ∃ l, L k = l := ⟨_, rfl⟩
          obtain ⟨s, hs⟩ : ∃ s, R k = s := ⟨_, rfl⟩
          have hlp : isP l = true := by rw [← hl]; exact (HG.out.ok k hkn).1
          have HOK : Hid (okR s) := Lib.hid (by rw [← hs]; exact (HG.out.ok k hkn).2)
          have HS1 : Hid (eTo L R e0 (k + 1) = if allP e1 s = true then e1 ||| 2 ^ pn l else e1) := Lib.hid (by rw [eTo, he1, hl, hs])
          rw [hl] at c0
          rw [hs] at c1
          have hkc : k < c := by omega
          have h5 := isP_iff.1 hlp
          obtain ⟨j, rfl⟩ : ∃ j : Nat, l = (j : Int) + 65 := ⟨(l - 65).toNat, by omega⟩
          have hj : j ≤ 4 := by omega
          rw [show pn ((j : Int) + 65) = j by unfold pn; omega] at HS1
          have HEND : Hid ((k + 1 ≤ n) ∧ n - (intOf (.int .i64 ((k : Int) + 1))).toNat < n - (intOf (.int .i64 (k : Int))).toNat) := Lib.hid ⟨by omega, by simp [intOf]; omega⟩
          have hu := u8_part hj
          have hbp := bit_pow he1l hj
          have ho := or_pow he1l hj
          have HPC := Lib.hid (pc_bit he1l hj)
          have HPM := Lib.hid (pc_mono e1 (2 ^ j))
          have HBA := Lib.hid (HB.out.trans ((below_one (w := wr) (.cells #[.int .u8 ((j : Int) + 65), .string s] 60)).mono HB.out.size))
          clear hl hs he1
          cases ht : e1.testBit j with
          | true =>
            have HS2 : Hid (eTo L R e0 (k + 1) = e1) := Lib.hid (by
              rw [HS1.out, or_bit ht]
              split <;> rfl)
            rw [ht, Bool.not_true] at hbp
            clear ht
            go_wp2_with fail
            refine ⟨⟨k + 1, g, HEND.out.1, by go_num, by first | rfl | trivial, ?_, ?_, HBA⟩, ?_⟩
            · rw [HS2.out]
            · rw [HS2.out]
              exact HM
            · simpa using HEND.out.2
          | false =>
            rw [ht, Bool.not_false] at hbp
            have HT := Lib.hid ht
            clear ht
            go_wp2_with fail
            refine (allP_calls s e1 _ he1l HOK.out).mono ?_
            rintro r w2 ⟨rfl, hb2⟩
            have HB2 := Lib.hid (HBA.out.trans (hb2.mono HBA.out.size))
            clear hb2
            cases ha : allP e1 s with
            | true =>
              have HS2 : Hid (eTo L R e0 (k + 1) = e1 ||| 2 ^ j) := Lib.hid (by rw [HS1.out, if_pos ha])
              clear ha
              go_wp2_with fail
              refine ⟨⟨k + 1, true, HEND.out.1, by go_num, by first | rfl | trivial, ?_, ?_, HB2⟩, ?_⟩
              · rw [HS2.out]
              · rw [HS2.out]
                refine Lib.hid ?_
                rw [if_pos rfl]
                have h1 := HM.out
                have h2 := HPC.out HT.out
                cases g with
                | true =>
                  rw [if_pos rfl] at h1
                  omega
                | false =>
                  rw [if_neg (by decide)] at h1
                  rw [h1] at h2
                  rw [h1]
                  exact h2
              · simpa using HEND.out.2
            | false =>
              have HS2 : Hid (eTo L R e0 (k + 1) = e1) := Lib.hid (by rw [HS1.out, if_neg (by rw [ha]; decide)])
              clear ha
              go_wp2_with fail
              refine ⟨⟨k + 1, g, HEND.out.1, by go_num, by first | rfl | trivial, ?_, ?_, HB2⟩, ?_⟩
              · rw [HS2.out]
              · rw [HS2.out]
                exact HM
              · simpa using HEND.out.2
        · obtain rfl : k = n := by omega
          have HLK : Hid (lack (.bool g) (.int .i64 (eTo L R e0 k : Nat)) < lack (.bool true) (.int .i64 (e0 : Nat))) := Lib.hid (by
            have h1 := HM.out
            have h2 := pc_le (eTo L R e0 k)
            have h3 := pc_le e0
            cases g with
            | true =>
              rw [if_pos rfl] at h1
              show 6 - pc ((eTo L R e0 k : Nat) : Int).toNat < 6 - pc ((e0 : Nat) : Int).toNat
              rw [Int.toNat_natCast, Int.toNat_natCast]
              omega
            | false =>
              show 0 < 6 - pc ((e0 : Nat) : Int).toNat
              rw [Int.toNat_natCast]
              omega)
          go_wp2_with fail
          refine ⟨⟨m + 1, g, rfl, ?_, Lib.hid (fun hg2 => ?_), HB⟩, HLK.out⟩
          · rw [rep, HE0.out]
          · have h1 := HM.out
            rw [hg2, if_neg (by decide)] at h1
            rw [rep, HE0.out, h1]
            exact h1
    | false =>
      have he := empty_end HG.out.ok (HZ.out rfl)
      rw [he]
      clear HZ he0
      go_wp2
      go_ret
      exact ⟨rfl, HB.out⟩
set_option maxHeartbeats 1000000 in
set_option maxRecDepth 100000 in
theorem empty_calls (A : Option Addr) (n c : Nat) (L : Nat → Int) (R : Nat → ByteArray) (w : World) (hA : Sr w A n c L R) (hg : Gr L R n) :
    Calls Tryd.prog 61 #[.slice A n c] w fun e w' => e = .returned (.int .i64 (emptyN L R n : Nat)) ∧ Below w.heap.size w w' := by
  have HC := Lib.hid (grown_calls A n c L R w hA hg)
  clear hA hg
  go_enter Tryd.func61, Tryd.ntmps61
  go_wp2_with fail
  refine HC.out.mono ?_
  rintro e w1 ⟨rfl, hb⟩
  have HB := Lib.hid hb
  clear hb
  go_wp2
  go_ret
  exact ⟨rfl, HB.out⟩
end Go.Proofs.YtjpfalanoifpbaaDoor.X
end

section
set_option linter.unusedVariables false
set_option linter.unusedSimpArgs false
namespace Go.Proofs.YtjpfalanoifpbaaDoor.X
open Go.RowKit Go.Proofs.YtjpfalanoifpbaaDoorW.PrintWords Go.Proofs.YtjpfalanoifpbaaDoorW.PrintLast Go.Proofs.YtjpfalanoifpbaaDoorW.PrintMore Go.Proofs.YtjpfalanoifpbaaDoor.T
set_option maxHeartbeats 8000000 in
set_option maxRecDepth 100000 in
theorem first_calls (A : Option Addr) (n c : Nat) (L : Nat → Int) (R : Nat → ByteArray) (w : World) (hA : Sr w A n c L R) (hg : Gr L R n) :
    Calls Tryd.prog 59 #[.slice A n c] w fun e w' => e = .returned (agg5 (firstN L R n)) ∧ Below w.heap.size w w' := by
  obtain ⟨b, off, rfl, hnc, hP⟩ := hA.open hg.n1
  have HP := Lib.hid hP
  have HA := Lib.hid hA
  have HG := Lib.hid hg
  have hn8 := hg.n8
  clear hA hP hg
  go_enter Tryd.func59, Tryd.ntmps59
  go_wp2_with fail
  obtain ⟨w0, hw0⟩ : ∃ w0, w0 = (w.alloc (.cells (cells5 fun _ => 0) 89)).alloc (.cells (cells5 fun _ => 0) 89) := ⟨_, rfl⟩
  have hb0 : Below w.heap.size w w0 := by rw [hw0]; exact (below_one _).trans ((below_one _).mono (by simp))
  have hk3 : w0.heap[w.heap.size + 1]? = some (.cells (cells5 fun _ => 0) 89 (0, 0)) := by
    rw [hw0, show w.heap.size + 1 = (w.alloc (.cells (cells5 fun _ => 0) 89)).heap.size by simp]
    exact blk_new _ _
  have hk2 : w0.heap[w.heap.size]? = some (.cells (cells5 fun _ => 0) 89 (0, 0)) := by
    rw [hw0]
    exact ((below_one _).block w.heap.size (by simp)).trans (blk_new w _)
  unfold cells5 at hw0
  rw [show ((0 : Nat) : Int) = 0 from rfl] at hw0
  rw [← hw0]
  refine (empty_calls _ n c L R w0 (HA.out.later hb0) HG.out).mono ?_
  rintro e w1 ⟨rfl, hb1⟩
  obtain ⟨E, hE⟩ : ∃ E, emptyN L R n = E := ⟨_, rfl⟩
  have hE32 : E < 32 := by rw [← hE]; exact empty_lt HG.out.ok 5
  rw [hE]
  have HE := Lib.hid hE
  have HB := Lib.hid (hb0.trans (hb1.mono hb0.size))
  have H3 : Hid (w1.heap[w.heap.size + 1]? = some (.cells (cells5 (rep (fun F => fTo L R E F n) 0 fun _ => 0)) 89 (0, 0))) := Lib.hid ((hb1.block _ (Array.getElem?_eq_some_iff.1 hk3).1).trans hk3)
  have H2 := Lib.hid ((hb1.block _ (Array.getElem?_eq_some_iff.1 hk2).1).trans hk2)
  have HL : Hid (w.heap.size + 1 < w1.heap.size) := Lib.hid (Nat.lt_of_lt_of_le (Array.getElem?_eq_some_iff.1 hk3).1 hb1.size)
  clear hE hb0 hb1 hk2 hk3 hw0
  generalize hG : w.heap.size = G at H2 H3 HL ⊢
  go_wp2_with fail
  go_loopw [11] (fun i wr => ∃ m : Nat, m ≤ 25 ∧ i = .int .i64 m ∧ Hid (wr.heap[G + 1]? = some (.cells (cells5 (rep (fun F => fTo L R E F n) m fun _ => 0)) 89 (0, 0))) ∧ Hid (wr.heap[G]? = some (.cells (cells5 fun _ => 0) 89 (0, 0))) ∧ Hid (Below w.heap.size w wr)) (fun i _ => 25 - (intOf i).toNat)
  case atStart => exact ⟨0, by omega, rfl, H3, H2, HB⟩
  case round =>
    clear HB H3 H2
    obtain ⟨m, hm, rfl, H3, H2, HB⟩ := hrel
    by_cases hlt : m < 25
    · have hltI : (m : Int) < 25 := by omega
      obtain ⟨F0, hF0⟩ : ∃ F0, rep (fun F => fTo L R E F n) m (fun _ => 0) = F0 := ⟨_, rfl⟩
      have five0 : Five F0 := by rw [← hF0, ← HE.out]; exact first_five HG.out.ok m
      rw [hF0] at H3
      have HF0 := Lib.hid hF0
      have HV0 := Lib.hid five0
      clear hF0 five0
      go_wp2_with fail
      go_loopw [15] (fun i wr => ∃ k : Nat, k ≤ n ∧ i = .int .i64 k ∧ Hid (wr.heap[G + 1]? = some (.cells (cells5 (fTo L R E F0 k)) 89 (0, 0))) ∧ Hid (wr.heap[G]? = some (.cells (cells5 fun _ => 0) 89 (0, 0))) ∧ Hid (Below w.heap.size w wr)) (fun i _ => n - (intOf i).toNat)
      case atStart => exact ⟨0, by omega, rfl, H3, H2, HB⟩
      case round =>
        clear HB H3 H2
        obtain ⟨k, hk, rfl, H3, H2, HB⟩ := hrel
        by_cases hkn : k < n
        · have c0 := (HP.out.later HB.out).c0 k hkn
          have c1 := (HP.out.later HB.out).c1 k hkn
          obtain ⟨F1, hF1⟩ : ∃ F1, fTo L R E F0 k = F1 := ⟨_, rfl⟩
          have five1 : Five F1 := by rw [← hF1]; exact fTo_five HG.out.ok E HV0.out k hk
          rw [hF1] at H3
          obtain ⟨l, hl⟩ : ∃ l, L k = l := ⟨_, rfl⟩
          obtain ⟨s, hs⟩ : ∃ s, R k = s := ⟨_, rfl⟩
          have hsz : s.size ≤ 4 := by rw [← hs]; exact HG.out.sz k hkn
          have hlp : isP l = true := by rw [← hl]; exact (HG.out.ok k hkn).1
          have HOK : Hid (okR s) := Lib.hid (by rw [← hs]; exact (HG.out.ok k hkn).2)
          have HFK : Hid (fTo L R E F0 (k + 1) = upd F1 (pn l) (beg F1 E s 0 0).1) := Lib.hid (by rw [fTo, hF1, hl, hs])
          rw [hl] at c0
          rw [hs] at c1
          have hkc : k < c := by omega
          have HV1 := Lib.hid five1
          clear hl hs hF1 five1
          have hbA := below_one (w := wr) (.cells #[.int .u8 l, .string s] 60)
          obtain ⟨d0, d1⟩ := rule_new wr 60 l s
          have h3A := (hbA.block _ (Array.getElem?_eq_some_iff.1 H3.out).1).trans H3.out
          have f0 := five_at h3A (show 0 < 5 by decide)
          have f1 := five_at h3A (show 1 < 5 by decide)
          have f2 := five_at h3A (show 2 < 5 by decide)
          have f3 := five_at h3A (show 3 < 5 by decide)
          have f4 := five_at h3A (show 4 < 5 by decide)
          have HBA := Lib.hid (HB.out.trans (hbA.mono HB.out.size))
          have H3A := Lib.hid h3A
          have H2A := Lib.hid ((hbA.block _ (Array.getElem?_eq_some_iff.1 H2.out).1).trans H2.out)
          have HD := Lib.hid (And.intro d0 d1)
          have HLT := Lib.hid (show wr.heap.size < (wr.alloc (.cells #[.int .u8 l, .string s] 60)).heap.size by simp)
          clear hbA h3A H3 H2 HB d0 d1
          go_wp2_with fail
          refine (begins_calls F1 s E _ HV1.out.1 hE32 HOK.out (by omega)).mono ?_
          rintro e w2 ⟨rfl, hb2⟩
          have hbl := beg_lt HV1.out.1 E HOK.out 0 0 (by decide)
          obtain ⟨B, hB⟩ : ∃ B, beg F1 E s 0 0 = B := ⟨_, rfl⟩
          rw [hB] at hbl HFK ⊢
          have h5 := isP_iff.1 hlp
          obtain ⟨j, rfl⟩ : ∃ j : Nat, l = (j : Int) + 65 := ⟨(l - 65).toNat, by omega⟩
          have hj : j ≤ 4 := by omega
          have hj5 : j < 5 := by omega
          have e1 : IntKind.u8.wrap ((j : Int) + 65 - 65) = (j : Int) := by
            unfold IntKind.wrap
            simp [IntKind.signed, IntKind.bits]
            omega
          have hpn : pn ((j : Int) + 65) = j := by unfold pn; omega
          rw [hpn] at HFK
          have h3 := (hb2.block _ (Array.getElem?_eq_some_iff.1 H3A.out).1).trans H3A.out
          have g0 := five_at h3 hj5
          have g1 := blk_frozen h3 j
          have hd0 := (hb2.cell (p := ⟨wr.heap.size, 0, none⟩) HLT.out).trans HD.out.1
          have H3B := Lib.hid h3
          have H2B := Lib.hid ((hb2.block _ (Array.getElem?_eq_some_iff.1 H2A.out).1).trans H2A.out)
          have HB2 := Lib.hid (HBA.out.trans (hb2.mono HBA.out.size))
          have ho : bits .or .i64 (F1 j : Int) (B.1 : Int) = ((F1 j ||| B.1 : Nat) : Int) := or_nat (lt62 (HV1.out.1 j)) (lt62 hbl)
          clear hB hpn h3 hb2 f0 f1 f2 f3 f4 H3A H2A HBA HD
          go_wp2_with fail
          refine ⟨⟨k + 1, by omega, by go_num, Lib.hid ?_, Lib.hid ?_, Lib.hid (HB2.out.setCell (p := ⟨G + 1, j, none⟩) (by rw [hG]; exact Nat.le_succ _) _)⟩, by simp [intOf]; omega⟩
          · rw [HFK.out]
            exact five_set H3B.out hj5
          · exact (Below.heap_setCell w2 ⟨G + 1, j, none⟩ _ G (by simp)).trans H2B.out
        · obtain rfl : k = n := by omega
          go_wp2_with fail
          refine ⟨⟨m + 1, by omega, by go_num, ?_, H2, HB⟩, by simp [intOf]; omega⟩
          rw [rep, HF0.out]
          exact H3
    · obtain rfl : m = 25 := by omega
      obtain ⟨F, hF⟩ : ∃ F, rep (fun F => fTo L R E F n) 25 (fun _ => 0) = F := ⟨_, rfl⟩
      rw [hF] at H3
      have HFF : Hid (firstN L R n = F) := Lib.hid (by rw [← hF, ← HE.out]; rfl)
      have f0 := five_at H3.out (show 0 < 5 by decide)
      have f1 := five_at H3.out (show 1 < 5 by decide)
      have f2 := five_at H3.out (show 2 < 5 by decide)
      have f3 := five_at H3.out (show 3 < 5 by decide)
      have f4 := five_at H3.out (show 4 < 5 by decide)
      have g0 := five_at H2.out (show 0 < 5 by decide)
      have g1 := five_at H2.out (show 1 < 5 by decide)
      have g2 := five_at H2.out (show 2 < 5 by decide)
      have g3 := five_at H2.out (show 3 < 5 by decide)
      have g4 := five_at H2.out (show 4 < 5 by decide)
      have z0 := blk_frozen H2.out 0
      have z1 := blk_frozen H2.out 1
      have z2 := blk_frozen H2.out 2
      have z3 := blk_frozen H2.out 3
      have z4 := blk_frozen H2.out 4
      clear hF
      go_wp2
      (try simp only [Exit.inBlock, Exit.then])
      refine bodyPost_ret (v := agg5 F) (results_cell_row rfl _ _ G 89 (cells5 F) (0, 0) _ rfl (five_fill H2.out) Tryd.underlying89 rfl (by kernel_rfl)) rfl ⟨by rw [HFF.out], ?_⟩
      refine fill_below HB.out ?_
      rw [hG]
      exact Nat.le_refl _
end Go.Proofs.YtjpfalanoifpbaaDoor.X
end

section
set_option linter.unusedVariables false
set_option linter.unusedSimpArgs false
namespace Go.Proofs.YtjpfalanoifpbaaDoor.X
open Go.RowKit Go.Proofs.YtjpfalanoifpbaaDoorW.PrintWords Go.Proofs.YtjpfalanoifpbaaDoorW.PrintLast Go.Proofs.YtjpfalanoifpbaaDoorW.PrintMore Go.Proofs.YtjpfalanoifpbaaDoor.T
theorem bytes_set {w : World} {g h n : Nat} {s : ByteArray} (hb : ∀ i, i < n → w.cell? ⟨g, i, none⟩ = some (.int .u8 (ch s i))) (hne : g ≠ h) (j : Nat) (v : Value) : ∀ i, i < n → (w.setCell ⟨h, j, none⟩ v).cell? ⟨g, i, none⟩ = some (.int .u8 (ch s i)) :=
  fun i hi => (cell_set_other v hne).trans (hb i hi)
theorem bytes_later {w w' : World} {g n : Nat} {s : ByteArray} (hb : ∀ i, i < n → w.cell? ⟨g, i, none⟩ = some (.int .u8 (ch s i))) (h : Below w.heap.size w w') : ∀ i, i < n → w'.cell? ⟨g, i, none⟩ = some (.int .u8 (ch s i)) :=
  fun i hi => (h.cell (p := ⟨g, i, none⟩) (World.block_lt_of_cell? _ _ (hb i hi))).trans (hb i hi)
set_option maxHeartbeats 16000000 in
set_option maxRecDepth 100000 in
theorem next_calls (A : Option Addr) (n c : Nat) (L : Nat → Int) (R : Nat → ByteArray) (w : World) (hA : Sr w A n c L R) (hg : Gr L R n) :
    Calls Tryd.prog 60 #[.slice A n c] w fun e w' => e = .returned (agg5 (nextN L R n 25)) ∧ Below w.heap.size w w' := by
  obtain ⟨b, off, rfl, hnc, hP⟩ := hA.open hg.n1
  have HP := Lib.hid hP
  have HA := Lib.hid hA
  have HG := Lib.hid hg
  have hn8 := hg.n8
  have hn1 := hg.n1
  clear hA hP hg
  go_enter Tryd.func60, Tryd.ntmps60
  go_wp2_with fail
  obtain ⟨w0, hw0⟩ : ∃ w0, w0 = (w.alloc (.cells (cells5 fun _ => 0) 89)).alloc (.cells (cells5 fun _ => 0) 89) := ⟨_, rfl⟩
  have hb0 : Below w.heap.size w w0 := by rw [hw0]; exact (below_one _).trans ((below_one _).mono (by simp))
  have hko : w0.heap[w.heap.size + 1]? = some (.cells (cells5 fun _ => 0) 89 (0, 0)) := by
    rw [hw0, show w.heap.size + 1 = (w.alloc (.cells (cells5 fun _ => 0) 89)).heap.size by simp]
    exact blk_new _ _
  have hk2 : w0.heap[w.heap.size]? = some (.cells (cells5 fun _ => 0) 89 (0, 0)) := by
    rw [hw0]
    exact ((below_one _).block w.heap.size (by simp)).trans (blk_new w _)
  unfold cells5 at hw0
  rw [show ((0 : Nat) : Int) = 0 from rfl] at hw0
  rw [← hw0]
  refine (first_calls _ n c L R w0 (HA.out.later hb0) HG.out).mono ?_
  rintro e w1 ⟨rfl, hb1⟩
  have HB1 := Lib.hid (hb0.trans (hb1.mono hb0.size))
  have HK1 := Lib.hid ((hb1.block _ (Array.getElem?_eq_some_iff.1 hk2).1).trans hk2)
  have HO1 := Lib.hid ((hb1.block _ (Array.getElem?_eq_some_iff.1 hko).1).trans hko)
  clear hw0 hb0 hk2 hko hb1
  obtain ⟨Fst, hFst⟩ : ∃ Fst, firstN L R n = Fst := ⟨_, rfl⟩
  have fiveF : Five Fst := by rw [← hFst]; exact first_five HG.out.ok 25
  rw [hFst]
  have HFst := Lib.hid hFst
  have HVF := Lib.hid fiveF
  clear hFst fiveF
  unfold agg5
  go_wp2_with fail
  refine (empty_calls _ n c L R w1 (HA.out.later HB1.out) HG.out).mono ?_
  rintro e w2 ⟨rfl, hb2⟩
  obtain ⟨E, hE⟩ : ∃ E, emptyN L R n = E := ⟨_, rfl⟩
  have hE32 : E < 32 := by rw [← hE]; exact empty_lt HG.out.ok 5
  rw [hE]
  have HE := Lib.hid hE
  have HB2 := Lib.hid (HB1.out.trans (hb2.mono HB1.out.size))
  have HK2 := Lib.hid ((hb2.block _ (Array.getElem?_eq_some_iff.1 HK1.out).1).trans HK1.out)
  have HO2 := Lib.hid ((hb2.block _ (Array.getElem?_eq_some_iff.1 HO1.out).1).trans HO1.out)
  clear hb2 HB1 HK1 HO1 hE
  go_upto_region 3 with fail
  obtain ⟨w3, hw3⟩ : ∃ w3, w3 = w2.alloc (.cells (cells5 Fst) 89) := ⟨_, rfl⟩
  have hb3 : Below w2.heap.size w2 w3 := by rw [hw3]; exact below_one _
  have hk5 : w3.heap[w.heap.size + 1]? = some (.cells (cells5 fun _ => 0) 89 (0, 0)) := (hb3.block _ (Array.getElem?_eq_some_iff.1 HO2.out).1).trans HO2.out
  have hk3 : w3.heap[w2.heap.size]? = some (.cells (cells5 Fst) 89 (0, 0)) := by
    rw [hw3]
    exact blk_new w2 _
  have HLT := Lib.hid (Array.getElem?_eq_some_iff.1 HO2.out).1
  have hk22 := (hb3.block _ (Array.getElem?_eq_some_iff.1 HK2.out).1).trans HK2.out
  have HB3 := Lib.hid (HB2.out.trans (hb3.mono HB2.out.size))
  have c0 := (HP.out.later HB3.out).c0 0 (by omega)
  obtain ⟨l0, hl0⟩ : ∃ l0, L 0 = l0 := ⟨_, rfl⟩
  have hl0p : isP l0 = true := by rw [← hl0]; exact (HG.out.ok 0 (by omega)).1
  rw [hl0] at c0
  have h50 := isP_iff.1 hl0p
  obtain ⟨j0, rfl⟩ : ∃ j : Nat, l0 = (j : Int) + 65 := ⟨(l0 - 65).toNat, by omega⟩
  have hj0 : j0 ≤ 4 := by omega
  have hj05 : j0 < 5 := by omega
  have e10 := u8_part hj0
  have HST : Hid (start16 L = fun i => if i = j0 then 16 else 0) := Lib.hid (by
    unfold start16
    rw [hl0, show pn ((j0 : Int) + 65) = j0 by unfold pn; omega])
  have g0 := five_at hk5 hj05
  have g1 := blk_frozen hk5 j0
  have hc0 : 0 < c := by omega
  simp only [Nat.zero_mul, Nat.add_zero] at c0
  unfold cells5 at hw3
  rw [← hw3]
  clear hw3
  have HS5 : Hid (NxS 89 w w.heap.size w2.heap.size (w.heap.size + 1) Fst (rep (fun F => nTo L R Fst E F n) 0 (start16 L)) (w3.setCell ⟨w.heap.size + 1, j0, none⟩ (.int .i64 16))) := Lib.hid (by
    have hlt := HLT.out
    refine ⟨(Below.heap_setCell w3 ⟨w.heap.size + 1, j0, none⟩ _ w.heap.size (by simp)).trans hk22, (Below.heap_setCell w3 ⟨w.heap.size + 1, j0, none⟩ _ w2.heap.size (by simp; omega)).trans hk3, ?_, HB3.out.setCell (p := ⟨w.heap.size + 1, j0, none⟩) (by simp) _⟩
    rw [rep, HST.out]
    exact five_start hk5 hj05)
  clear hl0 hl0p hb3 hk3 hk22 HB2 HK2 HO2
  go_wp2_with fail
  have HL3 := Lib.hid (And.intro (show w.heap.size ≠ w.heap.size + 1 by omega) (And.intro (show w2.heap.size ≠ w.heap.size + 1 by have := HLT.out; omega) (show w.heap.size ≤ w.heap.size + 1 by omega)))
  clear c0 g0 g1 hk5 HB3 HST
  go_loopw [22] (fun i wr => ∃ m : Nat, m ≤ 25 ∧ i = .int .i64 m ∧ Hid (NxS 89 w w.heap.size w2.heap.size (w.heap.size + 1) Fst (rep (fun F => nTo L R Fst E F n) m (start16 L)) wr)) (fun i _ => 25 - (intOf i).toNat)
  case atStart => exact ⟨0, by omega, rfl, HS5⟩
  case round =>
    clear HS5
    obtain ⟨m, hm, rfl, HS⟩ := hrel
    by_cases hlt : m < 25
    · have hltI : (m : Int) < 25 := by omega
      obtain ⟨N0, hN0⟩ : ∃ N0, rep (fun F => nTo L R Fst E F n) m (start16 L) = N0 := ⟨_, rfl⟩
      have five0 : Five N0 := by rw [← hN0, ← HFst.out, ← HE.out]; exact next_five HG.out.ok hn1 m
      rw [hN0] at HS
      have HN0 := Lib.hid hN0
      have HV0 := Lib.hid five0
      clear hN0 five0
      go_wp2_with fail
      go_loopw [26] (fun i wr => ∃ k : Nat, k ≤ n ∧ i = .int .i64 k ∧ Hid (NxS 89 w w.heap.size w2.heap.size (w.heap.size + 1) Fst (nTo L R Fst E N0 k) wr)) (fun i _ => n - (intOf i).toNat)
      case atStart => exact ⟨0, by omega, rfl, HS⟩
      case round =>
        clear HS
        obtain ⟨k, hk, rfl, HS⟩ := hrel
        by_cases hkn : k < n
        · have c0 := (HP.out.later HS.out.bl).c0 k hkn
          have c1 := (HP.out.later HS.out.bl).c1 k hkn
          obtain ⟨N1, hN1⟩ : ∃ N1, nTo L R Fst E N0 k = N1 := ⟨_, rfl⟩
          have five1 : Five N1 := by rw [← hN1]; exact (nTo_five HG.out.ok HVF.out E HV0.out k hk).1
          rw [hN1] at HS
          obtain ⟨l, hl⟩ : ∃ l, L k = l := ⟨_, rfl⟩
          obtain ⟨s, hs⟩ : ∃ s, R k = s := ⟨_, rfl⟩
          have hsz : s.size ≤ 4 := by rw [← hs]; exact HG.out.sz k hkn
          have hlp : isP l = true := by rw [← hl]; exact (HG.out.ok k hkn).1
          have HOK : Hid (okR s) := Lib.hid (by rw [← hs]; exact (HG.out.ok k hkn).2)
          have HNK : Hid (nTo L R Fst E N0 (k + 1) = nIn Fst E l s N1 s.size) := Lib.hid (by rw [nTo, hN1, hl, hs])
          rw [hl] at c0
          rw [hs] at c1
          have hkc : k < c := by omega
          have HV1 := Lib.hid five1
          clear hl hs hN1 five1
          obtain ⟨wo, rfl⟩ : ∃ wo : World, wo = wr := ⟨_, rfl⟩
          have hcv := fun (w : World) => Lib.run_convert_string_bytes (P := Tryd.prog) w 9 74 5 s Tryd.underlying9 Tryd.underlying74 Tryd.underlying5
          go_wp2_with fail
          have hbA := below_one (w := wo) (.cells #[.int .u8 l, .string s] 60)
          have hkA := blk_new wo (.cells #[.int .u8 l, .string s] 60)
          have HNE : Hid (wo.heap.size ≠ w.heap.size + 1 ∧ wo.heap.size + 1 ≠ w.heap.size + 1) := Lib.hid (by have := (Array.getElem?_eq_some_iff.1 HS.out.h5).1; omega)
          obtain ⟨hby, hbB, -⟩ := bytes_world (wo.alloc (.cells #[.int .u8 l, .string s] 60)) s
          rw [show (wo.alloc (.cells #[.int .u8 l, .string s] 60)).heap.size = wo.heap.size + 1 by simp] at hby
          have hbC := hbA.trans (hbB.mono hbA.size)
          have hkC := (hbB.block _ (Array.getElem?_eq_some_iff.1 hkA).1).trans hkA
          obtain ⟨w5, hw5⟩ : ∃ w5, w5 = Lib.bytesWorld (wo.alloc (.cells #[.int .u8 l, .string s] 60)) 5 s := ⟨_, rfl⟩
          rw [← hw5] at hby hbC hkC ⊢
          have HS5 : Hid (NxS 89 w w.heap.size w2.heap.size (w.heap.size + 1) Fst (nIn Fst E l s N1 0) w5) := Lib.hid (HS.out.later hbC)
          have HR5 := Lib.hid hkC
          have HY5 := Lib.hid hby
          clear hw5 hbA hkA hbB hbC hkC hby c0 c1 HS hcv
          go_loopw [34] (fun i wr => ∃ q : Nat, q ≤ s.size ∧ i = .int .i64 q ∧ Hid (NxS 89 w w.heap.size w2.heap.size (w.heap.size + 1) Fst (nIn Fst E l s N1 q) wr) ∧ Hid (wr.heap[wo.heap.size]? = some (.cells #[.int .u8 l, .string s] 60 (0, 0))) ∧ Hid (∀ i, i < s.size → wr.cell? ⟨wo.heap.size + 1, i, none⟩ = some (.int .u8 (ch s i)))) (fun i _ => s.size - (intOf i).toNat)
          case atStart => exact ⟨0, by omega, rfl, HS5, HR5, HY5⟩
          case round =>
            clear HS5 HR5 HY5
            obtain ⟨q, hq, rfl, HS, HR, HY⟩ := hrel
            by_cases hqs : q < s.size
            · have HQQ : Hid ((q : Int) + 1 ≤ s.size ∧ wrap64 ((q : Int) + 1) = (q : Int) + 1 ∧ (0 : Int) ≤ (q : Int) + 1) := Lib.hid ⟨by omega, by unfold wrap64; omega, by omega⟩
              have HEX : Hid ((s.extract (q + 1) s.size).size ≤ 1000) := Lib.hid (by rw [ByteArray.size_extract]; omega)
              have hbt := HY.out q hqs
              obtain ⟨x, hx⟩ : ∃ x, ch s q = x := ⟨_, rfl⟩
              rw [hx] at hbt
              have d0 := blk_cell HR.out 0
              have d1 := blk_cell HR.out 1
              simp at d0 d1
              have HX := Lib.hid hx
              clear hx
              go_wp2_with fail
              refine (isPart_calls x _).mono ?_
              rintro r w6 ⟨rfl, rfl⟩
              cases hp : isP x with
              | false =>
                have HSU : Hid (nIn Fst E l s N1 (q + 1) = nIn Fst E l s N1 q) := Lib.hid (by rw [nIn, HX.out, if_neg (by rw [hp]; decide)])
                clear hp
                go_wp2_with fail
                refine ⟨⟨q + 1, by omega, by go_num, ?_, HR, HY⟩, by simp [intOf]; omega⟩
                rw [HSU.out]
                exact HS
              | true =>
                obtain ⟨N2, hN2⟩ : ∃ N2, nIn Fst E l s N1 q = N2 := ⟨_, rfl⟩
                have five2 : Five N2 := by rw [← hN2]; exact (nIn_five HVF.out E hlp HOK.out HV1.out q hq).1
                have HSU : Hid (nIn Fst E l s N1 (q + 1) = upd N2 (pn x) (if (beg Fst E (s.extract (q + 1) s.size) 0 0).2 = true then (beg Fst E (s.extract (q + 1) s.size) 0 0).1 ||| N2 (pn l) else (beg Fst E (s.extract (q + 1) s.size) 0 0).1)) := Lib.hid (by rw [nIn, HX.out, if_pos hp, hN2])
                rw [hN2] at HS
                have HV2 := Lib.hid five2
                have h5 := isP_iff.1 hp
                have h6 := isP_iff.1 hlp
                obtain ⟨j, rfl⟩ : ∃ j : Nat, x = (j : Int) + 65 := ⟨(x - 65).toNat, by omega⟩
                obtain ⟨jl, rfl⟩ : ∃ j : Nat, l = (j : Int) + 65 := ⟨(l - 65).toNat, by omega⟩
                have hj : j ≤ 4 := by omega
                have hj5 : j < 5 := by omega
                have hjl : jl ≤ 4 := by omega
                have hjl5 : jl < 5 := by omega
                have e1 := u8_part hj
                have e2 := u8_part hjl
                rw [show pn ((j : Int) + 65) = j by unfold pn; omega, show pn ((jl : Int) + 65) = jl by unfold pn; omega] at HSU
                have f0 := five_at HS.out.h3 (show 0 < 5 by decide)
                have f1 := five_at HS.out.h3 (show 1 < 5 by decide)
                have f2 := five_at HS.out.h3 (show 2 < 5 by decide)
                have f3 := five_at HS.out.h3 (show 3 < 5 by decide)
                have f4 := five_at HS.out.h3 (show 4 < 5 by decide)
                clear hN2 five2 hp
                go_wp2_with fail
                obtain ⟨hle, hwq, hle0⟩ := HQQ.out
                refine start_ (n := 13) (S := fun w' => w'.cell? ⟨w2.heap.size, 0, none⟩ = some (.int .i64 (Fst 0)) ∧ w'.cell? ⟨w2.heap.size, 1, none⟩ = some (.int .i64 (Fst 1)) ∧ w'.cell? ⟨w2.heap.size, 2, none⟩ = some (.int .i64 (Fst 2)) ∧ w'.cell? ⟨w2.heap.size, 3, none⟩ = some (.int .i64 (Fst 3)) ∧ w'.cell? ⟨w2.heap.size, 4, none⟩ = some (.int .i64 (Fst 4)) ∧ w'.cell? ⟨wo.heap.size, 1, none⟩ = some (.string s)) (ds := [7]) #[false, false, false, false, false, false, false, false, false, false, false, false, false] (by kernel_rfl) rfl rfl ⟨by simpa using f0, by simpa using f1, by simpa using f2, by simpa using f3, by simpa using f4, by simpa using d1⟩ (fun hHeld => ?_)
                refine take_ (i := 0) (N := (some 43)) (v := ?_) (a' := ?_) #[true, false, false, false, false, false, false, false, false, false, false, false, false] rfl rfl (by kernel_rfl) (fun _ _ _ h => h) (Or.inl ⟨by rfl, ?_⟩) hHeld ?_ ?_
                rotate_left
                · rintro w' ⟨s0, s1, s2, s3, s4, s5⟩; go_simp; first | done | with_reducible rfl
                rotate_left
                · simp only [Act.put, List.setIfInBounds_toArray, List.set_cons_zero, List.set_cons_succ, i64_w, i32_w]; rfl
                refine pure_ (i := 1) (N := (some 44)) (v := ?_) (a' := ?_) #[true, true, false, false, false, false, false, false, false, false, false, false, false] rfl rfl (by kernel_rfl) (fun _ _ _ h => h) (Or.inl ⟨by rfl, ?_⟩) ?_ ?_
                rotate_left
                · intro w'; go_simp; first | done | with_reducible rfl
                rotate_left
                · simp only [Act.put, List.setIfInBounds_toArray, List.set_cons_zero, List.set_cons_succ, i64_w, i32_w]; rfl
                refine take_ (i := 2) (N := (some 45)) (v := ?_) (a' := ?_) #[true, true, true, false, false, false, false, false, false, false, false, false, false] rfl rfl (by kernel_rfl) (fun _ _ _ h => h) (Or.inl ⟨by rfl, ?_⟩) hHeld ?_ ?_
                rotate_left
                · rintro w' ⟨s0, s1, s2, s3, s4, s5⟩; go_simp; first | done | with_reducible rfl
                rotate_left
                · simp only [Act.put, List.setIfInBounds_toArray, List.set_cons_zero, List.set_cons_succ, i64_w, i32_w]; rfl
                refine pure_ (i := 3) (N := (some 46)) (v := ?_) (a' := ?_) #[true, true, true, true, false, false, false, false, false, false, false, false, false] rfl rfl (by kernel_rfl) (fun _ _ _ h => h) (Or.inl ⟨by rfl, ?_⟩) ?_ ?_
                rotate_left
                · intro w'; go_simp; first | done | with_reducible rfl
                rotate_left
                · simp only [Act.put, List.setIfInBounds_toArray, List.set_cons_zero, List.set_cons_succ, i64_w, i32_w]; rfl
                refine pure_ (i := 4) (N := (some 47)) (v := ?_) (a' := ?_) #[true, true, true, true, true, false, false, false, false, false, false, false, false] rfl rfl (by kernel_rfl) (fun _ _ _ h => h) (Or.inl ⟨by rfl, ?_⟩) ?_ ?_
                rotate_left
                · intro w'; go_simp; first | done | with_reducible rfl
                rotate_left
                · simp only [Act.put, List.setIfInBounds_toArray, List.set_cons_zero, List.set_cons_succ, i64_w, i32_w]; rfl
                refine pure_ (i := 5) (N := (some 48)) (v := ?_) (a' := ?_) #[true, true, true, true, true, true, false, false, false, false, false, false, false] rfl rfl (by kernel_rfl) (fun _ _ _ h => h) (Or.inl ⟨by rfl, ?_⟩) ?_ ?_
                rotate_left
                · intro w'; go_simp; first | done | with_reducible rfl
                rotate_left
                · simp only [Act.put, List.setIfInBounds_toArray, List.set_cons_zero, List.set_cons_succ, i64_w, i32_w]; rfl
                refine pure_ (i := 6) (N := (some 49)) (v := ?_) (a' := ?_) #[true, true, true, true, true, true, true, false, false, false, false, false, false] rfl rfl (by kernel_rfl) (fun _ _ _ h => h) (Or.inl ⟨by rfl, ?_⟩) ?_ ?_
                rotate_left
                · intro w'; go_simp; first | done | with_reducible rfl
                rotate_left
                · simp only [Act.put, List.setIfInBounds_toArray, List.set_cons_zero, List.set_cons_succ, i64_w, i32_w]; rfl
                refine last_ (i := 7) (N := (some 50)) #[true, true, true, true, true, true, true, true, false, false, false, false, false] rfl rfl (by kernel_rfl) (by decide) (fun K hK => ?_)
                refine goes_ Tryd.func95 (by kernel_rfl) rfl #[agg5 Fst, .string (s.extract (q + 1) s.size), .int .i64 E] (by rfl) rfl rfl (by (try simp only [List.map_toArray, List.map_cons, List.map_nil]); first | done | rfl) ?_
                refine (begins_calls Fst (s.extract (q + 1) s.size) E _ HVF.out.1 hE32 (okR_tail HOK.out (q + 1)) HEX.out).mono ?_
                have hbl := beg_lt HVF.out.1 E (okR_tail HOK.out (q + 1)) 0 0 (by decide)
                obtain ⟨B, hB⟩ : ∃ B, beg Fst E (s.extract (q + 1) s.size) 0 0 = B := ⟨_, rfl⟩
                rw [hB] at hbl HSU ⊢
                rintro e w7 ⟨rfl, hb7⟩
                refine ⟨_, rfl, ?_⟩
                refine hK.out _ _ ?_
                clear hK K
                refine norm_ (a' := ?_) ?_ ?_
                rotate_left
                · show Act.put _ (some 50) _ = _; simp only [Act.put, List.setIfInBounds_toArray, List.set_cons_zero, List.set_cons_succ, i64_w, i32_w]; rfl
                refine pure_ (i := 8) (N := (some 42)) (v := ?_) (a' := ?_) #[true, true, true, true, true, true, true, true, true, false, false, false, false] rfl rfl (by kernel_rfl) (fun _ _ _ h => h) (Or.inl ⟨by rfl, ?_⟩) ?_ ?_
                rotate_left
                · intro w'; go_simp; first | done | with_reducible rfl
                rotate_left
                · simp only [Act.put, List.setIfInBounds_toArray, List.set_cons_zero, List.set_cons_succ, i64_w, i32_w]; rfl
                refine pure_ (i := 9) (N := (some 51)) (v := ?_) (a' := ?_) #[true, true, true, true, true, true, true, true, true, true, false, false, false] rfl rfl (by kernel_rfl) (fun _ _ _ h => h) (Or.inl ⟨by rfl, ?_⟩) ?_ ?_
                rotate_left
                · intro w'; go_simp; first | done | with_reducible rfl
                rotate_left
                · simp only [Act.put, List.setIfInBounds_toArray, List.set_cons_zero, List.set_cons_succ, i64_w, i32_w]; rfl
                refine pure_ (i := 10) (N := (some 52)) (v := ?_) (a' := ?_) #[true, true, true, true, true, true, true, true, true, true, true, false, false] rfl rfl (by kernel_rfl) (fun _ _ _ h => h) (Or.inl ⟨by rfl, ?_⟩) ?_ ?_
                rotate_left
                · intro w'; go_simp; first | done | with_reducible rfl
                rotate_left
                · simp only [Act.put, List.setIfInBounds_toArray, List.set_cons_zero, List.set_cons_succ, i64_w, i32_w]; rfl
                refine pure_ (i := 11) (N := (some 10)) (v := ?_) (a' := ?_) #[true, true, true, true, true, true, true, true, true, true, true, true, false] rfl rfl (by kernel_rfl) (fun _ _ _ h => h) (Or.inl ⟨by rfl, ?_⟩) ?_ ?_
                rotate_left
                · intro w'; go_simp; first | done | with_reducible rfl
                rotate_left
                · simp only [Act.put, List.setIfInBounds_toArray, List.set_cons_zero, List.set_cons_succ, i64_w, i32_w]; rfl
                refine pure_ (i := 12) (N := (some 11)) (v := ?_) (a' := ?_) #[true, true, true, true, true, true, true, true, true, true, true, true, true] rfl rfl (by kernel_rfl) (fun _ _ _ h => h) (Or.inl ⟨by rfl, ?_⟩) ?_ ?_
                rotate_left
                · intro w'; go_simp; first | done | with_reducible rfl
                rotate_left
                · simp only [Act.put, List.setIfInBounds_toArray, List.set_cons_zero, List.set_cons_succ, i64_w, i32_w]; rfl
                refine done_ (by kernel_rfl) ?_
                have hbb := (Below.refl w6.heap.size w6).drew.trans hb7
                have HS7 := Lib.hid (HS.out.later hbb)
                have HY7 := Lib.hid (bytes_later HY.out hbb)
                have HR7 := Lib.hid ((hbb.block _ (Array.getElem?_eq_some_iff.1 HR.out).1).trans HR.out)
                clear hHeld f0 f1 f2 f3 f4 d0 d1 hb7 hbb HS HR HY hB
                have d0 := blk_cell HR7.out 0
                have d1 := blk_cell HR7.out 1
                simp at d0 d1
                have g0 := five_at HS7.out.h5 hj5
                have g1 := five_at HS7.out.h5 hjl5
                have g2 := blk_frozen HS7.out.h5 j
                obtain ⟨B1, B2⟩ := B
                cases B2 with
                | false =>
                  have HSV : Hid (nIn Fst E ((jl : Int) + 65) s N1 (q + 1) = upd N2 j B1) := HSU
                  have ho : bits .or .i64 (N2 j : Int) (B1 : Int) = ((N2 j ||| B1 : Nat) : Int) := or_nat (lt62 (HV2.out.1 j)) (lt62 hbl)
                  clear HSU hle hwq hle0 h5 h6
                  go_wp2_with fail
                  clear ho g0 g1 g2 d0 d1 hbl e1 e2 hbt
                  refine ⟨⟨q + 1, hqs, by go_num, Lib.hid ?_, Lib.hid ((Below.heap_setCell w7 ⟨w.heap.size + 1, j, none⟩ _ wo.heap.size HNE.out.1).trans HR7.out), Lib.hid (bytes_set HY7.out HNE.out.2 j _)⟩, by simp [intOf]; omega⟩
                  rw [HSV.out]
                  exact HS7.out.set hj5 HL3.out.1 HL3.out.2.1 HL3.out.2.2
                | true =>
                  have HSV : Hid (nIn Fst E ((jl : Int) + 65) s N1 (q + 1) = upd N2 j (B1 ||| N2 jl)) := HSU
                  have ho1 : bits .or .i64 (B1 : Int) (N2 jl : Int) = ((B1 ||| N2 jl : Nat) : Int) := or_nat (lt62 hbl) (lt62 (HV2.out.1 jl))
                  have ho2 : bits .or .i64 (N2 j : Int) ((B1 ||| N2 jl : Nat) : Int) = ((N2 j ||| (B1 ||| N2 jl) : Nat) : Int) := or_nat (lt62 (HV2.out.1 j)) (lt62 (or_lt hbl (HV2.out.1 jl)))
                  clear HSU hle hwq hle0 h5 h6
                  go_wp2_with fail
                  clear ho1 ho2 g0 g1 g2 d0 d1 hbl e1 e2 hbt
                  refine ⟨⟨q + 1, hqs, by go_num, Lib.hid ?_, Lib.hid ((Below.heap_setCell w7 ⟨w.heap.size + 1, j, none⟩ _ wo.heap.size HNE.out.1).trans HR7.out), Lib.hid (bytes_set HY7.out HNE.out.2 j _)⟩, by simp [intOf]; omega⟩
                  rw [HSV.out]
                  exact HS7.out.set hj5 HL3.out.1 HL3.out.2.1 HL3.out.2.2
            · obtain rfl : q = s.size := by omega
              go_wp2_with fail
              refine ⟨⟨k + 1, by omega, by go_num, ?_⟩, by simp [intOf]; omega⟩
              rw [HNK.out]
              exact HS
        · obtain rfl : k = n := by omega
          go_wp2_with fail
          refine ⟨⟨m + 1, by omega, by go_num, ?_⟩, by simp [intOf]; omega⟩
          rw [rep, HN0.out]
          exact HS
    · obtain rfl : m = 25 := by omega
      obtain ⟨F, hF⟩ : ∃ F, rep (fun F => nTo L R Fst E F n) 25 (start16 L) = F := ⟨_, rfl⟩
      rw [hF] at HS
      have HFF : Hid (nextN L R n 25 = F) := Lib.hid (by rw [← hF, ← HFst.out, ← HE.out]; rfl)
      have f0 := five_at HS.out.h5 (show 0 < 5 by decide)
      have f1 := five_at HS.out.h5 (show 1 < 5 by decide)
      have f2 := five_at HS.out.h5 (show 2 < 5 by decide)
      have f3 := five_at HS.out.h5 (show 3 < 5 by decide)
      have f4 := five_at HS.out.h5 (show 4 < 5 by decide)
      have g0 := five_at HS.out.h2 (show 0 < 5 by decide)
      have g1 := five_at HS.out.h2 (show 1 < 5 by decide)
      have g2 := five_at HS.out.h2 (show 2 < 5 by decide)
      have g3 := five_at HS.out.h2 (show 3 < 5 by decide)
      have g4 := five_at HS.out.h2 (show 4 < 5 by decide)
      have z0 := blk_frozen HS.out.h2 0
      have z1 := blk_frozen HS.out.h2 1
      have z2 := blk_frozen HS.out.h2 2
      have z3 := blk_frozen HS.out.h2 3
      have z4 := blk_frozen HS.out.h2 4
      clear hF
      go_wp2
      (try simp only [Exit.inBlock, Exit.then])
      refine bodyPost_ret (v := agg5 F) (results_cell_row rfl _ _ w.heap.size 89 (cells5 F) (0, 0) _ rfl (five_fill HS.out.h2) Tryd.underlying89 rfl (by kernel_rfl)) rfl ⟨by rw [HFF.out], ?_⟩
      exact fill_below HS.out.bl (Nat.le_refl _)
end Go.Proofs.YtjpfalanoifpbaaDoor.X
end

section
set_option linter.unusedVariables false
set_option linter.unusedSimpArgs false
namespace Go.Proofs.YtjpfalanoifpbaaDoor.X
open Go.RowKit Go.Proofs.YtjpfalanoifpbaaDoorW.PrintWords Go.Proofs.YtjpfalanoifpbaaDoorW.PrintLast Go.Proofs.YtjpfalanoifpbaaDoorW.PrintMore Go.Proofs.YtjpfalanoifpbaaDoor.T
def sameR (a b : Int) (s t : ByteArray) : Bool := a == b && decide (s = t)
theorem bytes_list {s t : ByteArray} : s.toList = t.toList ↔ s = t := by
  refine ⟨fun h => ?_, fun h => by rw [h]⟩
  rw [ByteArray.toList_eq, ByteArray.toList_eq] at h
  exact ByteArray.ext (Array.toList_inj.1 h)
theorem rule_eq (a b : Int) (s t : ByteArray) (w : World) : (Op.equalIn 10000 60 (.agg #[.int .u8 a, .string s]) (.agg #[.int .u8 b, .string t])).run Tryd.prog w = .ok (sameR a b s t) w := by
  unfold sameR
  have u5 := Tryd.underlying5
  have a5 := Tryd.isAgg5
  have z5 := Tryd.sizeOf5
  have u9 := Tryd.underlying9
  have a9 := Tryd.isAgg9
  have z9 := Tryd.sizeOf9
  rw [show (10000 : Nat) = 9999 + 1 from rfl, Op.equalIn]
  simp only [Sem.run_bind, run_underlying Tryd.underlying60, Result.andThen_ok]
  go_simp
  by_cases h1 : a = b <;> by_cases h2 : s = t <;> simp [h1, h2, bytes_list]
theorem rule_eq44 (a b : Int) (s t : ByteArray) (w : World) : (Op.equalIn 10000 44 (.agg #[.int .u8 a, .string s]) (.agg #[.int .u8 b, .string t])).run Tryd.prog w = .ok (sameR a b s t) w := by
  unfold sameR
  have u5 := Tryd.underlying5
  have a5 := Tryd.isAgg5
  have z5 := Tryd.sizeOf5
  have u9 := Tryd.underlying9
  have a9 := Tryd.isAgg9
  have z9 := Tryd.sizeOf9
  rw [show (10000 : Nat) = 9999 + 1 from rfl, Op.equalIn]
  simp only [Sem.run_bind, run_underlying Tryd.underlying44, Result.andThen_ok]
  go_simp
  by_cases h1 : a = b <;> by_cases h2 : s = t <;> simp [h1, h2, bytes_list]
set_option maxHeartbeats 4000000 in
set_option maxRecDepth 100000 in
theorem index_calls (A : Option Addr) (n c : Nat) (L : Nat → Int) (R : Nat → ByteArray) (l : Int) (s : ByteArray) (w : World) (hA : Sr w A n c L R) (hn : n ≤ 1000) (r : Bool) (hr : r = true ↔ ∃ k, k < n ∧ sameR l (L k) s (R k) = true) :
    Calls Tryd.prog 124 #[.slice A n c, .agg #[.int .u8 l, .string s]] w fun e w' => (∃ i : Int, e = .returned (.int .i64 i) ∧ (decide (0 ≤ i)) = r) ∧ Below w.heap.size w w' := by
  have HA := Lib.hid hA
  have HR := Lib.hid hr
  clear hA hr
  go_enter Tryd.func124, Tryd.ntmps124
  go_wp2_with fail
  have hb1 := below_one (w := w) (.cells #[.int .u8 l, .string s] 60)
  obtain ⟨d0, d1⟩ := rule_new w 60 l s
  have hl1 : w.heap.size < (w.alloc (.cells #[.int .u8 l, .string s] 60)).heap.size := by simp
  obtain ⟨w1, hw1⟩ : ∃ w1, w1 = w.alloc (.cells #[.int .u8 l, .string s] 60) := ⟨_, rfl⟩
  rw [← hw1] at hb1 d0 d1 hl1 ⊢
  have HB1 := Lib.hid hb1
  have HD := Lib.hid (And.intro d0 (And.intro d1 hl1))
  clear hw1 hb1 d0 d1 hl1
  have HB := Lib.hid (Below.refl w1.heap.size w1)
  go_loopw [8] (fun i wr => ∃ k : Nat, k ≤ n ∧ i = .int .i64 k ∧ Hid (∀ j, j < k → sameR l (L j) s (R j) = false) ∧ Hid (Below w1.heap.size w1 wr)) (fun i _ => n - (intOf i).toNat)
  case atStart => exact ⟨0, by omega, rfl, Lib.hid (fun j h => by omega), HB⟩
  case round =>
    clear HB
    obtain ⟨k, hk, rfl, HK, HB⟩ := hrel
    have HBW := Lib.hid (HB1.out.trans (HB.out.mono HB1.out.size))
    by_cases hlt : k < n
    · obtain ⟨b, off, rfl, hnc, hP⟩ := HA.out.open (by omega)
      have c0 := (hP.later HBW.out).c0 k hlt
      have c1 := (hP.later HBW.out).c1 k hlt
      have t0 := (HB.out.cell (p := ⟨w.heap.size, 0, none⟩) HD.out.2.2).trans HD.out.1
      have t1 := (HB.out.cell (p := ⟨w.heap.size, 1, none⟩) HD.out.2.2).trans HD.out.2.1
      obtain ⟨l2, hl⟩ : ∃ l2, L k = l2 := ⟨_, rfl⟩
      obtain ⟨s2, hs⟩ : ∃ s2, R k = s2 := ⟨_, rfl⟩
      rw [hl] at c0
      rw [hs] at c1
      have HLS := Lib.hid (And.intro hl hs)
      have hm60 : Tryd.prog.eqGuardType Tryd.prog.depth 60 = false := by kernel_rfl
      have he := fun w => rule_eq l l2 s s2 w
      clear hl hs hP
      cases hq : sameR l l2 s s2 with
      | true =>
        rw [hq] at he
        have hrt : r = true := HR.out.2 ⟨k, hlt, by rw [HLS.out.1, HLS.out.2]; exact hq⟩
        have HRT := Lib.hid hrt
        clear hrt hq
        go_wp2_with fail
        refine start_ (n := 6) (S := fun w' => w'.cell? ⟨w.heap.size, 0, none⟩ = some (.int .u8 l) ∧ w'.cell? ⟨w.heap.size, 1, none⟩ = some (.string s) ∧ w'.cell? ⟨b, off + k * 2, none⟩ = some (.int .u8 l2) ∧ w'.cell? ⟨b, off + k * 2 + 1, none⟩ = some (.string s2)) (ds := []) #[false, false, false, false, false, false] (by kernel_rfl) rfl rfl ⟨by simpa using t0, by simpa using t1, by simpa using c0, by simpa using c1⟩ (fun hHeld => ?_)
        refine take_ (i := 0) (N := (some 11)) (v := ?_) (a' := ?_) #[true, false, false, false, false, false] rfl rfl (by kernel_rfl) (fun _ _ _ h => h) (Or.inl ⟨by rfl, ?_⟩) hHeld ?_ ?_
        rotate_left
        · rintro w' ⟨s0, s1, s2, s3⟩; go_simp; first | done | with_reducible rfl
        rotate_left
        · simp only [Act.put, List.setIfInBounds_toArray, List.set_cons_zero, List.set_cons_succ, i64_w, i32_w]; rfl
        refine pure_ (i := 1) (N := (some 12)) (v := ?_) (a' := ?_) #[true, true, false, false, false, false] rfl rfl (by kernel_rfl) (fun _ _ _ h => h) (Or.inl ⟨by rfl, ?_⟩) ?_ ?_
        rotate_left
        · intro w'; go_simp; first | done | with_reducible rfl
        rotate_left
        · simp only [Act.put, List.setIfInBounds_toArray, List.set_cons_zero, List.set_cons_succ, i64_w, i32_w]; rfl
        refine pure_ (i := 2) (N := (some 13)) (v := ?_) (a' := ?_) #[true, true, true, false, false, false] rfl rfl (by kernel_rfl) (fun _ _ _ h => h) (Or.inl ⟨by rfl, ?_⟩) ?_ ?_
        rotate_left
        · intro w'; go_simp; first | done | with_reducible rfl
        rotate_left
        · simp only [Act.put, List.setIfInBounds_toArray, List.set_cons_zero, List.set_cons_succ, i64_w, i32_w]; rfl
        refine pure_ (i := 3) (N := (some 14)) (v := ?_) (a' := ?_) #[true, true, true, true, false, false] rfl rfl (by kernel_rfl) (fun _ _ _ h => h) (Or.inl ⟨by rfl, ?_⟩) ?_ ?_
        rotate_left
        · intro w'; go_simp; first | done | with_reducible rfl
        rotate_left
        · simp only [Act.put, List.setIfInBounds_toArray, List.set_cons_zero, List.set_cons_succ, i64_w, i32_w]; rfl
        refine take_ (i := 4) (N := (some 15)) (v := ?_) (a' := ?_) #[true, true, true, true, true, false] rfl rfl (by kernel_rfl) (fun _ _ _ h => h) (Or.inl ⟨by rfl, ?_⟩) hHeld ?_ ?_
        rotate_left
        · rintro w' ⟨s0, s1, s2, s3⟩; go_simp; first | done | with_reducible rfl
        rotate_left
        · simp only [Act.put, List.setIfInBounds_toArray, List.set_cons_zero, List.set_cons_succ, i64_w, i32_w]; rfl
        refine pure_ (i := 5) (N := (some 16)) (v := (.bool true)) (a' := ?_) #[true, true, true, true, true, true] rfl rfl (by kernel_rfl) (fun _ _ _ h => h) (Or.inl ⟨by rfl, ?_⟩) ?_ ?_
        · intro w'; go_simp; first | done | with_reducible rfl
        rotate_left
        · simp only [Act.put, List.setIfInBounds_toArray, List.set_cons_zero, List.set_cons_succ, i64_w, i32_w]; rfl
        refine done_ (by kernel_rfl) ?_
        have HB2 := Lib.hid HBW.out.drew
        clear hHeld c0 c1 t0 t1 he hm60
        go_wp2
        go_ret
        exact ⟨⟨k, rfl, by rw [HRT.out]; simp⟩, HB2.out⟩
      | false =>
        rw [hq] at he
        have HQ := Lib.hid hq
        clear hq
        go_wp2_with fail
        refine start_ (n := 6) (S := fun w' => w'.cell? ⟨w.heap.size, 0, none⟩ = some (.int .u8 l) ∧ w'.cell? ⟨w.heap.size, 1, none⟩ = some (.string s) ∧ w'.cell? ⟨b, off + k * 2, none⟩ = some (.int .u8 l2) ∧ w'.cell? ⟨b, off + k * 2 + 1, none⟩ = some (.string s2)) (ds := []) #[false, false, false, false, false, false] (by kernel_rfl) rfl rfl ⟨by simpa using t0, by simpa using t1, by simpa using c0, by simpa using c1⟩ (fun hHeld => ?_)
        refine take_ (i := 0) (N := (some 11)) (v := ?_) (a' := ?_) #[true, false, false, false, false, false] rfl rfl (by kernel_rfl) (fun _ _ _ h => h) (Or.inl ⟨by rfl, ?_⟩) hHeld ?_ ?_
        rotate_left
        · rintro w' ⟨s0, s1, s2, s3⟩; go_simp; first | done | with_reducible rfl
        rotate_left
        · simp only [Act.put, List.setIfInBounds_toArray, List.set_cons_zero, List.set_cons_succ, i64_w, i32_w]; rfl
        refine pure_ (i := 1) (N := (some 12)) (v := ?_) (a' := ?_) #[true, true, false, false, false, false] rfl rfl (by kernel_rfl) (fun _ _ _ h => h) (Or.inl ⟨by rfl, ?_⟩) ?_ ?_
        rotate_left
        · intro w'; go_simp; first | done | with_reducible rfl
        rotate_left
        · simp only [Act.put, List.setIfInBounds_toArray, List.set_cons_zero, List.set_cons_succ, i64_w, i32_w]; rfl
        refine pure_ (i := 2) (N := (some 13)) (v := ?_) (a' := ?_) #[true, true, true, false, false, false] rfl rfl (by kernel_rfl) (fun _ _ _ h => h) (Or.inl ⟨by rfl, ?_⟩) ?_ ?_
        rotate_left
        · intro w'; go_simp; first | done | with_reducible rfl
        rotate_left
        · simp only [Act.put, List.setIfInBounds_toArray, List.set_cons_zero, List.set_cons_succ, i64_w, i32_w]; rfl
        refine pure_ (i := 3) (N := (some 14)) (v := ?_) (a' := ?_) #[true, true, true, true, false, false] rfl rfl (by kernel_rfl) (fun _ _ _ h => h) (Or.inl ⟨by rfl, ?_⟩) ?_ ?_
        rotate_left
        · intro w'; go_simp; first | done | with_reducible rfl
        rotate_left
        · simp only [Act.put, List.setIfInBounds_toArray, List.set_cons_zero, List.set_cons_succ, i64_w, i32_w]; rfl
        refine take_ (i := 4) (N := (some 15)) (v := ?_) (a' := ?_) #[true, true, true, true, true, false] rfl rfl (by kernel_rfl) (fun _ _ _ h => h) (Or.inl ⟨by rfl, ?_⟩) hHeld ?_ ?_
        rotate_left
        · rintro w' ⟨s0, s1, s2, s3⟩; go_simp; first | done | with_reducible rfl
        rotate_left
        · simp only [Act.put, List.setIfInBounds_toArray, List.set_cons_zero, List.set_cons_succ, i64_w, i32_w]; rfl
        refine pure_ (i := 5) (N := (some 16)) (v := (.bool false)) (a' := ?_) #[true, true, true, true, true, true] rfl rfl (by kernel_rfl) (fun _ _ _ h => h) (Or.inl ⟨by rfl, ?_⟩) ?_ ?_
        · intro w'; go_simp; first | done | with_reducible rfl
        rotate_left
        · simp only [Act.put, List.setIfInBounds_toArray, List.set_cons_zero, List.set_cons_succ, i64_w, i32_w]; rfl
        refine done_ (by kernel_rfl) ?_
        have HB2 := Lib.hid HB.out.drew
        clear hHeld c0 c1 t0 t1 he hm60
        go_wp2_with fail
        refine ⟨⟨k + 1, by omega, by go_num, Lib.hid (fun j hj => ?_), HB2⟩, by simp [intOf]; omega⟩
        by_cases e : j = k
        · rw [e, HLS.out.1, HLS.out.2]
          exact HQ.out
        · exact HK.out j (by omega)
    · obtain rfl : k = n := by omega
      have hrf : r = false := by
        rw [Bool.eq_false_iff]
        intro q
        obtain ⟨j, h1, h2⟩ := HR.out.1 q
        rw [HK.out j h1] at h2
        cases h2
      have HRF := Lib.hid hrf
      clear hrf
      go_wp2
      go_ret
      exact ⟨⟨-1, rfl, by rw [HRF.out]; rfl⟩, HBW.out⟩
set_option maxHeartbeats 1000000 in
set_option maxRecDepth 100000 in
theorem contains_calls (A : Option Addr) (n c : Nat) (L : Nat → Int) (R : Nat → ByteArray) (l : Int) (s : ByteArray) (w : World) (hA : Sr w A n c L R) (hn : n ≤ 1000) (r : Bool) (hr : r = true ↔ ∃ k, k < n ∧ sameR l (L k) s (R k) = true) :
    Calls Tryd.prog 94 #[.slice A n c, .agg #[.int .u8 l, .string s]] w fun e w' => e = .returned (.bool r) ∧ Below w.heap.size w w' := by
  have HA := Lib.hid hA
  have HR := Lib.hid hr
  clear hA hr
  go_enter Tryd.func94, Tryd.ntmps94
  go_wp2_with fail
  have hb1 := below_one (w := w) (.cells #[.int .u8 l, .string s] 60)
  refine (index_calls A n c L R l s _ (HA.out.later hb1) hn r HR.out).mono ?_
  rintro e w1 ⟨⟨i, rfl, hi⟩, hb2⟩
  have HB := Lib.hid (hb1.trans (hb2.mono hb1.size))
  have HI := Lib.hid hi
  clear hb1 hb2 hi
  go_wp2
  go_ret
  exact ⟨ret_bool HI.out, HB.out⟩
end Go.Proofs.YtjpfalanoifpbaaDoor.X
end

section
set_option linter.unusedVariables false
set_option linter.unusedSimpArgs false
namespace Go.Proofs.YtjpfalanoifpbaaDoor.X
open Go.RowKit Go.Proofs.YtjpfalanoifpbaaDoorW.PrintWords Go.Proofs.YtjpfalanoifpbaaDoorW.PrintLast Go.Proofs.YtjpfalanoifpbaaDoorW.PrintMore Go.Proofs.YtjpfalanoifpbaaDoor.T
structure RuleOk (L : Nat → Int) (R : Nat → ByteArray) (k : Nat) : Prop where
  p : isP (L k) = true
  sz : (R k).size ≤ 4
  ok : okR (R k)
  new : ∀ j, j < k → sameR (L k) (L j) (R k) (R j) = false
def Gram (L : Nat → Int) (R : Nat → ByteArray) (n : Nat) : Prop := (1 ≤ n ∧ n ≤ 8) ∧ ∀ k, k < n → RuleOk L R k
theorem Gram.gr {L : Nat → Int} {R : Nat → ByteArray} {n : Nat} (h : Gram L R n) : Gr L R n :=
  ⟨fun k hk => ⟨(h.2 k hk).p, (h.2 k hk).ok⟩, fun k hk => (h.2 k hk).sz, h.1.2, h.1.1⟩
set_option maxHeartbeats 8000000 in
set_option maxRecDepth 100000 in
theorem Grammar_calls (A : Option Addr) (n c : Nat) (L : Nat → Int) (R : Nat → ByteArray) (w : World) (hA : Sr w A n c L R) (hn : n ≤ 9223372036854775807) (r : Bool) (hr : r = true ↔ Gram L R n) :
    Calls Tryd.prog 21 #[.slice A n c] w fun e w' => e = .returned (.bool r) ∧ Below w.heap.size w w' := by
  have HA := Lib.hid hA
  have HR := Lib.hid hr
  clear hA hr
  go_enter Tryd.func21, Tryd.ntmps21
  go_wp2_with fail
  have HB := Lib.hid (Below.refl w.heap.size w)
  go_loopw [10] (fun i wr => ∃ k : Nat, k ≤ n ∧ i = .int .i64 k ∧ Hid (∀ j, j < k → RuleOk L R j) ∧ Hid (Below w.heap.size w wr)) (fun i _ => n - (intOf i).toNat)
  case atStart => exact ⟨0, by omega, rfl, Lib.hid (fun j h => by omega), HB⟩
  case round =>
    clear HB
    obtain ⟨k, hk, rfl, HK, HB⟩ := hrel
    by_cases hlt : k < n
    · obtain ⟨b, off, rfl, hnc, hP⟩ := HA.out.open (by omega)
      have HP := Lib.hid hP
      have c0 := (hP.later HB.out).c0 k hlt
      have c1 := (hP.later HB.out).c1 k hlt
      obtain ⟨l, hl⟩ : ∃ l, L k = l := ⟨_, rfl⟩
      obtain ⟨s, hs⟩ : ∃ s, R k = s := ⟨_, rfl⟩
      rw [hl] at c0
      rw [hs] at c1
      have HLS := Lib.hid (And.intro hl hs)
      have hkc : k < c := by omega
      have NO : Hid (¬ RuleOk L R k → r = false) := Lib.hid (fun h => by
        rw [Bool.eq_false_iff]
        exact fun q => h ((HR.out.1 q).2 k hlt))
      obtain ⟨wo, rfl⟩ : ∃ wo : World, wo = wr := ⟨_, rfl⟩
      clear hl hs hP
      go_wp2_with fail
      have hbA := below_one (w := wo) (.cells #[.int .u8 l, .string s] 44)
      have hkA := blk_new wo (.cells #[.int .u8 l, .string s] 44)
      obtain ⟨w1, hw1⟩ : ∃ w1, w1 = wo.alloc (.cells #[.int .u8 l, .string s] 44) := ⟨_, rfl⟩
      rw [← hw1] at hbA hkA ⊢
      have HB1 := Lib.hid (HB.out.trans (hbA.mono HB.out.size))
      have HR1 := Lib.hid hkA
      have d0 := blk_cell hkA 0
      have d1 := blk_cell hkA 1
      simp at d0 d1
      clear hw1 hbA hkA c0 c1 HB
      refine (part_calls l _).mono ?_
      rintro e w2 ⟨rfl, rfl⟩
      cases hp : isP l with
      | false =>
        have hrf := NO.out (fun q => by have := q.p; rw [HLS.out.1, hp] at this; cases this)
        have HRF := Lib.hid hrf
        clear hrf hp
        go_wp2
        go_ret
        exact ⟨by rw [HRF.out] <;> rfl, HB1.out⟩
      | true =>
        have HPP := Lib.hid hp
        clear hp
        by_cases h4 : s.size ≤ 4
        · have h4' : ¬ (4 : Int) < s.size := by omega
          have H4 := Lib.hid h4
          go_wp2_with fail
          go_loopw [28] (fun i wr => ∃ q : Nat, q ≤ s.size ∧ i = .int .i64 q ∧ Hid (∀ j, j < q → isP (ch s j) = true ∨ isD (ch s j) = true) ∧ wr = w2) (fun i _ => s.size - (intOf i).toNat)
          case atStart => exact ⟨0, by omega, rfl, Lib.hid (fun j h => by omega), rfl⟩
          case round =>
            obtain ⟨q, hq, rfl, HQ, rfl⟩ := hrel
            by_cases hqs : q < s.size
            · have hbt : (((s[q]'hqs).toNat : Nat) : Int) = ch s q := ch_at s q hqs
              obtain ⟨x, hx⟩ : ∃ x, ch s q = x := ⟨_, rfl⟩
              rw [hx] at hbt
              have HX := Lib.hid hx
              clear hx
              go_wp2_with fail
              refine (part_calls x _).mono ?_
              rintro e w3 ⟨rfl, rfl⟩
              cases hp : isP x with
              | true =>
                have HPX := Lib.hid hp
                clear hp
                go_wp2_with fail
                refine ⟨⟨q + 1, by omega, by go_num, Lib.hid (fun j hj => ?_), by trivial⟩, by simp [intOf]; omega⟩
                by_cases e : j = q
                · rw [e, HX.out]
                  exact .inl HPX.out
                · exact HQ.out j (by omega)
              | false =>
                have HPX := Lib.hid hp
                clear hp
                go_wp2_with fail
                refine (word_calls x _).mono ?_
                rintro e w4 ⟨rfl, rfl⟩
                cases hd : isD x with
                | true =>
                  have HDX := Lib.hid hd
                  clear hd
                  go_wp2_with fail
                  refine ⟨⟨q + 1, by omega, by go_num, Lib.hid (fun j hj => ?_), by trivial⟩, by simp [intOf]; omega⟩
                  by_cases e : j = q
                  · rw [e, HX.out]
                    exact .inr HDX.out
                  · exact HQ.out j (by omega)
                | false =>
                  have HRF := Lib.hid (NO.out (fun y => by
                    have := y.ok q (by rw [HLS.out.2]; exact hqs)
                    rw [HLS.out.2, HX.out, HPX.out, hd] at this
                    rcases this with z | z <;> cases z))
                  clear hd
                  go_wp2
                  go_ret
                  exact ⟨by rw [HRF.out] <;> rfl, HB1.out⟩
            · obtain rfl : q = s.size := by omega
              have hkc2 : k ≤ c := by omega
              obtain ⟨wp, rfl⟩ : ∃ wp : World, wp = wr := ⟨_, rfl⟩
              go_wp2_with fail
              have HBJ := Lib.hid (Below.refl wp.heap.size wp)
              go_loopw [50] (fun i wr => ∃ j : Nat, j ≤ k ∧ i = .int .i64 j ∧ Hid (∀ m, m < j → sameR l (L m) s (R m) = false) ∧ Hid (Below wp.heap.size wp wr)) (fun i _ => k - (intOf i).toNat)
              case atStart => exact ⟨0, by omega, rfl, Lib.hid (fun m h => by omega), HBJ⟩
              case round =>
                clear HBJ
                obtain ⟨j, hj, rfl, HM, HBJ⟩ := hrel
                have HBW := Lib.hid (HB1.out.trans (HBJ.out.mono HB1.out.size))
                by_cases hjk : j < k
                · have e0 := (HP.out.later HBW.out).c0 j (by omega)
                  have e1 := (HP.out.later HBW.out).c1 j (by omega)
                  have hr := (HBJ.out.block _ (Array.getElem?_eq_some_iff.1 HR1.out).1).trans HR1.out
                  obtain ⟨l2, hl⟩ : ∃ l2, L j = l2 := ⟨_, rfl⟩
                  obtain ⟨s2, hs⟩ : ∃ s2, R j = s2 := ⟨_, rfl⟩
                  rw [hl] at e0
                  rw [hs] at e1
                  have HLS2 := Lib.hid (And.intro hl hs)
                  have hjc : j < c := by omega
                  have hbN := below_one (w := wr) (.cells #[.int .u8 l2, .string s2] 44)
                  have hr2 := (hbN.block _ (Array.getElem?_eq_some_iff.1 hr).1).trans hr
                  have f0 := blk_cell hr2 0
                  have f1 := blk_cell hr2 1
                  simp only [List.getElem?_toArray, List.getElem?_cons_zero, List.getElem?_cons_succ] at f0 f1
                  have HBN := Lib.hid (HBJ.out.trans (hbN.mono HBJ.out.size))
                  have HBX := Lib.hid (HBW.out.trans (hbN.mono HBW.out.size))
                  have hm44 : Tryd.prog.eqGuardType Tryd.prog.depth 44 = false := by kernel_rfl
                  have he := fun w => rule_eq44 l l2 s s2 w
                  clear hl hs hr hbN hr2 d0 d1
                  cases hq : sameR l l2 s s2 with
                  | true =>
                    rw [hq] at he
                    have HRF := Lib.hid (NO.out (fun y => by
                      have := y.new j hjk
                      rw [HLS.out.1, HLS.out.2, HLS2.out.1, HLS2.out.2, hq] at this
                      cases this))
                    clear hq
                    go_wp2
                    go_ret
                    exact ⟨by rw [HRF.out] <;> rfl, HBX.out⟩
                  | false =>
                    rw [hq] at he
                    have HQ2 := Lib.hid hq
                    clear hq
                    go_wp2_with fail
                    refine ⟨⟨j + 1, by omega, by go_num, Lib.hid (fun m hm => ?_), HBN⟩, by simp [intOf]; omega⟩
                    by_cases e : m = j
                    · rw [e, HLS2.out.1, HLS2.out.2]
                      exact HQ2.out
                    · exact HM.out m (by omega)
                · obtain rfl : j = k := by omega
                  have HRO : Hid (RuleOk L R j) := Lib.hid ⟨by rw [HLS.out.1]; exact HPP.out, by rw [HLS.out.2]; exact H4.out, by rw [HLS.out.2]; exact HQ.out, by rw [HLS.out.1, HLS.out.2]; exact HM.out⟩
                  go_wp2_with fail
                  refine ⟨⟨j + 1, by omega, by go_num, Lib.hid (fun m hm => ?_), HBW⟩, by simp [intOf]; omega⟩
                  by_cases e : m = j
                  · rw [e]
                    exact HRO.out
                  · exact HK.out m (by omega)
        · have h4' : (4 : Int) < s.size := by omega
          have HRF := Lib.hid (NO.out (fun q => by have := q.sz; rw [HLS.out.2] at this; exact h4 this))
          go_wp2
          go_ret
          exact ⟨by rw [HRF.out] <;> rfl, HB1.out⟩
    · obtain rfl : k = n := by omega
      by_cases h1 : 1 ≤ k
      · by_cases h8 : k ≤ 8
        · have h1' : (1 : Int) ≤ k := by omega
          have h8' : (k : Int) ≤ 8 := by omega
          have HRT := Lib.hid (HR.out.2 ⟨⟨h1, h8⟩, HK.out⟩)
          go_wp2
          go_ret
          exact ⟨by rw [HRT.out] <;> rfl, HB.out⟩
        · have h1' : (1 : Int) ≤ k := by omega
          have h8' : ¬ (k : Int) ≤ 8 := by omega
          have HRF : Hid (r = false) := Lib.hid (by rw [Bool.eq_false_iff]; exact fun q => h8 (HR.out.1 q).1.2)
          go_wp2
          go_ret
          exact ⟨by rw [HRF.out] <;> rfl, HB.out⟩
      · have h1' : ¬ (1 : Int) ≤ k := by omega
        have HRF : Hid (r = false) := Lib.hid (by rw [Bool.eq_false_iff]; exact fun q => h1 (HR.out.1 q).1.1)
        go_wp2
        go_ret
        exact ⟨by rw [HRF.out] <;> rfl, HB.out⟩
end Go.Proofs.YtjpfalanoifpbaaDoor.X
end
