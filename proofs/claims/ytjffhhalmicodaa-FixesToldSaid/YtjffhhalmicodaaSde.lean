/- Texts of this claim, merged by a program (wip/tools/shake.py); what nothing names is left out. -/
import Derived.Test.YtjffhhalmicodaaProg
import Derived.Below
import Derived.Deep.Draws
import Derived.Deep.AppendLies
import Derived.Maps.AppendAt
import Derived.OwnWalk
import Derived.Laws.BytesArg
import Derived.Laws.MakeOwn
import Derived.Laws.OwnMore
import Derived.Deep.OwnRows
import Derived.Tactics
import Derived.Lib.ConvBytes
import Derived.Laws.Slices
import Derived.WalkKit
import Derived.KernelRfl
import Derived.RowKit3
import Derived.Deep.LoopGhost
import Derived.Deep.QuietTactic
import Derived.BigQuiet
import Derived.WideLaws
import Derived.Deep.DeepCutAuto
import Derived.Deep.CutBlock
import Derived.Deep.RegionHeld3
import Derived.Laws.Rows
import Derived.Lib.AppendStr
import Derived.ArgAppend
import Derived.Laws.IdiomCopy
import Derived.OrdersHeld
import Derived.Laws.BitsLemmas
import Derived.RowKit
import Derived.Test.YtjffhhalmicodaaSdd
namespace Go.Proofs.Ytjffhhalmicodaa
abbrev Mq91 : Array Bool := #[false, false, false, false, false, false, false, false, false, false, false, false, false, false, false]
abbrev Mq92 : Array Bool := #[true, false, false, false, false, false, false, false, false, false, false, false, false, false, false]
abbrev Mq93 : Array Bool := #[true, true, false, false, false, false, false, false, false, false, false, false, false, false, false]
abbrev Mq94 : Array Bool := #[true, true, true, false, false, false, false, false, false, false, false, false, false, false, false]
abbrev Mq95 : Array Bool := #[true, true, true, true, false, false, false, false, false, false, false, false, false, false, false]
abbrev Mq96 : Array Bool := #[true, true, true, true, true, false, false, false, false, false, false, false, false, false, false]
abbrev Mq97 : Array Bool := #[true, true, true, true, true, true, false, false, false, false, false, false, false, false, false]
abbrev Mq98 : Array Bool := #[true, true, true, true, true, true, true, false, false, false, false, false, false, false, false]
abbrev Mq99 : Array Bool := #[true, true, true, true, true, true, true, true, false, false, false, false, false, false, false]
abbrev Mq100 : Array Bool := #[true, true, true, true, true, true, true, true, true, false, false, false, false, false, false]
abbrev Mq101 : Array Bool := #[true, true, true, true, true, true, true, true, true, true, false, false, false, false, false]
abbrev Mq102 : Array Bool := #[true, true, true, true, true, true, true, true, true, true, true, false, false, false, false]
abbrev Mq103 : Array Bool := #[true, true, true, true, true, true, true, true, true, true, true, true, false, false, false]
abbrev Mq104 : Array Bool := #[true, true, true, true, true, true, true, true, true, true, true, true, true, false, false]
abbrev Mq105 : Array Bool := #[true, true, true, true, true, true, true, true, true, true, true, true, true, true, false]
abbrev Mq106 : Array Bool := #[true, true, true, true, true, true, true, true, true, true, true, true, true, true, true]
end Go.Proofs.Ytjffhhalmicodaa
section
set_option linter.unusedVariables false
set_option linter.unusedSimpArgs false
namespace Go.Proofs.Ytjffhhalmicodaa.X
open Go.RowKit Go.Proofs.G.PrintWords Go.Proofs.G.PrintLast Go.Proofs.G.PrintMore
def numTo (key : Nat → Int × Int) : Nat → List ((Int × Int) × Int) × List Int
  | 0 => ([], [])
  | k + 1 => match findL (numTo key k).1 (key k) with
    | some v => ((numTo key k).1, (numTo key k).2 ++ [v])
    | none => (putL (numTo key k).1 (key k) ((numTo key k).1.length : Int), (numTo key k).2 ++ [((numTo key k).1.length : Int)])
theorem numTo_len (key : Nat → Int × Int) : ∀ k, (numTo key k).2.length = k
  | 0 => rfl
  | k + 1 => by
    have := numTo_len key k
    rw [numTo]
    split <;> simp [this]
def cls (key : Nat → Int × Int) (i : Nat) : Int := (findL (numTo key i).1 (key i)).getD ((numTo key i).1.length : Int)
def cnt (key : Nat → Int × Int) (i : Nat) : Nat := (numTo key i).1.length
theorem num_succ (key : Nat → Int × Int) (k : Nat) : (numTo key (k + 1)).2 = (numTo key k).2 ++ [cls key k] := by
  unfold cls
  rw [numTo]
  split
  · rename_i v h; simp [h]
  · rename_i h; simp [h]
theorem rd_num (key : Nat → Int × Int) (n i : Nat) (h : i < n) : rd (numTo key n).2 (i : Int) = cls key i := by
 induction n with
 | zero => omega
 | succ n ih =>
  have hl := numTo_len key n
  rw [num_succ]
  unfold rd at ih ⊢
  rw [Int.toNat_natCast] at ih ⊢
  rw [List.getD_eq_getElem?_getD] at ih ⊢
  by_cases hi : i < n
  ·rw [List.getElem?_append_left (by omega)]
   exact ih hi
  ·obtain rfl : i = n := by omega
   rw [List.getElem?_append_right (by omega), hl]
   simp
theorem num_map (key : Nat → Int × Int) (n : Nat) :
    (∀ i, i < n → findL (numTo key n).1 (key i) = some (cls key i)) ∧ (∀ k v, findL (numTo key n).1 k = some v → ∃ i, i < n ∧ key i = k ∧ cls key i = v ∧ 0 ≤ v ∧ v < cnt key n ∧ ∀ j, j < i → key j ≠ key i) := by
  induction n with
  | zero => exact ⟨fun i h => by omega, fun k v h => by simp [numTo, findL] at h⟩
  | succ n ih =>
    obtain ⟨h1, h2⟩ := ih
    cases hf : findL (numTo key n).1 (key n) with
    | some v =>
      have e : (numTo key (n + 1)).1 = (numTo key n).1 := by rw [numTo, hf]
      have hc : cls key n = v := by unfold cls; rw [hf]; rfl
      unfold cnt
      rw [e]
      refine ⟨fun i hi => ?_, fun k u h => ?_⟩
      · by_cases hin : i < n
        · exact h1 i hin
        · obtain rfl : i = n := by omega
          rw [hf, hc]
      · obtain ⟨i, a, b⟩ := h2 k u h
        exact ⟨i, by omega, b⟩
    | none =>
      have e : (numTo key (n + 1)).1 = (numTo key n).1 ++ [(key n, ((numTo key n).1.length : Int))] := by rw [numTo, hf]; exact putL_none hf
      have e' : (numTo key (n + 1)).1 = putL (numTo key n).1 (key n) ((numTo key n).1.length : Int) := by rw [numTo, hf]
      have hc : cls key n = ((numTo key n).1.length : Int) := by unfold cls; rw [hf]; rfl
      have hne : ∀ j, j < n → key j ≠ key n := fun j hj he => by
        have := h1 j hj
        rw [he, hf] at this
        cases this
      have hcn : cnt key (n + 1) = cnt key n + 1 := by unfold cnt; rw [e]; simp
      refine ⟨fun i hi => ?_, fun k u h => ?_⟩
      · rw [e', findL_putL]
        by_cases hin : i < n
        · rw [if_neg (fun q => hne i hin q.symm)]
          exact h1 i hin
        · obtain rfl : i = n := by omega
          rw [if_pos rfl, hc]
      · rw [e', findL_putL] at h
        by_cases hk : key n = k
        · rw [if_pos hk] at h
          injection h with h
          refine ⟨n, by omega, hk, by rw [hc, h], by omega, ?_, hne⟩
          rw [hcn]
          unfold cnt
          omega
        · rw [if_neg hk] at h
          obtain ⟨i, a, b, c, d, f, g⟩ := h2 k u h
          exact ⟨i, by omega, b, c, d, by omega, g⟩
theorem cnt_le (key : Nat → Int × Int) : ∀ n, cnt key n ≤ n
 | 0 => Nat.le_refl _
 | n + 1 => by
  have := cnt_le key n
  unfold cnt at this ⊢
  rw [numTo]
  split
  ·simp; omega
  ·rename_i h
   simp only [putL_none h, List.length_append, List.length_singleton]
   omega
theorem cnt_step (key : Nat → Int × Int) (n : Nat) : (cnt key (n + 1) = cnt key n ∧ ∃ j, j < n ∧ key j = key n) ∨ (cnt key (n + 1) = cnt key n + 1 ∧ cls key n = cnt key n ∧ ∀ j, j < n → key j ≠ key n) := by
 cases hf : findL (numTo key n).1 (key n) with
 | some v =>
  left
  obtain ⟨i, a, b, _⟩ := (num_map key n).2 _ _ hf
  refine ⟨?_, i, a, b⟩
  unfold cnt
  rw [numTo, hf]
 | none =>
  right
  refine ⟨?_, by unfold cls cnt; rw [hf]; rfl, fun j hj he => ?_⟩
  ·unfold cnt
   rw [numTo, hf]
   simp [putL_none hf]
  ·have := (num_map key n).1 j hj
   rw [he, hf] at this
   cases this
theorem cnt_mono (key : Nat → Int × Int) {m n : Nat} (h : m ≤ n) : cnt key m ≤ cnt key n := by
  induction n with
  | zero => obtain rfl : m = 0 := by omega
            exact Nat.le_refl _
  | succ n ih =>
    by_cases e : m = n + 1
    · rw [e]; exact Nat.le_refl _
    · have := ih (by omega)
      rcases cnt_step key n with h | h <;> omega
theorem cls_range (key : Nat → Int × Int) {i n : Nat} (h : i < n) : 0 ≤ cls key i ∧ cls key i < cnt key n := by
  obtain ⟨j, a, b, c, d, e, f⟩ := (num_map key n).2 _ _ ((num_map key n).1 i h)
  exact ⟨d, e⟩
theorem cls_eq (key : Nat → Int × Int) (i j : Nat) : cls key i = cls key j ↔ key i = key j := by
 have hi := (num_map key (i + j + 1)).1 i (by omega)
 have hj := (num_map key (i + j + 1)).1 j (by omega)
 constructor
 ·intro h
  obtain ⟨a, a1, a2, a3, _, _, a4⟩ := (num_map key (i + j + 1)).2 _ _ hi
  obtain ⟨b, b1, b2, b3, _, _, b4⟩ := (num_map key (i + j + 1)).2 _ _ hj
  have new : ∀ a, (∀ j, j < a → key j ≠ key a) → cls key a = cnt key a ∧ cnt key (a + 1) = cnt key a + 1 := fun a ha => by
   rcases cnt_step key a with ⟨_, j, hj, e⟩ | ⟨e1, e2, _⟩
   ·exact absurd e (ha j hj)
   ·exact ⟨e2, e1⟩
  have na := new a a4
  have nb := new b b4
  rcases Nat.lt_trichotomy a b with hab | rfl | hab
  ·have := cnt_mono key (show a + 1 ≤ b by omega)
   omega
  ·rw [← a2, ← b2]
  ·have := cnt_mono key (show b + 1 ≤ a by omega)
   omega
 ·intro h
  rw [h, hj] at hi
  injection hi with hi
  exact hi.symm
theorem cls_congr {key key' : Nat → Int × Int} {n : Nat} (h : ∀ i j, i < n → j < n → (key i = key j ↔ key' i = key' j)) : ∀ i, i < n → cls key i = cls key' i ∧ cnt key i = cnt key' i := by
 have hc : ∀ m, m ≤ n → cnt key m = cnt key' m := by
  intro m
  induction m with
  | zero => intro _; rfl
  | succ m ih =>
   intro hm
   have := ih (by omega)
   rcases cnt_step key m with ⟨e, j, hj, hk⟩ | ⟨e, e2, e3⟩ <;> rcases cnt_step key' m with ⟨f, j', hj', hk'⟩ | ⟨f, f2, f3⟩
   ·omega
   ·exact absurd ((h j m (by omega) (by omega)).1 hk) (f3 j hj)
   ·exact absurd ((h j' m (by omega) (by omega)).2 hk') (e3 j' hj')
   ·omega
 intro i
 induction i using Nat.strongRecOn with
 | ind i ih =>
  intro hi
  refine ⟨?_, hc i (by omega)⟩
  rcases cnt_step key i with ⟨e, j, hj, hk⟩ | ⟨e, e2, e3⟩
  ·rw [← (cls_eq key j i).2 hk, ← (cls_eq key' j i).2 ((h j i (by omega) hi).1 hk)]
   exact (ih j hj (by omega)).1
  ·rcases cnt_step key' i with ⟨f, j', hj', hk'⟩ | ⟨f, f2, f3⟩
   ·exact absurd ((h j' i (by omega) hi).2 hk') (e3 j' hj')
   ·rw [e2, f2, hc i (by omega)]
theorem num_congr {key key' : Nat → Int × Int} {n : Nat} (h : ∀ i j, i < n → j < n → (key i = key j ↔ key' i = key' j)) : (numTo key n).2 = (numTo key' n).2 ∧ cnt key n = cnt key' n := by
 have hx := cls_congr h
 constructor
 ·have : ∀ m, m ≤ n → (numTo key m).2 = (numTo key' m).2 := by
   intro m
   induction m with
   | zero => intro _; rfl
   | succ m ih =>
    intro hm
    rw [num_succ, num_succ, ih (by omega), (hx m (by omega)).1]
  exact this n (Nat.le_refl _)
 ·cases n with
  | zero => rfl
  | succ m =>
   have h1 := (hx m (by omega)).2
   rcases cnt_step key m with ⟨e, j, hj, hk⟩ | ⟨e, e2, e3⟩ <;> rcases cnt_step key' m with ⟨f, j', hj', hk'⟩ | ⟨f, f2, f3⟩
   ·omega
   ·exact absurd ((h j m (by omega) (by omega)).1 hk) (f3 j hj)
   ·exact absurd ((h j' m (by omega) (by omega)).2 hk') (e3 j' hj')
   ·omega
def markKey (mk : List Int) (s : Nat) : Int × Int := (rd mk s, 0)
def setTo (nx last : List Int) (s : Nat) : Nat → Int
  | 0 => 0
  | t + 1 => if bits .and .i64 (shr .i64 (rd nx s) (t : Int)) 1 = 1 then bits .or .i64 (setTo nx last s t) (shl .i64 1 (rd last (t : Int))) else setTo nx last s t
def setKey (nx last : List Int) (s : Nat) : Int × Int := (rd last s, setTo nx last s last.length)
end Go.Proofs.Ytjffhhalmicodaa.X
end

section
set_option linter.unusedVariables false
set_option linter.unusedSimpArgs false
namespace Go.Proofs.Ytjffhhalmicodaa.X
open Go.RowKit Go.Proofs.G.PrintWords Go.Proofs.G.PrintLast Go.Proofs.G.PrintMore
theorem R_notmap {α : Type} {d : Kd α} {e : TypeId} {w : World} {base : Nat} {ok : Nat → Prop} {v : Value} {xs : List α} (h : d.R e w base ok v xs) {r : Nat} {es : Array MapEntry} {c : Nat} (hb : w.heap[r]? = some (.map es c)) : d.R e w base (fun k => ok k ∧ k ≠ r) v xs :=
  Kd.R_mono (Kd.R_bound h) (fun k hk => ⟨hk.1, by
    obtain ⟨_, _, _, q, hq, cells', hc⟩ := hk
    rintro rfl
    rw [hc] at hb
    cases hb⟩)
def KeyFn (w : World) (g : Nat) (lb : Array Value) (n : Nat) (key : Nat → Int × Int) : Prop :=
  ∀ (W : World) (s : Nat), s < n → Below w.heap.size w W → Calls Try.prog g (#[.int .i64 s] ++ lb) W fun e w' => e = .returned (pairV (key s)) ∧ Below W.heap.size W w'
structure NS (w : World) (gw r : Nat) (cells : Array Value) (key : Nat → Int × Int) (k : Nat) (sl : Value) (wr : World) : Prop where
 below : Below w.heap.size w wr
 box : wr.heap[gw]? = some (.cells cells 28 (0, 0))
 newb : w.heap.size ≤ gw
 map : IsM pairV (Value.int .i64) wr r (numTo key k).1
 newm : w.heap.size ≤ r
 own : Kd.R (Kd.int .i64) 3 wr w.heap.size (fun _ => True) sl (numTo key k).2
theorem NS.step {w : World} {gw r : Nat} {cells : Array Value} {key : Nat → Int × Int} {k : Nat} {sl : Value} {wr w2 : World} (h : NS w gw r cells key k sl wr) (hb : Below wr.heap.size wr w2) : NS w gw r cells key k sl w2 :=
  ⟨h.below.trans (hb.mono h.below.size), (hb.block gw (Array.getElem?_eq_some_iff.1 h.box).1).trans h.box, h.newb, h.map.below hb, h.newm, Kd.R_below h.own hb⟩
theorem info3' : (Try.prog.info? 3).map (fun i => (i.zero, i.size, i.bytes)) = some (some (.int .i64 0), 1, 8) := by kernel_rfl
theorem NS.push {w : World} {gw r : Nat} {cells : Array Value} {key : Nat → Int × Int} {k : Nat} {sl v1 : Value} {w2 w1 : World} {x : Int} (hbl : Below w.heap.size w w2) (hbox : w2.heap[gw]? = some (.cells cells 28 (0, 0))) (hnb : w.heap.size ≤ gw) (hnm : w.heap.size ≤ r) {mp : List ((Int × Int) × Int)} (hmap : IsM pairV (Value.int .i64) w2 r mp) {xs : List Int} (hown : Kd.R (Kd.int .i64) 3 w2 w.heap.size (fun _ => True) sl xs)
    (hnum : numTo key (k + 1) = (mp, xs ++ [x])) (hv : Kd.R (Kd.int .i64) 3 w1 w.heap.size (fun _ => True) v1 (xs ++ [x])) (hb : Below w.heap.size w w1) (hg : w2.grownBy w1 sl.ownBlock) : NS w gw r cells key (k + 1) v1 w1 := by
  refine ⟨hb, blk_grown hbox hg (Kd.R_ne hown hbox (by decide)), hnb, ?_, hnm, ?_⟩
  · rw [hnum]
    refine hmap.of_heap (hg.block r hmap.lt ?_)
    intro e
    obtain ⟨es, clock, hblk, _⟩ := hmap
    have h2 := R_notmap hown hblk
    exact (h2.1 r e.symm).2 rfl
  · rw [hnum]
    exact hv
theorem map_len_event {P : Program} {ops : Array Oper} {rest : List Oper} {o : Oper} {a : Act} {Q : Exit → Act → World → Prop} {W : World} {α β : Type} [DecidableEq α] {enc : α → Value} {encv : β → Value} (hgd : o.guard = none) (m : Operand) (t : TypeId) (ho : o.op = Op.call { callee := Callee.builtin Builtin.len, args := #[m], argTypes := #[t] }) {K E : TypeId} (hu : P.underlying t = some (.map K E)) {r : Nat} {l : List (α × β)}
    (hm : a.eval m = .map (some r)) (hM : IsM enc encv W r l)
    (h : wpList P ops Q rest (a.put o.dst (.int .i64 (l.length : Int))) W) : wpList P ops Q (o :: rest) a W := by
  obtain ⟨es, clock, hb, hl⟩ := hM
  have hlen : es.size = l.length := by
    have := congrArg List.length hl
    simpa using this
  refine Kd.event_run hgd ?_ h
  have h1 : (Builtin.len_ #[t] o.type #[.map (some r)]).run P W = .ok (.int .i64 (l.length : Int)) W := by
    simp [Builtin.len_, run_underlying hu, MapKept.run_getObj_map hb, goInt, Result.andThen, hlen]
  simp [execOp, ho, resolve, invoke, builtin, hm, h1, Result.andThen]
structure NP (w : World) (gw r : Nat) (cells : Array Value) (mp : List ((Int × Int) × Int)) (xs : List Int) (sl : Value) (wr : World) : Prop where
 below : Below w.heap.size w wr
 box : wr.heap[gw]? = some (.cells cells 28 (0, 0))
 newb : w.heap.size ≤ gw
 map : IsM pairV (Value.int .i64) wr r mp
 newm : w.heap.size ≤ r
 own : Kd.R (Kd.int .i64) 3 wr w.heap.size (fun _ => True) sl xs
theorem NS.put {w : World} {gw r : Nat} {cells : Array Value} {key : Nat → Int × Int} {k : Nat} {sl : Value} {wr w1 : World} (h : NS w gw r cells key k sl wr) {mp : List ((Int × Int) × Int)} (hm : IsM pairV (Value.int .i64) w1 r mp) (hk : KeepBut wr w1 r none) (hb : ∀ B u, Below B u wr → B ≤ r → Below B u w1) : NP w gw r cells mp (numTo key k).2 sl w1 := by
 have hne : gw ≠ r := by
  obtain ⟨es, clock, hblk, _⟩ := h.map
  intro e
  have := h.box
  rw [e, hblk] at this
  cases this
 refine ⟨hb _ _ h.below h.newm, hk.blk h.box hne (by simp), h.newb, hm, h.newm, ?_⟩
 obtain ⟨es, clock, hblk, _⟩ := h.map
 exact Kd.R_mono (Kd.R_keep (R_notmap h.own hblk) hk (fun _ hk => hk.2)) (fun _ hk => hk.1)
set_option maxRecDepth 100000 in
set_option maxHeartbeats 2000000 in
theorem numbered_calls (g : Nat) (lb : Array Value) (eg : ∀ args w, (callFunc g args).run Try.prog w = .ok (.enter g args) w) (key : Nat → Int × Int) (A0 : Option Addr) (n c0 : Nat) (A1 : Option Addr) (m c1 : Nat) (w : World) (hn : n ≤ 1000) (hp : KeyFn w g lb n key) :
    Calls Try.prog 81 #[.agg #[.slice A0 n c0, .slice A1 m c1], .func (.func g) #[] lb] w fun e w' => ∃ v, e = .returned v ∧ Kd.R (Kd.int .i64) 3 w' w.heap.size (fun _ => True) v (numTo key n).2 ∧ Below w.heap.size w w' := by
  have hu := Try.underlying28
  have hz0 : ∀ w, (zeroValue 3).run Try.prog w = .ok (.int .i64 0) w := fun _ => by kernel_rfl
  have HZ := Lib.hid hz0
  have HP := Lib.hid hp
  clear hz0 hp
  go_enter Try.func81, Try.ntmps81
  go_wp2_with (first | ((with_reducible refine gate_dst (N := 2) rfl ?_); refine box_event ?hg (N := 2) ?hd (cs := #[.slice A0 n c0, .slice A1 m c1]) (t := 28) ?hr ?_; (case hd => rfl); (case hg => rfl); (case hr => first | (go_simp; done) | (go_simp; rfl)); intro gw hgw wb hbw hbb; have HBX := Lib.hid hbw; have HGW := Lib.hid (Nat.le_of_eq hgw.symm); have HB0 := Lib.hid (bst (Below.refl w.heap.size w) hbb); have hw0 : wb.cell? ⟨gw, 0, none⟩ = some (.slice A0 n c0) := (blk_cell hbw 0).trans rfl; clear hgw hbw hbb) | ((with_reducible refine gate_op (op := .makeMap 108 none) rfl ?_); refine map_make_event rfl 108 rfl ?_; intro r wm hr hm hb; have HNS := Lib.hid (show NS w gw r #[.slice A0 n c0, .slice A1 m c1] key 0 (.slice none 0 0) wm from ⟨HB0.out.trans (hb.mono HB0.out.size), (hb.block gw (Array.getElem?_eq_some_iff.1 HBX.out).1).trans HBX.out, HGW.out, IsM.mk' (enc := pairV) (encv := Value.int .i64) (l := []) hm rfl, by rw [hr]; exact HB0.out.size, Kd.R_nil _ _ _ _ _⟩); have j0_ := pwc hb hw0; clear hw0 hm hb hr; have hw0 := j0_; clear j0_) | fail)
  clear HBX HB0 HGW
  go_wp2_with fail
  go_loopw [6, 14] (fun v i wr => ∃ (k : Nat) (sl : Value), k ≤ n ∧ i = .int .i64 k ∧ v = sl ∧ Hid (NS w gw r #[.slice A0 n c0, .slice A1 m c1] key k sl wr)) (fun _ i _ => n - (intOf i).toNat)
  case atStart => exact ⟨0, _, by omega, rfl, rfl, HNS⟩
  case round =>
    clear HNS
    obtain ⟨k, sl, hk, rfl, rfl, HNS⟩ := hrel
    by_cases hlt : k < n
    · have hcall := HP.out wr k hlt HNS.out.below
      have HC := Lib.hid hcall
      clear hcall
      cases hf : findL (numTo key k).1 (key k) with
      | some x =>
        have HF := Lib.hid hf
        have HN := Lib.hid (show numTo key (k + 1) = ((numTo key k).1, (numTo key k).2 ++ [x]) by rw [numTo, hf])
        clear hf
        go_wp2_with fail
        refine HC.out.mono ?_
        rintro e w2 ⟨rfl, hb⟩
        have HNS2 := Lib.hid (HNS.out.step hb)
        have hxs : ((numTo key k).2.length + 1) * 8 ≤ 140737488355328 := by rw [numTo_len]; omega
        have HXS := Lib.hid hxs
        clear hb hxs HNS HC
        obtain ⟨A, cp, rfl⟩ := Kd.R_slice HNS2.out.own
        go_wp2_with (first | ((with_reducible refine gate_dst (N := 22) rfl ?_); refine map_get_event rfl 108 (.tmp 18) (.tmp 21) true rfl Try.underlying108 (enc := pairV) (encv := Value.int .i64) HZ.out keyOk_pair (key k) rfl rfl HNS2.out.map ?_; rw [HF.out]; simp only [if_true, Option.getD_some, Option.isSome_some]) | (at_builtin; refine Kd.R_append (Kd.int .i64) (w0 := w) w.heap.size rfl (.tmp 34) (.tmp 36) 22 3 (.int .i64 0) 8 rfl Try.underlying22 info3' rfl (by decide) (by decide) (.slice A (numTo key k).2.length cp) (numTo key k).2 x [.int .i64 x] (fun _ => True) (fun _ => False) rfl rfl rfl (fun _ h => h.elim) (fun _ _ => trivial) HNS2.out.own HNS2.out.below HNS2.out.below.size HXS.out ?_; intro v1 w1 hv hb hg hat; have HNS3 := Lib.hid (NS.push HNS2.out.below HNS2.out.box HNS2.out.newb HNS2.out.newm HNS2.out.map HNS2.out.own HN.out hv hb hg); clear hv hb hg hat) | fail)
        go_roundw
        case rel => exact ⟨k + 1, _, by omega, by go_num, rfl, HNS3⟩
        case measure => simp [intOf]; omega
      | none =>
        have HF := Lib.hid hf
        have HN := Lib.hid (show numTo key (k + 1) = (putL (numTo key k).1 (key k) ((numTo key k).1.length : Int), (numTo key k).2 ++ [((numTo key k).1.length : Int)]) by rw [numTo, hf])
        clear hf
        go_wp2_with fail
        refine HC.out.mono ?_
        rintro e w2 ⟨rfl, hb⟩
        have HNS2 := Lib.hid (HNS.out.step hb)
        have hxs : ((numTo key k).2.length + 1) * 8 ≤ 140737488355328 := by rw [numTo_len]; omega
        have HXS := Lib.hid hxs
        clear hb hxs HNS HC
        obtain ⟨A, cp, rfl⟩ := Kd.R_slice HNS2.out.own
        have hcall2 := HP.out w2 k hlt HNS2.out.below
        have HC2 := Lib.hid hcall2
        clear hcall2
        go_wp2_with (first | ((with_reducible refine gate_dst (N := 22) rfl ?_); refine map_get_event rfl 108 (.tmp 18) (.tmp 21) true rfl Try.underlying108 (enc := pairV) (encv := Value.int .i64) HZ.out keyOk_pair (key k) rfl rfl HNS2.out.map ?_; rw [HF.out]; simp only [if_true, Option.getD_none, Option.isSome_none]) | ((with_reducible refine gate_dst (N := 28) rfl ?_); refine map_len_event rfl (.tmp 27) 108 rfl Try.underlying108 (enc := pairV) (encv := Value.int .i64) rfl HNS2.out.map ?_) | fail)
        refine HC2.out.mono ?_
        rintro e w3 ⟨rfl, hb3⟩
        have HNS3 := Lib.hid (HNS2.out.step hb3)
        clear hb3 HNS2 HC2
        go_wp2_with (first | ((with_reducible refine gate_op (op := .mapUpdate 108 (.tmp 29) (.tmp 32) (.tmp 33)) rfl ?_); refine map_put_event rfl 108 (.tmp 29) (.tmp 32) (.tmp 33) (Or.inr rfl) Try.underlying108 keyOk_pair (enc := pairV) (encv := Value.int .i64) (key k) ((numTo key k).1.length : Int) rfl rfl rfl HNS3.out.map ?_; intro wn hmm hkm hlm; have HNP := Lib.hid (NS.put HNS3.out hmm hkm hlm); clear hmm hkm hlm HNS3) | (at_builtin; refine Kd.R_append (Kd.int .i64) (w0 := w) w.heap.size rfl (.tmp 34) (.tmp 36) 22 3 (.int .i64 0) 8 rfl Try.underlying22 info3' rfl (by decide) (by decide) (.slice A (numTo key k).2.length cp) (numTo key k).2 ((numTo key k).1.length : Int) [.int .i64 ((numTo key k).1.length : Int)] (fun _ => True) (fun _ => False) rfl rfl rfl (fun _ h => h.elim) (fun _ _ => trivial) HNP.out.own HNP.out.below HNP.out.below.size HXS.out ?_; intro v1 w1 hv hb hg hat; have HNS4 := Lib.hid (NS.push HNP.out.below HNP.out.box HNP.out.newb HNP.out.newm HNP.out.map HNP.out.own HN.out hv hb hg); clear hv hb hg hat) | fail)
        go_roundw
        case rel => exact ⟨k + 1, _, by omega, by go_num, rfl, HNS4⟩
        case measure => simp [intOf]; omega
    · obtain rfl : k = n := by omega
      go_wp2
      go_ret
      exact ⟨_, rfl, HNS.out.own, HNS.out.below⟩
end Go.Proofs.Ytjffhhalmicodaa.X
end

section
set_option linter.unusedVariables false
set_option linter.unusedSimpArgs false
namespace Go.Proofs.Ytjffhhalmicodaa.X
open Go.RowKit Go.Proofs.G.PrintWords Go.Proofs.G.PrintLast Go.Proofs.G.PrintMore
theorem setCells_blk {g : Nat} {e : TypeId} : ∀ (vs : List Value) (o : Nat) (w : World) (cur : Array Value), w.heap[g]? = some (.cells cur e (0, 0)) → o + vs.length ≤ cur.size →
    ∃ cur', (w.setCells g o vs).heap[g]? = some (.cells cur' e (0, 0)) ∧ cur'.toList = cur.toList.take o ++ vs ++ cur.toList.drop (o + vs.length)
  | [], o, w, cur, h, _ => ⟨cur, h, by simp⟩
  | v :: vs, o, w, cur, h, hl => by
    obtain ⟨cur', h1, h2⟩ := setCells_blk vs (o + 1) (w.setCell ⟨g, o, none⟩ v) (cur.setIfInBounds o v) (blk_set h o v) (by simp at hl ⊢; omega)
    refine ⟨cur', h1, ?_⟩
    have hlt : o < cur.toList.length := by simp at hl ⊢; omega
    rw [h2, Array.toList_setIfInBounds, List.length_cons]
    have e1 : (cur.toList.set o v).take (o + 1) = cur.toList.take o ++ [v] := by
      rw [List.take_succ_eq_append_getElem (by simpa using hlt), List.take_set_of_le (Nat.le_refl _)]
      simp
    have e2 : (cur.toList.set o v).drop (o + 1 + vs.length) = cur.toList.drop (o + (vs.length + 1)) := by
      rw [List.drop_set_of_lt (by omega)]
      congr 1
      omega
    rw [e1, e2]
    simp
theorem setCells_other {g : Nat} : ∀ (vs : List Value) (o : Nat) (w : World), (w.setCells g o vs).os = w.os ∧ (w.setCells g o vs).tape = w.tape ∧ (w.setCells g o vs).output = w.output ∧ (w.setCells g o vs).heap.size = w.heap.size ∧ ∀ k, k ≠ g → (w.setCells g o vs).heap[k]? = w.heap[k]?
  | [], o, w => ⟨rfl, rfl, rfl, rfl, fun _ _ => rfl⟩
  | v :: vs, o, w => by
    obtain ⟨h1, h2, h3, h4, h5⟩ := setCells_other (g := g) vs (o + 1) (w.setCell ⟨g, o, none⟩ v)
    refine ⟨h1.trans rfl, h2.trans rfl, h3.trans rfl, h4.trans (by simp [World.setCell]), fun k hk => (h5 k hk).trans (Below.heap_setCell w ⟨g, o, none⟩ v k hk)⟩
section
variable {P : Program} {ops : Array Oper} {rest : List Oper} {o : Oper} {a : Act} {Q : Exit → Act → World → Prop} {W : World}
theorem whole_store_event (hN : o.dst = none) (hgd : o.guard = none) (t : TypeId) (p x : Operand) (ho : o.op = .store t p x) {g : Nat} {e : TypeId} {cur : Array Value} (u : Value) (seg : List Value) (haddr : a.eval p = .pointer (some ⟨g, 0, none⟩)) (hx : a.eval x = u) (hu : u.cells.toList = seg) (ht : (P.info? t).map (·.size) = some seg.length) (hsz : cur.size = seg.length) (h1 : ∀ q ∈ seg, q.oneCell' = true) (hh : W.heap[g]? = some (.cells cur e (0, 0)))
    (h : ∀ w1, w1.heap[g]? = some (.cells seg.toArray e (0, 0)) → KeepBut W w1 g none → (∀ B u, Below B u W → B ≤ g → Below B u w1) → wpList P ops Q rest a w1) : wpList P ops Q (o :: rest) a W := by
  obtain ⟨i, hi, hs⟩ := Option.map_eq_some_iff.1 ht
  have hc : u.cells.size = i.size := by rw [hs, ← hu, Array.length_toList]
  have hst := run_storeCells_cells (P := P) g 0 seg 0 W (fun j hj => by rw [cell_of_row W g _ cur e (0, 0) hh]; simp; omega) (fun j _ => blk_frozen hh _) h1
  simp only [Nat.add_zero] at hst
  obtain ⟨cur', k1, k2⟩ := setCells_blk seg 0 W cur hh (by omega)
  obtain ⟨s1, s2, s3, s4, s5⟩ := setCells_other (g := g) seg 0 W
  have hcur : cur' = seg.toArray := by
    apply Array.toList_inj.1
    rw [k2]
    simp [hsz]
  subst hcur
  refine wpList_plain hgd fun K hK => ?_
  have hrun : (execOp a.eval o).run P W = .ok .skip (W.setCells g 0 seg) := by
    unfold execOp
    simp [ho, haddr, hx, Instr.storeAt, Instr.sureAddr, storeVar, sizeOf, typeInfo, hi, hc, hu, hst, Result.andThen]
  unfold Oper.wp
  rw [hrun]
  show K (a.put o.dst undef) (W.setCells g 0 seg)
  rw [hN]
  exact hK _ _ (h _ k1 ⟨by rw [s4]; exact Nat.le_refl _, fun i _ hne _ => s5 i hne⟩ (fun B u hb hB => hb.trans ⟨s1, s2, s3, by rw [s4]; exact Nat.le_refl _, fun k hk => s5 k (by omega)⟩))
end
end Go.Proofs.Ytjffhhalmicodaa.X
end

section
set_option linter.unusedVariables false
set_option linter.unusedSimpArgs false
namespace Go.Proofs.Ytjffhhalmicodaa.X
open Go.RowKit Go.Proofs.G.PrintWords Go.Proofs.G.PrintLast Go.Proofs.G.PrintMore
theorem info99 : (Try.prog.info? 99).map (·.size) = some 2 := by kernel_rfl
theorem pair_cells (a b : Int) : (pairV (a, b)).cells.toList = [.int .i64 a, .int .i64 b] := rfl
theorem pair_one (a b : Int) : ∀ q ∈ [Value.int .i64 a, .int .i64 b], q.oneCell' = true := by simp [Value.oneCell']
set_option maxRecDepth 100000 in
set_option maxHeartbeats 1000000 in
theorem mark_calls (bw b off m c1 s : Nat) (x : Int) (W : World) (hw : W.cell? ⟨bw, 1, none⟩ = some (.slice (some ⟨b, off, none⟩) m c1))
    (hsn : s < m) (_hn : m ≤ 9223372036854775807) (hx : W.cell? ⟨b, off + s, none⟩ = some (.int .i64 x)) :
    Calls Try.prog 82 #[.int .i64 s, .pointer (some ⟨bw, 0, none⟩)] W fun e w' => e = .returned (pairV (x, 0)) ∧ Below W.heap.size W w' := by
  have hu := Try.underlying28
  have h1 : (s : Int) < (m : Int) := by omega
  have hz : ∀ w, (zeroValue 99).run Try.prog w = .ok (.agg #[.int .i64 0, .int .i64 0]) w := fun _ => by kernel_rfl
  go_enter Try.func82, Try.ntmps82
  go_wp2_with (first | ((with_reducible refine gate_dst (N := 3) rfl ?_); refine box_event ?hg (N := 3) ?hd (cs := #[.int .i64 0, .int .i64 0]) (t := 99) ?hr ?_; (case hd => rfl); (case hg => rfl); (case hr => kernel_rfl); intro gw hgw wb hbw hbb; have k0_ := pwc hbb hw; have k1_ := pwc hbb hx; clear hw hx; have hw := k0_; have hx := k1_; clear k0_ k1_; have HGW := Lib.hid (Nat.le_of_eq hgw.symm); have HB := Lib.hid hbb; have HBW := Lib.hid hbw; clear hbb hbw hgw) | ((with_reducible refine gate_op (op := .store 99 (.tmp 3) (.tmp 9)) rfl ?_); refine whole_store_event rfl rfl 99 (.tmp 3) (.tmp 9) rfl (g := gw) (cur := #[.int .i64 0, .int .i64 0]) (pairV (x, 0)) [.int .i64 x, .int .i64 0] rfl rfl (pair_cells x 0) info99 rfl (pair_one x 0) HBW.out ?_; intro w1 hw1 hk1 hb1; have HB1 := Lib.hid (hb1 _ _ HB.out HGW.out); have g0 : w1.cell? ⟨gw, 0, none⟩ = some (.int .i64 x) := (blk_cell hw1 0).trans rfl; have g1 : w1.cell? ⟨gw, 1, none⟩ = some (.int .i64 0) := (blk_cell hw1 1).trans rfl; clear hw1 hk1 hb1 HB HBW) | fail)
  exact bodyPost_ret (v := pairV (x, 0)) (by simp [results, Try.results82, go_sem, pairV, g0, g1, Result.andThen]) rfl ⟨rfl, HB1.out⟩
theorem shr_at (x : Int) {t : Nat} (h : t ≤ 64) : shr .i64 x (t : Int) = x / 2 ^ t := by
  unfold shr
  rw [Int.toNat_natCast, show min t IntKind.i64.bits = t from Nat.min_eq_left h]
theorem shl_at {y : Int} (h0 : 0 ≤ y) (h : y ≤ 64) : shl .i64 1 y = wrap64 (2 ^ y.toNat) := by
  unfold shl
  rw [show min y.toNat IntKind.i64.bits = y.toNat from Nat.min_eq_left (show y.toNat ≤ 64 by omega), Int.one_mul, IntKind.wrap_i64]
  unfold wrap64
  omega
set_option maxRecDepth 100000 in
set_option maxHeartbeats 2000000 in
theorem next_calls (bw b off n c0 s bl b2 off2 c2 : Nat) (nx last : List Int) (hl : last.length = nx.length) (hn : n = nx.length) (W : World) (hw : W.cell? ⟨bw, 0, none⟩ = some (.slice (some ⟨b, off, none⟩) n c0)) (hlc : W.cell? ⟨bl, 0, none⟩ = some (.slice (some ⟨b2, off2, none⟩) n c2))
    (hsn : s < n) (_hn : n ≤ 61) (hx : W.cell? ⟨b, off + s, none⟩ = some (.int .i64 (rd nx s))) (hy : ∀ i : Nat, i < n → W.cell? ⟨b2, off2 + i, none⟩ = some (.int .i64 (rd last i))) (hr : ∀ i : Nat, i < n → 0 ≤ rd last i ∧ rd last i < n) :
    Calls Try.prog 83 #[.int .i64 s, .pointer (some ⟨bl, 0, none⟩), .pointer (some ⟨bw, 0, none⟩)] W fun e w' => e = .returned (pairV (setKey nx last s)) ∧ Below W.heap.size W w' := by
  have hu := Try.underlying28
  have h1 : (s : Int) < (n : Int) := by omega
  have HY := Lib.hid hy
  have HR := Lib.hid hr
  have HN := Lib.hid hn
  have HL := Lib.hid hl
  have hys := hy s hsn
  clear hy hr hn hl
  go_enter Try.func83, Try.ntmps83
  go_wp2_with (first | ((with_reducible refine gate_dst (N := 4) rfl ?_); refine box_event ?hg (N := 4) ?hd (cs := #[.int .i64 0, .int .i64 0]) (t := 99) ?hr ?_; (case hd => rfl); (case hg => rfl); (case hr => kernel_rfl); intro gw hgw wb hbw hbb; have k0_ := pwc hbb hw; have k1_ := pwc hbb hx; have k2_ := pwc hbb hlc; have k3_ := pwc hbb hys; have HY2 := Lib.hid (show ∀ i : Nat, i < n → wb.cell? ⟨b2, off2 + i, none⟩ = some (.int .i64 (rd last i)) from fun i hi => pwc hbb (HY.out i hi)); clear hw hx hlc hys; have hw := k0_; have hx := k1_; have hlc := k2_; have hys := k3_; clear k0_ k1_ k2_ k3_; have HGW := Lib.hid (Nat.le_of_eq hgw.symm); have HB := Lib.hid hbb; have HBW := Lib.hid hbw; clear hbb hbw hgw HY) | fail)
  go_loop [5, 10] (fun v i => ∃ t : Nat, t ≤ n ∧ i = .int .i64 t ∧ v = .int .i64 (setTo nx last s t)) (fun _ i => n - (intOf i).toNat)
  case atStart => exact ⟨0, by omega, rfl, rfl⟩
  case round =>
    obtain ⟨t, ht, rfl, rfl⟩ := hrel
    by_cases hlt : t < n
    · have hy := HY2.out t hlt
      have hr := HR.out t hlt
      have hsh : ((t : Int)) < 64 := by omega
      by_cases hb : bits .and .i64 (shr .i64 (rd nx s) (t : Int)) 1 = 1
      · have HB3 := Lib.hid (show bits .or .i64 (setTo nx last s t) (wrap64 (2 ^ (rd last (t : Int)).toNat)) = setTo nx last s (t + 1) by rw [setTo, if_pos hb, shl_at hr.1 (by omega)])
        have hbb : (bits .and .i64 (rd nx s / 2 ^ t) 1 == 1) = true := by rw [← shr_at _ (show t ≤ 64 by omega)]; exact beq_iff_eq.2 hb
        clear hb
        go_wp2
        go_round
        case rel => exact ⟨t + 1, by omega, by go_num, by rw [← HB3.out]⟩
        case measure => simp [intOf]; omega
      · have HB3 := Lib.hid (show setTo nx last s t = setTo nx last s (t + 1) by rw [setTo, if_neg hb])
        have hbb : (bits .and .i64 (rd nx s / 2 ^ t) 1 == 1) = false := by rw [← shr_at _ (show t ≤ 64 by omega)]; exact beq_eq_false_iff_ne.2 hb
        clear hb
        go_wp2
        go_round
        case rel => exact ⟨t + 1, by omega, by go_num, by rw [← HB3.out]⟩
        case measure => simp [intOf]; omega
    · obtain rfl : t = n := by omega
      go_wp2_with (first | ((with_reducible refine gate_op (op := .store 99 (.tmp 4) (.tmp 34)) rfl ?_); refine whole_store_event rfl rfl 99 (.tmp 4) (.tmp 34) rfl (g := gw) (cur := #[.int .i64 0, .int .i64 0]) (pairV (rd last s, setTo nx last s t)) [.int .i64 (rd last s), .int .i64 (setTo nx last s t)] rfl rfl (pair_cells _ _) info99 rfl (pair_one _ _) HBW.out ?_; intro w1 hw1 hk1 hb1; have HB1 := Lib.hid (hb1 _ _ HB.out HGW.out); have g0 : w1.cell? ⟨gw, 0, none⟩ = some (.int .i64 (rd last s)) := (blk_cell hw1 0).trans rfl; have g1 : w1.cell? ⟨gw, 1, none⟩ = some (.int .i64 (setTo nx last s t)) := (blk_cell hw1 1).trans rfl; clear hw1 hk1 hb1 HB HBW) | fail)
      exact bodyPost_ret (v := pairV (rd last s, setTo nx last s t)) (by simp [results, Try.results83, go_sem, pairV, g0, g1, Result.andThen]) rfl ⟨by unfold setKey; rw [HL.out, ← HN.out], HB1.out⟩
end Go.Proofs.Ytjffhhalmicodaa.X
end

section
namespace Go.Proofs.Ytjffhhalmicodaa.PB
open Go.RowKit Go.Proofs.G.PrintWords Go.Proofs.G.PrintLast Go.Proofs.G.PrintMore
attribute [local go_sem] max2_int min2_int max_two min_two max_three min_three max_four min_four
set_option linter.unusedVariables false
set_option linter.unusedSimpArgs false
def errW : Option Int → Value
  | none => .nilIface
  | some c => .iface 0 (.int .i64 c)
theorem errW_none : errW none = .nilIface := rfl
theorem errW_some (c : Int) : errW (some c) = .iface 0 (.int .i64 c) := rfl
end Go.Proofs.Ytjffhhalmicodaa.PB
end

section
namespace Go.Proofs.Ytjffhhalmicodaa.PB
open Go.RowKit Go.Proofs.G.PrintWords Go.Proofs.G.PrintLast Go.Proofs.G.PrintMore
attribute [local go_sem] max2_int min2_int max_two min_two max_three min_three max_four min_four
set_option linter.unusedVariables false
set_option linter.unusedSimpArgs false
mutual
def r8Valid.j0 : Nat → Int → Bool → List Int → List Int → Option (Bool)
  | 0, _, _, _, _ => none
  | k + 1, x3, x21, x121000, x121001 => if x21 = true then (some false) else (r8Valid.l0 k x3 x121000 (x121000.length : Int) 0 x121000 x121001)
def r8Valid.l0 : Nat → Int → List Int → Int → Int → List Int → List Int → Option (Bool)
  | 0, _, _, _, _, _, _ => none
  | k + 1, x3, x23, x24, x25, x121000, x121001 => if x25 < x24 then (if 0 ≤ x25 then (if x25 < (x23.length : Int) then (if (rd x23 x25) < 0 then (some false) else (if 0 ≤ x3 then (if (rd x23 x25) ≥ (shl .i64 1 x3) then (some false) else (if x25 < (x121001.length : Int) then (if (rd x121001 x25) < 0 then (some false) else (if (rd x121001 x25) > 15 then (some false) else (r8Valid.l0 k x3 x23 x24 (wrap64 (x25 + 1)) x121000 x121001))) else (none))) else (none))) else (none)) else (none)) else (some true)
end
def r8Valid.f (k : Nat) (l0_0 : List Int) (l0_1 : List Int) : Option (Bool) := if (l0_0.length : Int) < 1 then (r8Valid.j0 k (l0_0.length : Int) true l0_0 l0_1) else (if (l0_0.length : Int) > 6 then (r8Valid.j0 k (l0_0.length : Int) true l0_0 l0_1) else (r8Valid.j0 k (l0_0.length : Int) ((l0_1.length : Int) != (l0_0.length : Int)) l0_0 l0_1))
theorem r8Valid.mono_l : ∀ k, (∀ y0 y1 y2 y3, LeO (r8Valid.j0 k y0 y1 y2 y3) (r8Valid.j0 (k + 1) y0 y1 y2 y3)) ∧ (∀ y0 y1 y2 y3 y4 y5, LeO (r8Valid.l0 k y0 y1 y2 y3 y4 y5) (r8Valid.l0 (k + 1) y0 y1 y2 y3 y4 y5))
 | 0 => ⟨fun _ _ _ _ r h => by simp [r8Valid.j0] at h, fun _ _ _ _ _ _ r h => by simp [r8Valid.l0] at h⟩
 | k + 1 => by
  obtain ⟨ih0, ih1⟩ := r8Valid.mono_l k
  refine ⟨?_, ?_⟩
  ·intro y0 y1 y2 y3
   unfold r8Valid.j0
   repeat' first
   | (with_reducible exact ih0 _ _ _ _)
   | (with_reducible exact ih1 _ _ _ _ _ _)
   | (with_reducible exact LeO.refl _)
   | (with_reducible exact LeO.none _)
   | (with_reducible refine LeO.ite ?_ ?_)
   | (with_reducible refine LeO.bind ?_ (fun _ => ?_))
   | exact ih0 _ _ _ _
   | exact ih1 _ _ _ _ _ _
   | exact LeO.none _
   | refine LeO.ite ?_ ?_
   | refine LeO.bind ?_ (fun _ => ?_)
  ·intro y0 y1 y2 y3 y4 y5
   unfold r8Valid.l0
   repeat' first
   | (with_reducible exact ih0 _ _ _ _)
   | (with_reducible exact ih1 _ _ _ _ _ _)
   | (with_reducible exact LeO.refl _)
   | (with_reducible exact LeO.none _)
   | (with_reducible refine LeO.ite ?_ ?_)
   | (with_reducible refine LeO.bind ?_ (fun _ => ?_))
   | exact ih0 _ _ _ _
   | exact ih1 _ _ _ _ _ _
   | exact LeO.none _
   | refine LeO.ite ?_ ?_
   | refine LeO.bind ?_ (fun _ => ?_)
theorem r8Valid.mono : ∀ a0 a1 k, LeO (r8Valid.f k a0 a1) (r8Valid.f (k + 1) a0 a1) := by
  intro a0 a1 k
  obtain ⟨ih0, ih1⟩ := r8Valid.mono_l k
  unfold r8Valid.f
  repeat' first
      | (with_reducible exact ih0 _ _ _ _)
      | (with_reducible exact ih1 _ _ _ _ _ _)
      | (with_reducible exact LeO.refl _)
      | (with_reducible exact LeO.none _)
      | (with_reducible refine LeO.ite ?_ ?_)
      | (with_reducible refine LeO.bind ?_ (fun _ => ?_))
      | exact ih0 _ _ _ _
      | exact ih1 _ _ _ _ _ _
      | exact LeO.none _
      | refine LeO.ite ?_ ?_
      | refine LeO.bind ?_ (fun _ => ?_)
set_option maxHeartbeats 8000000 in
set_option maxRecDepth 100000 in
theorem r8Valid.calls (k : Nat) (A0_0 : Option Addr) (c0_0 : Nat) (l0_0 : List Int) (A0_1 : Option Addr) (c0_1 : Nat) (l0_1 : List Int) (r : Bool) (w : World) (hr0_0 : Kd.C (Kd.int .i64) w A0_0 l0_0.length l0_0) (hc0_0 : l0_0.length ≤ c0_0) (hr0_1 : Kd.C (Kd.int .i64) w A0_1 l0_1.length l0_1) (hc0_1 : l0_1.length ≤ c0_1) (h : r8Valid.f k l0_0 l0_1 = some r) :
  Calls Try.prog 21 #[.agg #[.slice A0_0 l0_0.length c0_0, .slice A0_1 l0_1.length c0_1]] w fun e w' => e = .returned (.bool r) ∧ Below w.heap.size w w' := by
 have hu24 := Try.underlying24
 have HR0_0 := As0.mk hr0_0
 have HC0_0 := As0.mk hc0_0
 clear hr0_0 hc0_0
 have HR0_1 := As0.mk hr0_1
 have HC0_1 := As0.mk hc0_1
 clear hr0_1 hc0_1
 have HB := As0.mk (Below.refl w.heap.size w)
 have H : (if (l0_0.length : Int) < 1 then (r8Valid.j0 k (l0_0.length : Int) true l0_0 l0_1) else (if (l0_0.length : Int) > 6 then (r8Valid.j0 k (l0_0.length : Int) true l0_0 l0_1) else (r8Valid.j0 k (l0_0.length : Int) ((l0_1.length : Int) != (l0_0.length : Int)) l0_0 l0_1))) = some r := h
 clear h
 have HC2 := As0.mk H
 clear H
 go_enter Try.func21, Try.ntmps21
 go_upto_region 2 with (first | ((with_reducible refine gate_dst (N := 1) rfl ?_); (try (refine gate_guard (by rfl) ?_; dsimp only)); refine box_event ?hg (N := 1) ?hd (cs := #[.slice A0_0 l0_0.length c0_0, .slice A0_1 l0_1.length c0_1]) (t := 24) ?hr ?_; (case hd => rfl); (case hg => rfl); (case hr => first | (go_simp; done) | (go_simp; rfl)); intro gb120 hg w3 hbox hb; have n0_ := As0.mk (bst (by repeat (first | (with_reducible first | exact HB.out | apply below_alloc | apply pwd | apply bd1) | exact HB.out)) hb); have n1_ := As0.mk (hbox); have n2_ := As0.mk ((by rw [hg]; exact (below_size (by repeat (first | (with_reducible first | exact HB.out | apply below_alloc | apply pwd | apply bd1) | exact HB.out))) : w.heap.size ≤ gb120)); have n3_ := As0.mk ((by rw [hg]; exact (below_size (by repeat (first | (with_reducible first | exact HB.out | apply below_alloc | apply pwd | apply bd1) | exact HB.out))) : w.heap.size ≤ gb120)); clear HB; have HB := n0_; have BK120 := n1_; have GW120 := n2_; have GE120 := n3_; clear n0_ n1_ n2_ n3_; clear hb hbox hg; have hcz4_0 : w3.cell? ⟨gb120, 0, none⟩ = some (.slice A0_0 l0_0.length c0_0) := (blk_cell BK120.out 0).trans rfl; have hcz4_1 : w3.cell? ⟨gb120, 1, none⟩ = some (.slice A0_1 l0_1.length c0_1) := (blk_cell BK120.out 1).trans rfl; have hfz4_0 := blk_frozen BK120.out 0; have hfz4_1 := blk_frozen BK120.out 1))
 (try simp only [Act.put, List.setIfInBounds_toArray, List.set_cons_zero, List.set_cons_succ])
 go_cut [21] (fun v21 wc => ∃ (kq : Nat) (x21_1 : Bool), v21 = .bool x21_1 ∧ As0 (r8Valid.j0 kq (l0_0.length : Int) x21_1 l0_0 l0_1 = some r) ∧ As0 (kq ≤ k) ∧ As0 (wc.heap[gb120]? = some (.cells #[(.slice A0_0 l0_0.length c0_0), (.slice A0_1 l0_1.length c0_1)] 24 (0, 0))) ∧ As0 (Below w.heap.size w wc))
 case first =>
  have H := HC2.out
  clear HC2
  by_cases c5 : (l0_0.length : Int) < 1
  ·rw [if_pos c5] at H
   have c5b0 : decide ((l0_0.length : Int) < 1) = true := decide_eq_true c5
   have c5b1 : decide (l0_0.length < 1) = true := decide_eq_true (by omega)
   clear c5
   (first | rw [c5b0] | (simp only [i64_w, i32_w]; rw [c5b0]) | skip)
   have H' := As0.mk H
   clear H
   go_wp2
   go_meet
   case rel => exact ⟨_, (true), (by first | rfl | (simp; done) | (simp [*]; done)), H', ⟨by first | omega | exact Nat.le_refl _⟩, ⟨by (with_reducible repeat (first | refine blk_drewN ?_ _ | refine blk_drew ?_ | refine blk_alloc ?_ _)); exact BK120.out⟩, ⟨by repeat (first | (with_reducible first | exact HB.out | apply below_alloc | apply pwd | apply bd1 | refine below_set ?_ GE120.out) | exact HB.out)⟩⟩
  ·rw [if_neg c5] at H
   have c5b0 : decide ((l0_0.length : Int) < 1) = false := decide_eq_false c5
   have c5b1 : decide (l0_0.length < 1) = false := decide_eq_false (by omega)
   clear c5
   (first | rw [c5b0] | (simp only [i64_w, i32_w]; rw [c5b0]) | skip)
   by_cases c6 : (l0_0.length : Int) > 6
   ·rw [if_pos c6] at H
    have c6b0 : decide (6 < (l0_0.length : Int)) = true := decide_eq_true c6
    have c6b1 : decide (6 < l0_0.length) = true := decide_eq_true (by omega)
    clear c6
    have H' := As0.mk H
    clear H
    go_wp2
    go_meet
    case rel => exact ⟨_, (true), (by first | rfl | (simp; done) | (simp [*]; done)), H', ⟨by first | omega | exact Nat.le_refl _⟩, ⟨by (with_reducible repeat (first | refine blk_drewN ?_ _ | refine blk_drew ?_ | refine blk_alloc ?_ _)); exact BK120.out⟩, ⟨by repeat (first | (with_reducible first | exact HB.out | apply below_alloc | apply pwd | apply bd1 | refine below_set ?_ GE120.out) | exact HB.out)⟩⟩
   ·rw [if_neg c6] at H
    have c6b0 : decide (6 < (l0_0.length : Int)) = false := decide_eq_false c6
    have c6b1 : decide (6 < l0_0.length) = false := decide_eq_false (by omega)
    clear c6
    have H' := As0.mk H
    clear H
    have hcz7_0 : w3.cell? ⟨gb120, 0, none⟩ = some (.slice A0_0 l0_0.length c0_0) := (blk_cell BK120.out 0).trans rfl
    have hcz7_1 : w3.cell? ⟨gb120, 1, none⟩ = some (.slice A0_1 l0_1.length c0_1) := (blk_cell BK120.out 1).trans rfl
    have hfz7_0 := blk_frozen BK120.out 0
    have hfz7_1 := blk_frozen BK120.out 1
    go_wp2
    go_meet
    case rel => exact ⟨_, (((l0_1.length : Int) != (l0_0.length : Int))), (by first | rfl | (simp; done) | (simp [*]; done)), H', ⟨by first | omega | exact Nat.le_refl _⟩, ⟨by (with_reducible repeat (first | refine blk_drewN ?_ _ | refine blk_drew ?_ | refine blk_alloc ?_ _)); exact BK120.out⟩, ⟨by repeat (first | (with_reducible first | exact HB.out | apply below_alloc | apply pwd | apply bd1 | refine below_set ?_ GE120.out) | exact HB.out)⟩⟩
 case rest =>
  clear HC2
  try clear c2
  try clear p2
  try clear c5
  try clear c5b0
  try clear c5b1
  try clear c6
  try clear c6b0
  try clear c6b1
  try clear hcz4_0
  try clear hcz4_1
  try clear hcz7_0
  try clear hcz7_1
  try clear hfz4_0
  try clear hfz4_1
  try clear hfz7_0
  try clear hfz7_1
  obtain ⟨kq, x21_1, rfl, HA, HJ1, BK120, HB⟩ := hcut
  cases kq with
  | zero => exact absurd HA.out (by simp [r8Valid.j0])
  | succ kj1 =>
   have H := HA.out
   clear HA
   simp only [r8Valid.j0] at H
   by_cases c8 : x21_1 = true
   ·subst c8
    have H1 : (some false) = some r := by rw [if_pos rfl] at H; exact H
    clear H
    have H := H1
    clear H1
    obtain rfl := Option.some.inj H
    go_wp2
    go_ret
    exact ⟨by first | rfl | (simp [errW_none, errW_some] <;> rfl) | (simp [*, errW_none, errW_some] <;> rfl), by repeat (first | (with_reducible first | exact HB.out | apply below_alloc | apply pwd | apply bd1 | refine below_set ?_ GE120.out) | exact HB.out)⟩
   ·replace c8 := Bool.eq_false_iff.mpr c8
    subst c8
    have H1 : (r8Valid.l0 kj1 (l0_0.length : Int) l0_0 (l0_0.length : Int) 0 l0_0 l0_1) = some r := by rw [if_neg (show ¬ (false = true) by decide)] at H; exact H
    clear H
    have H := H1
    clear H1
    have H' := As0.mk H
    clear H
    have hcz9_0 : wc.cell? ⟨gb120, 0, none⟩ = some (.slice A0_0 l0_0.length c0_0) := (blk_cell BK120.out 0).trans rfl
    have hcz9_1 : wc.cell? ⟨gb120, 1, none⟩ = some (.slice A0_1 l0_1.length c0_1) := (blk_cell BK120.out 1).trans rfl
    have hfz9_0 := blk_frozen BK120.out 0
    have hfz9_1 := blk_frozen BK120.out 1
    go_wp2
    go_loopg [25] kj1 (fun kq v25 w' => ∃ (x25_2 : Int), v25 = .int .i64 x25_2 ∧ As0 (r8Valid.l0 kq (l0_0.length : Int) l0_0 (l0_0.length : Int) x25_2 l0_0 l0_1 = some r) ∧ As0 (kq ≤ kj1) ∧ As0 (w'.heap[gb120]? = some (.cells #[(.slice A0_0 l0_0.length c0_0), (.slice A0_1 l0_1.length c0_1)] 24 (0, 0))) ∧ As0 (Below w.heap.size w w'))
    case atStart => exact ⟨(0), (by first | rfl | (simp; done) | (simp [*]; done)), H', ⟨Nat.le_refl _⟩, ⟨by (with_reducible repeat (first | refine blk_drewN ?_ _ | refine blk_drew ?_ | refine blk_alloc ?_ _)); exact BK120.out⟩, ⟨by repeat (first | (with_reducible first | exact HB.out | apply below_alloc | apply pwd | apply bd1 | refine below_set ?_ GE120.out) | exact HB.out)⟩⟩
    case round =>
     clear H'
     try clear c2
     try clear p2
     try clear c5
     try clear c5b0
     try clear c5b1
     try clear c6
     try clear c6b0
     try clear c6b1
     try clear c8
     try clear hcz4_0
     try clear hcz4_1
     try clear hcz7_0
     try clear hcz7_1
     try clear hcz9_0
     try clear hcz9_1
     try clear hfz4_0
     try clear hfz4_1
     try clear hfz7_0
     try clear hfz7_1
     try clear hfz9_0
     try clear hfz9_1
     try clear p2
     obtain ⟨x25_2, rfl, HA, HK2, BK120, HB⟩ := hrel
     cases gk with
     | zero => exact absurd HA.out (by simp [r8Valid.l0])
     | succ k2 =>
      have H := HA.out
      clear HA
      simp only [r8Valid.l0] at H
      by_cases c10 : x25_2 < (l0_0.length : Int)
      ·rw [if_pos c10] at H
       have c10b0 : decide (x25_2 < (l0_0.length : Int)) = true := decide_eq_true c10
       clear c10
       by_cases c11 : 0 ≤ x25_2
       ·rw [if_pos c11] at H
        have c11b0 : decide (0 ≤ x25_2) = true := decide_eq_true c11
        clear c11
        by_cases c12 : x25_2 < (l0_0.length : Int)
        ·rw [if_pos c12] at H
         have c12b0 : decide (x25_2 < (l0_0.length : Int)) = true := decide_eq_true c12
         clear c12
         by_cases c13 : (rd l0_0 x25_2) < 0
         ·rw [if_pos c13] at H
          have c13b0 : decide ((rd l0_0 x25_2) < 0) = true := decide_eq_true c13
          clear c13
          obtain rfl := Option.some.inj H
          have p121 : 0 ≤ (x25_2 : Int) := of_decide_eq_true (by first | (with_reducible assumption) | assumption)
          have q121 : x25_2 < (l0_0.length : Int) := of_decide_eq_true (by first | (with_reducible assumption) | assumption)
          obtain ⟨ad121, e121, hx121_0⟩ := Kd.at_int HR0_0.out x25_2 p121 q121
          cases e121
          replace hx121_0 := (HB.out.cell (World.block_lt_of_cell? w _ hx121_0)).trans hx121_0
          replace p121 := eq_true p121
          replace q121 := eq_true q121
          go_wp2
          go_ret
          exact ⟨by first | rfl | (simp [errW_none, errW_some] <;> rfl) | (simp [*, errW_none, errW_some] <;> rfl), by repeat (first | (with_reducible first | exact HB.out | apply below_alloc | apply pwd | apply bd1 | refine below_set ?_ GE120.out) | exact HB.out)⟩
         ·rw [if_neg c13] at H
          have c13b0 : decide ((rd l0_0 x25_2) < 0) = false := decide_eq_false c13
          clear c13
          by_cases c14 : 0 ≤ (l0_0.length : Int)
          ·rw [if_pos c14] at H
           have c14b0 := eq_true c14
           have c14b1 : decide (0 ≤ (l0_0.length : Int)) = true := decide_eq_true c14
           clear c14
           obtain ⟨ji15, hji15⟩ : ∃ j_ : Int, (shl .i64 1 (l0_0.length : Int)) = j_ := ⟨_, rfl⟩
           replace H : (if (rd l0_0 x25_2) ≥ (ji15) then (some false) else (if x25_2 < (l0_1.length : Int) then (if (rd l0_1 x25_2) < 0 then (some false) else (if (rd l0_1 x25_2) > 15 then (some false) else (r8Valid.l0 k2 (l0_0.length : Int) l0_0 (l0_0.length : Int) (wrap64 (x25_2 + 1)) l0_0 l0_1))) else (none))) = some r := by first | (rw [hji15] at H; exact H) | (simp only [hji15] at H ⊢; exact H)
           have hji15_ : (IntKind.i64.wrap (1 * 2 ^ min (l0_0.length : Int).toNat 64)) = ji15 := hji15
           have hji15z : (l0_0.length : Int) ≤ 64 → (IntKind.i64.wrap (1 * 2 ^ (l0_0.length : Int).toNat)) = ji15 := shl_small hji15
           have hji15p : (IntKind.i64.wrap (1 * 2 ^ min l0_0.length 64)) = ji15 := hji15_
           have hji15q : (l0_0.length : Int) ≤ 64 → (IntKind.i64.wrap (1 * 2 ^ l0_0.length)) = ji15 := hji15z
           have hji15r : (IntKind.i64.wrap (2 ^ min l0_0.length 64)) = ji15 := by have h_ := hji15p; rw [Int.one_mul] at h_; exact h_
           have hji15s : (l0_0.length : Int) ≤ 64 → (IntKind.i64.wrap (2 ^ l0_0.length)) = ji15 := fun hle_ => by have h_ := hji15q hle_; rw [Int.one_mul] at h_; exact h_
           have hji15u : (IntKind.i64.wrap (2 ^ min (l0_0.length : Int).toNat 64)) = ji15 := by have h_ := hji15_; rw [Int.one_mul] at h_; exact h_
           have hji15v : (l0_0.length : Int) ≤ 64 → (IntKind.i64.wrap (2 ^ (l0_0.length : Int).toNat)) = ji15 := fun hle_ => by have h_ := hji15z hle_; rw [Int.one_mul] at h_; exact h_
           have hji15y : (wrap64 (1 * 2 ^ min (l0_0.length : Int).toNat 64)) = ji15 := (i64_w _).symm.trans hji15_
           have hji15x : (l0_0.length : Int) ≤ 64 → (wrap64 (1 * 2 ^ (l0_0.length : Int).toNat)) = ji15 := fun h_ => (i64_w _).symm.trans (hji15z h_)
           by_cases c16 : (rd l0_0 x25_2) ≥ (ji15)
           ·rw [if_pos c16] at H
            have c16b0 : decide ((ji15) ≤ (rd l0_0 x25_2)) = true := decide_eq_true c16
            clear c16
            obtain rfl := Option.some.inj H
            have p121 : 0 ≤ (x25_2 : Int) := of_decide_eq_true (by first | (with_reducible assumption) | assumption)
            have q121 : x25_2 < (l0_0.length : Int) := of_decide_eq_true (by first | (with_reducible assumption) | assumption)
            obtain ⟨ad121, e121, hx121_0⟩ := Kd.at_int HR0_0.out x25_2 p121 q121
            cases e121
            replace hx121_0 := (HB.out.cell (World.block_lt_of_cell? w _ hx121_0)).trans hx121_0
            replace p121 := eq_true p121
            replace q121 := eq_true q121
            go_wp2
            go_ret
            exact ⟨by first | rfl | (simp [errW_none, errW_some] <;> rfl) | (simp only [← hji15]; first | rfl | (simp [errW_none, errW_some] <;> rfl)) | (simp [*, errW_none, errW_some] <;> rfl), by repeat (first | (with_reducible first | exact HB.out | apply below_alloc | apply pwd | apply bd1 | refine below_set ?_ GE120.out) | exact HB.out)⟩
           ·rw [if_neg c16] at H
            have c16b0 : decide ((ji15) ≤ (rd l0_0 x25_2)) = false := decide_eq_false c16
            clear c16
            by_cases c17 : x25_2 < (l0_1.length : Int)
            ·rw [if_pos c17] at H
             have c17b0 : decide (x25_2 < (l0_1.length : Int)) = true := decide_eq_true c17
             clear c17
             by_cases c18 : (rd l0_1 x25_2) < 0
             ·rw [if_pos c18] at H
              have c18b0 : decide ((rd l0_1 x25_2) < 0) = true := decide_eq_true c18
              clear c18
              obtain rfl := Option.some.inj H
              have p121 : 0 ≤ (x25_2 : Int) := of_decide_eq_true (by first | (with_reducible assumption) | assumption)
              have q121 : x25_2 < (l0_0.length : Int) := of_decide_eq_true (by first | (with_reducible assumption) | assumption)
              obtain ⟨ad121, e121, hx121_0⟩ := Kd.at_int HR0_0.out x25_2 p121 q121
              cases e121
              replace hx121_0 := (HB.out.cell (World.block_lt_of_cell? w _ hx121_0)).trans hx121_0
              replace p121 := eq_true p121
              replace q121 := eq_true q121
              have hcz19_0 : wr.cell? ⟨gb120, 0, none⟩ = some (.slice (some ad121) l0_0.length c0_0) := (blk_cell BK120.out 0).trans rfl
              have hcz19_1 : wr.cell? ⟨gb120, 1, none⟩ = some (.slice A0_1 l0_1.length c0_1) := (blk_cell BK120.out 1).trans rfl
              have hfz19_0 := blk_frozen BK120.out 0
              have hfz19_1 := blk_frozen BK120.out 1
              have p122 : 0 ≤ (x25_2 : Int) := of_decide_eq_true (by first | (with_reducible assumption) | assumption)
              have q122 : x25_2 < (l0_1.length : Int) := of_decide_eq_true (by first | (with_reducible assumption) | assumption)
              obtain ⟨ad122, e122, hx122_0⟩ := Kd.at_int HR0_1.out x25_2 p122 q122
              cases e122
              replace hx122_0 := (HB.out.cell (World.block_lt_of_cell? w _ hx122_0)).trans hx122_0
              replace p122 := eq_true p122
              replace q122 := eq_true q122
              go_wp2
              go_ret
              exact ⟨by first | rfl | (simp [errW_none, errW_some] <;> rfl) | (simp only [← hji15]; first | rfl | (simp [errW_none, errW_some] <;> rfl)) | (simp [*, errW_none, errW_some] <;> rfl), by repeat (first | (with_reducible first | exact HB.out | apply below_alloc | apply pwd | apply bd1 | refine below_set ?_ GE120.out) | exact HB.out)⟩
             ·rw [if_neg c18] at H
              have c18b0 : decide ((rd l0_1 x25_2) < 0) = false := decide_eq_false c18
              clear c18
              by_cases c20 : (rd l0_1 x25_2) > 15
              ·rw [if_pos c20] at H
               have c20b0 : decide (15 < (rd l0_1 x25_2)) = true := decide_eq_true c20
               clear c20
               obtain rfl := Option.some.inj H
               have p121 : 0 ≤ (x25_2 : Int) := of_decide_eq_true (by first | (with_reducible assumption) | assumption)
               have q121 : x25_2 < (l0_0.length : Int) := of_decide_eq_true (by first | (with_reducible assumption) | assumption)
               obtain ⟨ad121, e121, hx121_0⟩ := Kd.at_int HR0_0.out x25_2 p121 q121
               cases e121
               replace hx121_0 := (HB.out.cell (World.block_lt_of_cell? w _ hx121_0)).trans hx121_0
               replace p121 := eq_true p121
               replace q121 := eq_true q121
               have hcz21_0 : wr.cell? ⟨gb120, 0, none⟩ = some (.slice (some ad121) l0_0.length c0_0) := (blk_cell BK120.out 0).trans rfl
               have hcz21_1 : wr.cell? ⟨gb120, 1, none⟩ = some (.slice A0_1 l0_1.length c0_1) := (blk_cell BK120.out 1).trans rfl
               have hfz21_0 := blk_frozen BK120.out 0
               have hfz21_1 := blk_frozen BK120.out 1
               have p122 : 0 ≤ (x25_2 : Int) := of_decide_eq_true (by first | (with_reducible assumption) | assumption)
               have q122 : x25_2 < (l0_1.length : Int) := of_decide_eq_true (by first | (with_reducible assumption) | assumption)
               obtain ⟨ad122, e122, hx122_0⟩ := Kd.at_int HR0_1.out x25_2 p122 q122
               cases e122
               replace hx122_0 := (HB.out.cell (World.block_lt_of_cell? w _ hx122_0)).trans hx122_0
               replace p122 := eq_true p122
               replace q122 := eq_true q122
               have p123 : 0 ≤ (x25_2 : Int) := of_decide_eq_true (by first | (with_reducible assumption) | assumption)
               have q123 : x25_2 < (l0_1.length : Int) := of_decide_eq_true (by first | (with_reducible assumption) | assumption)
               obtain ⟨ad123, e123, hx123_0⟩ := Kd.at_int HR0_1.out x25_2 p123 q123
               obtain rfl : ad122 = ad123 := (by injection e123)
               replace hx123_0 := (HB.out.cell (World.block_lt_of_cell? w _ hx123_0)).trans hx123_0
               replace p123 := eq_true p123
               replace q123 := eq_true q123
               go_wp2
               go_ret
               exact ⟨by first | rfl | (simp [errW_none, errW_some] <;> rfl) | (simp only [← hji15]; first | rfl | (simp [errW_none, errW_some] <;> rfl)) | (simp [*, errW_none, errW_some] <;> rfl), by repeat (first | (with_reducible first | exact HB.out | apply below_alloc | apply pwd | apply bd1 | refine below_set ?_ GE120.out) | exact HB.out)⟩
              ·rw [if_neg c20] at H
               have c20b0 : decide (15 < (rd l0_1 x25_2)) = false := decide_eq_false c20
               clear c20
               have H' := As0.mk H
               clear H
               have p121 : 0 ≤ (x25_2 : Int) := of_decide_eq_true (by first | (with_reducible assumption) | assumption)
               have q121 : x25_2 < (l0_0.length : Int) := of_decide_eq_true (by first | (with_reducible assumption) | assumption)
               obtain ⟨ad121, e121, hx121_0⟩ := Kd.at_int HR0_0.out x25_2 p121 q121
               cases e121
               replace hx121_0 := (HB.out.cell (World.block_lt_of_cell? w _ hx121_0)).trans hx121_0
               replace p121 := eq_true p121
               replace q121 := eq_true q121
               have hcz22_0 : wr.cell? ⟨gb120, 0, none⟩ = some (.slice (some ad121) l0_0.length c0_0) := (blk_cell BK120.out 0).trans rfl
               have hcz22_1 : wr.cell? ⟨gb120, 1, none⟩ = some (.slice A0_1 l0_1.length c0_1) := (blk_cell BK120.out 1).trans rfl
               have hfz22_0 := blk_frozen BK120.out 0
               have hfz22_1 := blk_frozen BK120.out 1
               have p122 : 0 ≤ (x25_2 : Int) := of_decide_eq_true (by first | (with_reducible assumption) | assumption)
               have q122 : x25_2 < (l0_1.length : Int) := of_decide_eq_true (by first | (with_reducible assumption) | assumption)
               obtain ⟨ad122, e122, hx122_0⟩ := Kd.at_int HR0_1.out x25_2 p122 q122
               cases e122
               replace hx122_0 := (HB.out.cell (World.block_lt_of_cell? w _ hx122_0)).trans hx122_0
               replace p122 := eq_true p122
               replace q122 := eq_true q122
               have p123 : 0 ≤ (x25_2 : Int) := of_decide_eq_true (by first | (with_reducible assumption) | assumption)
               have q123 : x25_2 < (l0_1.length : Int) := of_decide_eq_true (by first | (with_reducible assumption) | assumption)
               obtain ⟨ad123, e123, hx123_0⟩ := Kd.at_int HR0_1.out x25_2 p123 q123
               obtain rfl : ad122 = ad123 := (by injection e123)
               replace hx123_0 := (HB.out.cell (World.block_lt_of_cell? w _ hx123_0)).trans hx123_0
               replace p123 := eq_true p123
               replace q123 := eq_true q123
               go_wp2
               go_roundg k2
               case measure => have := HJ1.out; have := HK2.out; omega
               case rel => exact ⟨(wrap64 (x25_2 + 1)), (by first | rfl | (simp; done) | (simp [*]; done)), H', ⟨by have := HJ1.out; have := HK2.out; omega⟩, ⟨by (with_reducible repeat (first | refine blk_drewN ?_ _ | refine blk_drew ?_ | refine blk_alloc ?_ _)); exact BK120.out⟩, ⟨by repeat (first | (with_reducible first | exact HB.out | apply below_alloc | apply pwd | apply bd1 | refine below_set ?_ GE120.out) | exact HB.out)⟩⟩
            ·rw [if_neg c17] at H
             exact absurd H (by simp)
          ·rw [if_neg c14] at H
           exact absurd H (by simp)
        ·rw [if_neg c12] at H
         exact absurd H (by simp)
       ·rw [if_neg c11] at H
        exact absurd H (by simp)
      ·rw [if_neg c10] at H
       have c10b0 : decide (x25_2 < (l0_0.length : Int)) = false := decide_eq_false c10
       clear c10
       obtain rfl := Option.some.inj H
       go_wp2
       go_ret
       exact ⟨by first | rfl | (simp [errW_none, errW_some] <;> rfl) | (simp [*, errW_none, errW_some] <;> rfl), by repeat (first | (with_reducible first | exact HB.out | apply below_alloc | apply pwd | apply bd1 | refine below_set ?_ GE120.out) | exact HB.out)⟩
def q8awake.f (k : Nat)  : Option (Bool) := (X.fixes_Holds.f k (([2, 1] : List Int)) (([0, 1] : List Int)) (⟨#[48]⟩ : ByteArray)).bind fun bt130 => (if bt130.1 = 2 then (some (bt130.2 == 0)) else (some false))
theorem q8awake.mono : ∀ k, LeO (q8awake.f k ) (q8awake.f (k + 1) ) := by
  intro  k
  unfold q8awake.f
  repeat' first
      | (with_reducible exact X.fixes_Holds.mono _ _ _ _)
      | (with_reducible exact LeO.refl _)
      | (with_reducible exact LeO.none _)
      | (with_reducible refine LeO.ite ?_ ?_)
      | (with_reducible refine LeO.bind ?_ (fun _ => ?_))
      | exact X.fixes_Holds.mono _ _ _ _
      | exact LeO.none _
      | refine LeO.ite ?_ ?_
      | refine LeO.bind ?_ (fun _ => ?_)
set_option maxHeartbeats 8000000 in
set_option maxRecDepth 100000 in
theorem q8awake.calls (k : Nat)  (r : Bool) (w : World) (h : q8awake.f k  = some r) :
  Calls Try.prog 22 #[] w fun e w' => e = .returned (.bool r) ∧ Below w.heap.size w w' := by
 have hu28 := Try.underlying28
 have HB := As0.mk (Below.refl w.heap.size w)
 have H : ((X.fixes_Holds.f k (([2, 1] : List Int)) (([0, 1] : List Int)) (⟨#[48]⟩ : ByteArray)).bind fun bt130 => (if bt130.1 = 2 then (some (bt130.2 == 0)) else (some false))) = some r := h
 clear h
 obtain ⟨y124, hy124⟩ : ∃ y_ : List Int, y_ = (([2, 1] : List Int)) := ⟨_, rfl⟩
 replace H : ((X.fixes_Holds.f k y124 (([0, 1] : List Int)) (⟨#[48]⟩ : ByteArray)).bind fun bt130 => (if bt130.1 = 2 then (some (bt130.2 == 0)) else (some false))) = some r := by first | (rw [hy124]; with_reducible exact H) | (have H2_ := (Option.bind_some _ _).symm.trans H; rw [hy124]; with_reducible exact H2_) | (have H2_ := (Option.bind_some _ _).symm.trans H; with_reducible exact H2_) | with_reducible exact H | (rw [hy124]; exact H) | exact H
 have Ny124 := As0.mk hy124
 clear hy124
 obtain ⟨y127, hy127⟩ : ∃ y_ : List Int, y_ = (([0, 1] : List Int)) := ⟨_, rfl⟩
 replace H : ((X.fixes_Holds.f k y124 y127 (⟨#[48]⟩ : ByteArray)).bind fun bt130 => (if bt130.1 = 2 then (some (bt130.2 == 0)) else (some false))) = some r := by first | (rw [hy127]; with_reducible exact H) | (have H2_ := (Option.bind_some _ _).symm.trans H; rw [hy127]; with_reducible exact H2_) | (have H2_ := (Option.bind_some _ _).symm.trans H; with_reducible exact H2_) | with_reducible exact H | (rw [hy127]; exact H) | exact H
 have Ny127 := As0.mk hy127
 clear hy127
 replace H := Option.bind_eq_some_iff.mp H
 obtain ⟨⟨t130, t131⟩, A10, H⟩ := H
 replace H : (if t130 = 2 then (some (t131 == 0)) else (some false)) = some r := H
 have A1 := As0.mk A10
 clear A10
 by_cases c2 : t130 = 2
 ·rw [if_pos c2] at H
  have c2b0 : (t130 == 2) = true := beq_iff_eq.mpr c2
  have c2b1 : (t130 != 2) = false := bne_eq_false_iff_eq.mpr c2
  clear c2
  obtain rfl := Option.some.inj H
  go_enter Try.func22, Try.ntmps22
  go_wp2_with (first | ((with_reducible refine gate_dst (N := 4) rfl ?_); refine Kd.R_lit (Kd.int .i64) _ 3 ?hg (N := 4) ?hd (xs := ([2, 1] : List Int)) (inner := [.int .i64 2, .int .i64 1]) (ok := fun _ => True) (okp := fun _ => True) ?hr ?hp (fun _ hk => hk) trivial (Below.refl _ _) (Nat.le_refl _) (by simp) ?_; (case hd => rfl); (case hg => rfl); (case hr => first | (go_simp; done) | (go_simp; rfl)); (case hp => exact (Reps.one (show Kd.M (Kd.int .i64) _ _ _ 2 [.int .i64 2] from rfl) (Reps.one (show Kd.M (Kd.int .i64) _ _ _ 1 [.int .i64 1] from rfl) (Reps.none _ _)))); intro v125 w3 ho4 hb hg_ hnew_; clear hg_ hnew_; (first | rw [← Ny124.out] at ho4 | (simp only [Int.reduceToNat] at ho4; rw [← Ny124.out] at ho4)); have n0_ := As0.mk (Kd.R_lower ho4 (below_size (by repeat (first | (with_reducible first | exact HB.out | apply below_alloc | apply pwd | apply bd1) | exact HB.out)))); have n1_ := As0.mk (bst (by repeat (first | (with_reducible first | exact HB.out | apply below_alloc | apply pwd | apply bd1) | exact HB.out)) hb); clear HB; have HO126 := n0_; have HB := n1_; clear n0_ n1_; clear hb ho4) | ((with_reducible refine gate_dst (N := 5) rfl ?_); refine Kd.R_lit (Kd.int .i64) _ 3 ?hg (N := 5) ?hd (xs := ([0, 1] : List Int)) (inner := [.int .i64 0, .int .i64 1]) (ok := fun _ => True) (okp := fun _ => True) ?hr ?hp (fun _ hk => hk) trivial (Below.refl _ _) (Nat.le_refl _) (by simp) ?_; (case hd => rfl); (case hg => rfl); (case hr => first | (go_simp; done) | (go_simp; rfl)); (case hp => exact (Reps.one (show Kd.M (Kd.int .i64) _ _ _ 0 [.int .i64 0] from rfl) (Reps.one (show Kd.M (Kd.int .i64) _ _ _ 1 [.int .i64 1] from rfl) (Reps.none _ _)))); intro v128 w5 ho6 hb hg_ hnew_; clear hg_ hnew_; (first | rw [← Ny127.out] at ho6 | (simp only [Int.reduceToNat] at ho6; rw [← Ny127.out] at ho6)); have n0_ := As0.mk (Kd.R_elder' (by (with_reducible repeat (first | apply Kd.R_alloc | apply Kd.R_drewN | apply Kd.R_drew)); exact HO126.out) (Kd.R_base ho6) hb); have n1_ := As0.mk (Kd.R_lower (Kd.R_new' ho6 (Kd.R_lt (by (with_reducible repeat (first | apply Kd.R_alloc | apply Kd.R_drewN | apply Kd.R_drew)); exact HO126.out))) (below_size (by repeat (first | (with_reducible first | exact HB.out | apply below_alloc | apply pwd | apply bd1) | exact HB.out)))); have n2_ := As0.mk (bst (by repeat (first | (with_reducible first | exact HB.out | apply below_alloc | apply pwd | apply bd1) | exact HB.out)) hb); clear HO126; clear HB; have HO126 := n0_; have HO129 := n1_; have HB := n2_; clear n0_ n1_ n2_; clear hb ho6; obtain ⟨Ao7, co7, eo7⟩ := Kd.R_slice HO129.out; subst eo7; obtain ⟨Ao8, co8, eo8⟩ := Kd.R_slice HO126.out; subst eo8) | ((with_reducible refine gate_callee (f := 16) rfl ?_); refine goesL_ (some 7) rfl rfl Try.func16 (by kernel_rfl) rfl #[.agg #[.slice Ao8 y124.length co8, .slice Ao7 y127.length co7], .string (⟨#[48]⟩ : ByteArray)] rfl (by (try simp only [sm]); first | done | rfl | (simp only [List.length_drop, List.length_take]; rfl)) ?_; (with_reducible refine (X.fixes_Holds.calls k _ _ y124 _ _ y127 (⟨#[48]⟩ : ByteArray) t130 t131 _ ?side1 ?side2 ?side3 ?side4 A1.out).mono ?_); (case side1 => repeat (first | exact (Kd.R_reads' HO126.out).2.2 | (with_reducible refine Kd.C_alloc ?_ _) | (with_reducible refine Kd.C_drewN ?_ _) | (with_reducible refine Kd.C_drew ?_))); (case side2 => exact (Kd.R_reads' HO126.out).2.1); (case side3 => repeat (first | exact (Kd.R_reads' HO129.out).2.2 | (with_reducible refine Kd.C_alloc ?_ _) | (with_reducible refine Kd.C_drewN ?_ _) | (with_reducible refine Kd.C_drew ?_))); (case side4 => exact (Kd.R_reads' HO129.out).2.1); rintro e w9 ⟨rfl, hb⟩; refine ⟨_, rfl, ?_⟩; have n0_ := As0.mk (Kd.R_below (by (with_reducible repeat (first | apply Kd.R_alloc | apply Kd.R_drewN | apply Kd.R_drew)); exact HO126.out) hb); have n1_ := As0.mk (Kd.R_below (by (with_reducible repeat (first | apply Kd.R_alloc | apply Kd.R_drewN | apply Kd.R_drew)); exact HO129.out) hb); have n2_ := As0.mk (bst (by repeat (first | (with_reducible first | exact HB.out | apply below_alloc | apply pwd | apply bd1) | exact HB.out)) hb); clear HO126; clear HO129; clear HB; have HO126 := n0_; have HO129 := n1_; have HB := n2_; clear n0_ n1_ n2_; (try clear hb); (try clear hb2); (try clear hk); (try clear hi)))
  go_ret
  exact ⟨by first | rfl | (simp [errW_none, errW_some] <;> rfl) | (simp [*, errW_none, errW_some] <;> rfl), by repeat (first | (with_reducible first | exact HB.out | apply below_alloc | apply pwd | apply bd1) | exact HB.out)⟩
 ·rw [if_neg c2] at H
  have c2b0 : (t130 == 2) = false := beq_eq_false_iff_ne.mpr c2
  have c2b1 : (t130 != 2) = true := bne_iff_ne.mpr c2
  obtain rfl := Option.some.inj H
  go_enter Try.func22, Try.ntmps22
  go_wp2_with (first | ((with_reducible refine gate_dst (N := 4) rfl ?_); refine Kd.R_lit (Kd.int .i64) _ 3 ?hg (N := 4) ?hd (xs := ([2, 1] : List Int)) (inner := [.int .i64 2, .int .i64 1]) (ok := fun _ => True) (okp := fun _ => True) ?hr ?hp (fun _ hk => hk) trivial (Below.refl _ _) (Nat.le_refl _) (by simp) ?_; (case hd => rfl); (case hg => rfl); (case hr => first | (go_simp; done) | (go_simp; rfl)); (case hp => exact (Reps.one (show Kd.M (Kd.int .i64) _ _ _ 2 [.int .i64 2] from rfl) (Reps.one (show Kd.M (Kd.int .i64) _ _ _ 1 [.int .i64 1] from rfl) (Reps.none _ _)))); intro v125 w10 ho11 hb hg_ hnew_; clear hg_ hnew_; (first | rw [← Ny124.out] at ho11 | (simp only [Int.reduceToNat] at ho11; rw [← Ny124.out] at ho11)); have n0_ := As0.mk (Kd.R_lower ho11 (below_size (by repeat (first | (with_reducible first | exact HB.out | apply below_alloc | apply pwd | apply bd1) | exact HB.out)))); have n1_ := As0.mk (bst (by repeat (first | (with_reducible first | exact HB.out | apply below_alloc | apply pwd | apply bd1) | exact HB.out)) hb); clear HB; have HO126 := n0_; have HB := n1_; clear n0_ n1_; clear hb ho11) | ((with_reducible refine gate_dst (N := 5) rfl ?_); refine Kd.R_lit (Kd.int .i64) _ 3 ?hg (N := 5) ?hd (xs := ([0, 1] : List Int)) (inner := [.int .i64 0, .int .i64 1]) (ok := fun _ => True) (okp := fun _ => True) ?hr ?hp (fun _ hk => hk) trivial (Below.refl _ _) (Nat.le_refl _) (by simp) ?_; (case hd => rfl); (case hg => rfl); (case hr => first | (go_simp; done) | (go_simp; rfl)); (case hp => exact (Reps.one (show Kd.M (Kd.int .i64) _ _ _ 0 [.int .i64 0] from rfl) (Reps.one (show Kd.M (Kd.int .i64) _ _ _ 1 [.int .i64 1] from rfl) (Reps.none _ _)))); intro v128 w12 ho13 hb hg_ hnew_; clear hg_ hnew_; (first | rw [← Ny127.out] at ho13 | (simp only [Int.reduceToNat] at ho13; rw [← Ny127.out] at ho13)); have n0_ := As0.mk (Kd.R_elder' (by (with_reducible repeat (first | apply Kd.R_alloc | apply Kd.R_drewN | apply Kd.R_drew)); exact HO126.out) (Kd.R_base ho13) hb); have n1_ := As0.mk (Kd.R_lower (Kd.R_new' ho13 (Kd.R_lt (by (with_reducible repeat (first | apply Kd.R_alloc | apply Kd.R_drewN | apply Kd.R_drew)); exact HO126.out))) (below_size (by repeat (first | (with_reducible first | exact HB.out | apply below_alloc | apply pwd | apply bd1) | exact HB.out)))); have n2_ := As0.mk (bst (by repeat (first | (with_reducible first | exact HB.out | apply below_alloc | apply pwd | apply bd1) | exact HB.out)) hb); clear HO126; clear HB; have HO126 := n0_; have HO129 := n1_; have HB := n2_; clear n0_ n1_ n2_; clear hb ho13; obtain ⟨Ao14, co14, eo14⟩ := Kd.R_slice HO129.out; subst eo14; obtain ⟨Ao15, co15, eo15⟩ := Kd.R_slice HO126.out; subst eo15) | ((with_reducible refine gate_callee (f := 16) rfl ?_); refine goesL_ (some 7) rfl rfl Try.func16 (by kernel_rfl) rfl #[.agg #[.slice Ao15 y124.length co15, .slice Ao14 y127.length co14], .string (⟨#[48]⟩ : ByteArray)] rfl (by (try simp only [sm]); first | done | rfl | (simp only [List.length_drop, List.length_take]; rfl)) ?_; (with_reducible refine (X.fixes_Holds.calls k _ _ y124 _ _ y127 (⟨#[48]⟩ : ByteArray) t130 t131 _ ?side1 ?side2 ?side3 ?side4 A1.out).mono ?_); (case side1 => repeat (first | exact (Kd.R_reads' HO126.out).2.2 | (with_reducible refine Kd.C_alloc ?_ _) | (with_reducible refine Kd.C_drewN ?_ _) | (with_reducible refine Kd.C_drew ?_))); (case side2 => exact (Kd.R_reads' HO126.out).2.1); (case side3 => repeat (first | exact (Kd.R_reads' HO129.out).2.2 | (with_reducible refine Kd.C_alloc ?_ _) | (with_reducible refine Kd.C_drewN ?_ _) | (with_reducible refine Kd.C_drew ?_))); (case side4 => exact (Kd.R_reads' HO129.out).2.1); rintro e w16 ⟨rfl, hb⟩; refine ⟨_, rfl, ?_⟩; have n0_ := As0.mk (Kd.R_below (by (with_reducible repeat (first | apply Kd.R_alloc | apply Kd.R_drewN | apply Kd.R_drew)); exact HO126.out) hb); have n1_ := As0.mk (Kd.R_below (by (with_reducible repeat (first | apply Kd.R_alloc | apply Kd.R_drewN | apply Kd.R_drew)); exact HO129.out) hb); have n2_ := As0.mk (bst (by repeat (first | (with_reducible first | exact HB.out | apply below_alloc | apply pwd | apply bd1) | exact HB.out)) hb); clear HO126; clear HO129; clear HB; have HO126 := n0_; have HO129 := n1_; have HB := n2_; clear n0_ n1_ n2_; (try clear hb); (try clear hb2); (try clear hk); (try clear hi)))
  go_ret
  exact ⟨by first | rfl | (simp [errW_none, errW_some] <;> rfl) | (simp [*, errW_none, errW_some] <;> rfl), by repeat (first | (with_reducible first | exact HB.out | apply below_alloc | apply pwd | apply bd1) | exact HB.out)⟩
end Go.Proofs.Ytjffhhalmicodaa.PB
end

section
namespace Go.Proofs.Ytjffhhalmicodaa.PE
open Go.RowKit Go.Proofs.G.PrintWords Go.Proofs.G.PrintLast Go.Proofs.G.PrintMore
attribute [local go_sem] max2_int min2_int max_two min_two max_three min_three max_four min_four
set_option linter.unusedVariables false
set_option linter.unusedSimpArgs false
def errW : Option Int → Value
  | none => .nilIface
  | some c => .iface 0 (.int .i64 c)
theorem errW_none : errW none = .nilIface := rfl
theorem errW_some (c : Int) : errW (some c) = .iface 0 (.int .i64 c) := rfl
end Go.Proofs.Ytjffhhalmicodaa.PE
end

section
namespace Go.Proofs.Ytjffhhalmicodaa.PE
open Go.RowKit Go.Proofs.G.PrintWords Go.Proofs.G.PrintLast Go.Proofs.G.PrintMore
attribute [local go_sem] max2_int min2_int max_two min_two max_three min_three max_four min_four
set_option linter.unusedVariables false
set_option linter.unusedSimpArgs false
def slices_Equal_int_int.l0 : Nat → List Int → List Int → Int → Int → Option (Bool)
  | 0, _, _, _, _ => none
  | k + 1, x0, x1, x12, x13 => if x13 < x12 then (if 0 ≤ x13 then (if x13 < (x0.length : Int) then (if x13 < (x1.length : Int) then (if (rd x0 x13) = (rd x1 x13) then (slices_Equal_int_int.l0 k x0 x1 x12 (wrap64 (x13 + 1))) else (some false)) else (none)) else (none)) else (none)) else (some true)
def slices_Equal_int_int.f (k : Nat) (l0 : List Int) (l1 : List Int) : Option (Bool) := if (l0.length : Int) = (l1.length : Int) then (slices_Equal_int_int.l0 k l0 l1 (l0.length : Int) 0) else (some false)
set_option maxHeartbeats 8000000 in
set_option maxRecDepth 100000 in
theorem slices_Equal_int_int.calls (k : Nat) (A0 : Option Addr) (c0 : Nat) (l0 : List Int) (A1 : Option Addr) (c1 : Nat) (l1 : List Int) (r : Bool) (w : World) (hr0 : Kd.C (Kd.int .i64) w A0 l0.length l0) (hc0 : l0.length ≤ c0) (hr1 : Kd.C (Kd.int .i64) w A1 l1.length l1) (hc1 : l1.length ≤ c1) (h : slices_Equal_int_int.f k l0 l1 = some r) :
  Calls Try.prog 36 #[.slice A0 l0.length c0, .slice A1 l1.length c1] w fun e w' => e = .returned (.bool r) ∧ Drawn0 w w' := by
 have HR0 := As0.mk hr0
 have HC0 := As0.mk hc0
 clear hr0 hc0
 have HR1 := As0.mk hr1
 have HC1 := As0.mk hc1
 clear hr1 hc1
 have H : (if (l0.length : Int) = (l1.length : Int) then (slices_Equal_int_int.l0 k l0 l1 (l0.length : Int) 0) else (some false)) = some r := h
 clear h
 by_cases c3 : (l0.length : Int) = (l1.length : Int)
 ·rw [if_pos c3] at H
  have c3b0 : ((l0.length : Int) == (l1.length : Int)) = true := beq_iff_eq.mpr c3
  have c3b1 : ((l0.length : Int) != (l1.length : Int)) = false := bne_eq_false_iff_eq.mpr c3
  have c3b2 : (l0.length == l1.length) = true := by first | simpa using c3 | (simp at c3 ⊢; omega)
  clear c3
  have H' := As0.mk H
  clear H
  go_enter Try.func36, Try.ntmps36
  go_wp2
  repeat (go_quiet (fail); try go_wp2)
  go_loopg [13] k (fun kq v13 w' => ∃ (x13_1 : Int), v13 = .int .i64 x13_1 ∧ As0 (slices_Equal_int_int.l0 kq l0 l1 (l0.length : Int) x13_1 = some r) ∧ As0 (kq ≤ k) ∧ Drawn0 w w')
  case atStart => exact ⟨(0), (by first | rfl | (simp; done) | (simp [*]; done)), H', ⟨Nat.le_refl _⟩, by repeat (first | exact Drawn0.refl _ | apply Drawn0.step)⟩
  case round =>
   clear H'
   try clear c1
   try clear p2
   try clear c3
   try clear c3b0
   try clear c3b1
   try clear c3b2
   obtain ⟨x13_1, rfl, HA, HK1, ⟨m1, rfl⟩⟩ := hrel
   cases gk with
   | zero => exact absurd HA.out (by simp [slices_Equal_int_int.l0])
   | succ k1 =>
    have H := HA.out
    clear HA
    simp only [slices_Equal_int_int.l0] at H
    by_cases c4 : x13_1 < (l0.length : Int)
    ·rw [if_pos c4] at H
     have c4b0 : decide (x13_1 < (l0.length : Int)) = true := decide_eq_true c4
     clear c4
     by_cases c5 : 0 ≤ x13_1
     ·rw [if_pos c5] at H
      have c5b0 : decide (0 ≤ x13_1) = true := decide_eq_true c5
      clear c5
      by_cases c6 : x13_1 < (l0.length : Int)
      ·rw [if_pos c6] at H
       have c6b0 : decide (x13_1 < (l0.length : Int)) = true := decide_eq_true c6
       clear c6
       by_cases c7 : x13_1 < (l1.length : Int)
       ·rw [if_pos c7] at H
        have c7b0 : decide (x13_1 < (l1.length : Int)) = true := decide_eq_true c7
        clear c7
        by_cases c8 : (rd l0 x13_1) = (rd l1 x13_1)
        ·rw [if_pos c8] at H
         have c8b0 : ((rd l0 x13_1) == (rd l1 x13_1)) = true := beq_iff_eq.mpr c8
         have c8b1 : ((rd l0 x13_1) != (rd l1 x13_1)) = false := bne_eq_false_iff_eq.mpr c8
         clear c8
         have H' := As0.mk H
         clear H
         have p101 : 0 ≤ (x13_1 : Int) := of_decide_eq_true (by first | (with_reducible assumption) | assumption)
         have q101 : x13_1 < (l0.length : Int) := of_decide_eq_true (by first | (with_reducible assumption) | assumption)
         obtain ⟨ad101, e101, hx101_0⟩ := Kd.at_int HR0.out x13_1 p101 q101
         cases e101
         replace p101 := eq_true p101
         replace q101 := eq_true q101
         have p102 : 0 ≤ (x13_1 : Int) := of_decide_eq_true (by first | (with_reducible assumption) | assumption)
         have q102 : x13_1 < (l1.length : Int) := of_decide_eq_true (by first | (with_reducible assumption) | assumption)
         obtain ⟨ad102, e102, hx102_0⟩ := Kd.at_int HR1.out x13_1 p102 q102
         cases e102
         replace p102 := eq_true p102
         replace q102 := eq_true q102
         go_wp2
         repeat (go_quiet (fail); try go_wp2)
         go_roundg k1
         case measure => have := HK1.out; omega
         case rel => exact ⟨(wrap64 (x13_1 + 1)), (by first | rfl | (simp; done) | (simp [*]; done)), H', ⟨by have := HK1.out; omega⟩, by repeat (first | exact Drawn0.refl _ | apply Drawn0.step)⟩
        ·rw [if_neg c8] at H
         have c8b0 : ((rd l0 x13_1) == (rd l1 x13_1)) = false := beq_eq_false_iff_ne.mpr c8
         have c8b1 : ((rd l0 x13_1) != (rd l1 x13_1)) = true := bne_iff_ne.mpr c8
         obtain rfl := Option.some.inj H
         have p101 : 0 ≤ (x13_1 : Int) := of_decide_eq_true (by first | (with_reducible assumption) | assumption)
         have q101 : x13_1 < (l0.length : Int) := of_decide_eq_true (by first | (with_reducible assumption) | assumption)
         obtain ⟨ad101, e101, hx101_0⟩ := Kd.at_int HR0.out x13_1 p101 q101
         cases e101
         replace p101 := eq_true p101
         replace q101 := eq_true q101
         have p102 : 0 ≤ (x13_1 : Int) := of_decide_eq_true (by first | (with_reducible assumption) | assumption)
         have q102 : x13_1 < (l1.length : Int) := of_decide_eq_true (by first | (with_reducible assumption) | assumption)
         obtain ⟨ad102, e102, hx102_0⟩ := Kd.at_int HR1.out x13_1 p102 q102
         cases e102
         replace p102 := eq_true p102
         replace q102 := eq_true q102
         go_wp2
         repeat (go_quiet (fail); try go_wp2)
         go_ret
         exact ⟨by first | rfl | (simp; done) | (simp [*]; done), by repeat (first | exact Drawn0.refl _ | apply Drawn0.step)⟩
       ·rw [if_neg c7] at H
        exact absurd H (by simp)
      ·rw [if_neg c6] at H
       exact absurd H (by simp)
     ·rw [if_neg c5] at H
      exact absurd H (by simp)
    ·rw [if_neg c4] at H
     have c4b0 : decide (x13_1 < (l0.length : Int)) = false := decide_eq_false c4
     clear c4
     obtain rfl := Option.some.inj H
     go_wp2
     repeat (go_quiet (fail); try go_wp2)
     go_ret
     exact ⟨by first | rfl | (simp; done) | (simp [*]; done), by repeat (first | exact Drawn0.refl _ | apply Drawn0.step)⟩
 ·rw [if_neg c3] at H
  have c3b0 : ((l0.length : Int) == (l1.length : Int)) = false := beq_eq_false_iff_ne.mpr c3
  have c3b1 : ((l0.length : Int) != (l1.length : Int)) = true := bne_iff_ne.mpr c3
  have c3b2 : (l0.length == l1.length) = false := by first | simpa using c3 | (simp at c3 ⊢; omega)
  obtain rfl := Option.some.inj H
  go_enter Try.func36, Try.ntmps36
  go_wp2
  repeat (go_quiet (fail); try go_wp2)
  go_ret
  exact ⟨by first | rfl | (simp; done) | (simp [*]; done), by repeat (first | exact Drawn0.refl _ | apply Drawn0.step)⟩
end Go.Proofs.Ytjffhhalmicodaa.PE
end

section
set_option linter.unusedVariables false
set_option linter.unusedSimpArgs false
namespace Go.Proofs.Ytjffhhalmicodaa.X
open Go.RowKit Go.Proofs.G.PrintWords Go.Proofs.G.PrintLast Go.Proofs.G.PrintMore
theorem equal_from (a b : List Int) (h : a.length = b.length) (hsz : a.length ≤ 1000000) : ∀ d i : Nat, i + d = a.length → ∃ k, PE.slices_Equal_int_int.l0 k a b (a.length : Int) (i : Int) = some (decide (a.drop i = b.drop i)) := by
 intro d
 induction d with
 | zero =>
  intro i hi
  refine ⟨1, ?_⟩
  simp only [PE.slices_Equal_int_int.l0]
  rw [List.drop_of_length_le (by omega), List.drop_of_length_le (by omega)]
  simp [show ¬ i < a.length by omega]
 | succ d ih =>
  intro i hi
  obtain ⟨k, hk⟩ := ih (i + 1) (by omega)
  refine ⟨k + 1, ?_⟩
  have ha : i < a.length := by omega
  have hb : i < b.length := by omega
  rw [List.drop_eq_getElem_cons ha, List.drop_eq_getElem_cons hb]
  have e1 : rd a (i : Int) = a[i] := by simp [rd, List.getD_eq_getElem?_getD, ha]
  have e2 : rd b (i : Int) = b[i] := by simp [rd, List.getD_eq_getElem?_getD, hb]
  simp only [PE.slices_Equal_int_int.l0]
  rw [if_pos (by omega), if_pos (by omega), if_pos (by omega), if_pos (by omega), e1, e2, show wrap64 ((i : Int) + 1) = ((i + 1 : Nat) : Int) by unfold wrap64; omega, hk]
  by_cases hab : a[i] = b[i]
  ·rw [if_pos hab, hab]
   simp only [List.cons.injEq, true_and]
  ·rw [if_neg hab]
   simp only [List.cons.injEq, hab, false_and, decide_false]
theorem equal_eq (a b : List Int) (hsz : a.length ≤ 1000000) : ∃ k, PE.slices_Equal_int_int.f k a b = some (decide (a = b)) := by
 unfold PE.slices_Equal_int_int.f
 by_cases h : a.length = b.length
 ·obtain ⟨k, hk⟩ := equal_from a b h hsz a.length 0 (by omega)
  refine ⟨k, ?_⟩
  rw [if_pos (by omega)]
  simpa using hk
 ·refine ⟨0, ?_⟩
  rw [if_neg (by omega)]
  have : a ≠ b := fun e => h (by rw [e])
  simp [this]
theorem keyfn_mark (w : World) (bw n c1 : Nat) (A1 : Option Addr) (mk : List Int) (hr : Kd.C (Kd.int .i64) w A1 mk.length mk) (hw : w.cell? ⟨bw, 1, none⟩ = some (.slice A1 mk.length c1)) (hn : n ≤ mk.length) : KeyFn w 82 #[.pointer (some ⟨bw, 0, none⟩)] n (markKey mk) := by
  intro W s hsn hb
  obtain ⟨b, off, rfl, hlt, hc⟩ := ints_at hr (by omega)
  exact mark_calls bw b off mk.length c1 s (rd mk s) W (pwc hb hw) (by omega) hr.2.1 (pwc hb (hc s (by omega)))
theorem keyfn_next (w : World) (bw bl c0 c2 : Nat) (A0 A2 : Option Addr) (nx last : List Int) (hl : last.length = nx.length) (h61 : nx.length ≤ 61) (hr : Kd.C (Kd.int .i64) w A0 nx.length nx) (hr2 : Kd.C (Kd.int .i64) w A2 last.length last) (hw : w.cell? ⟨bw, 0, none⟩ = some (.slice A0 nx.length c0)) (hw2 : w.cell? ⟨bl, 0, none⟩ = some (.slice A2 last.length c2)) (hv : ∀ i : Nat, i < nx.length → 0 ≤ rd last i ∧ rd last i < nx.length) : KeyFn w 83 #[.pointer (some ⟨bl, 0, none⟩), .pointer (some ⟨bw, 0, none⟩)] nx.length (setKey nx last) := by
  intro W s hsn hb
  obtain ⟨b, off, rfl, hlt, hc⟩ := ints_at hr (by omega)
  obtain ⟨b2, off2, rfl, hlt2, hc2⟩ := ints_at hr2 (by omega)
  exact next_calls bw b off nx.length c0 s bl b2 off2 c2 nx last hl rfl W (pwc hb hw) (by rw [← hl]; exact pwc hb hw2) hsn h61 (pwc hb (hc s hsn)) (fun i hi => pwc hb (hc2 i (by omega))) hv
def levF (nx : List Int) : Nat → List (List Int) → Option (List (List Int))
  | 0, _ => none
  | k + 1, out => if out.length ≤ 1000 then (if (numTo (setKey nx (out.getLastD [])) nx.length).2 = out.getLastD [] then some out else levF nx k (out ++ [(numTo (setKey nx (out.getLastD [])) nx.length).2])) else none
def LvOk (n : Nat) (l : List Int) : Prop := l.length = n ∧ ∀ i : Nat, i < n → 0 ≤ rd l i ∧ rd l i < n
theorem lvOk_num (key : Nat → Int × Int) (n : Nat) : LvOk n (numTo key n).2 := ⟨numTo_len key n, fun i hi => by
  rw [rd_num key n i hi]
  have := cls_range key hi
  have := cnt_le key n
  omega⟩
theorem info22 : (Try.prog.info? 22).map (fun i => (i.zero, i.size, i.bytes)) = some (some (.slice none 0 0), 1, 24) := by kernel_rfl
theorem rows_last {w : World} {base g m cp : Nat} {ok : Nat → Prop} {init : List (List Int)} {last : List Int} (h : Kd.R (Kd.slice 3 (Kd.int .i64)) 22 w base ok (.slice (some ⟨g, 0, none⟩) (m + 1) cp) (init ++ [last])) (hm : m = init.length) :
    ∃ A c, w.cell? ⟨g, m, none⟩ = some (.slice A last.length c) ∧ last.length ≤ c ∧ Kd.C (Kd.int .i64) w A last.length last := by
  obtain ⟨h1, h2, h3⟩ := Kd.R_reads' h
  obtain ⟨ad, c, e, _, hK, hc⟩ := Kd.C_get h3 [] (m : Int) (by omega) (by rw [← h1]; omega)
  injection e with e
  subst e
  obtain ⟨A, c2, rfl, hl, hC⟩ := hK
  have hg : (init ++ [last]).getD (m : Int).toNat [] = last := by
    rw [Int.toNat_natCast, hm]
    simp
  rw [hg] at hl hC hc
  refine ⟨A, c2, ?_, hl, hC⟩
  have := hc 0 _ rfl
  rw [Int.toNat_natCast, show (Kd.slice 3 (Kd.int .i64)).sz = 1 from rfl, Nat.mul_one, Nat.add_zero] at this
  have e2 : (⟨g, 0, none⟩ : Addr).add m = ⟨g, m, none⟩ := by
    unfold Addr.add
    split <;> simp_all
  rwa [e2] at this
theorem rows_form {w : World} {base : Nat} {ok : Nat → Prop} {v : Value} {xs : List (List Int)} (h : Kd.R (Kd.slice 3 (Kd.int .i64)) 22 w base ok v xs) (hx : 0 < xs.length) : ∃ g cp, v = .slice (some ⟨g, 0, none⟩) xs.length cp := by
  obtain ⟨inner, ho⟩ := Kd.R_own h
  obtain ⟨g, cap, e, _⟩ := ho.form hx
  exact ⟨g, cap, e⟩
theorem info22s : (Try.prog.info? 22).map (·.size) = some 1 := by kernel_rfl
structure LS (w : World) (gw c0 c1 : Nat) (A0 A1 : Option Addr) (nx mk : List Int) (r : List (List Int)) (g m cp kq : Nat) (init : List (List Int)) (last : List Int) (wr : World) : Prop where
 len : m = init.length
 fuel : levF nx kq (init ++ [last]) = some r
 ok : LvOk nx.length last
 own : Kd.R (Kd.slice 3 (Kd.int .i64)) 22 wr w.heap.size (fun _ => True) (.slice (some ⟨g, 0, none⟩) (m + 1) cp) (init ++ [last])
 below : Below w.heap.size w wr
 box : wr.heap[gw]? = some (.cells #[.slice A0 nx.length c0, .slice A1 mk.length c1] 28 (0, 0))
set_option maxRecDepth 100000 in
set_option maxHeartbeats 2000000 in
theorem levels_calls (k : Nat) (A0 : Option Addr) (c0 : Nat) (nx : List Int) (A1 : Option Addr) (c1 : Nat) (mk : List Int) (r : List (List Int)) (w : World) (hr0 : Kd.C (Kd.int .i64) w A0 nx.length nx) (hr1 : Kd.C (Kd.int .i64) w A1 mk.length mk) (h61 : nx.length ≤ 61) (hnm : nx.length ≤ mk.length) (h : levF nx k [(numTo (markKey mk) nx.length).2] = some r) :
    Calls Try.prog 66 #[.agg #[.slice A0 nx.length c0, .slice A1 mk.length c1]] w fun e w' => ∃ v, e = .returned v ∧ Kd.R (Kd.slice 3 (Kd.int .i64)) 22 w' w.heap.size (fun _ => True) v r ∧ Below w.heap.size w w' := by
  have hu := Try.underlying28
  have eg82 : ∀ args w, (callFunc 82 args).run Try.prog w = .ok (.enter 82 args) w := enters_of' Try.func82 (by kernel_rfl) rfl
  have eg83 : ∀ args w, (callFunc 83 args).run Try.prog w = .ok (.enter 83 args) w := enters_of' Try.func83 (by kernel_rfl) rfl
  have EG82 := Lib.hid eg82
  have EG83 := Lib.hid eg83
  have HR0 := Lib.hid hr0
  have HR1 := Lib.hid hr1
  have HF := Lib.hid h
  clear hr0 hr1 h eg82 eg83
  go_enter Try.func66, Try.ntmps66
  go_wp2_with (first | ((with_reducible refine gate_dst (N := 1) rfl ?_); refine box_event ?hg (N := 1) ?hd (cs := #[.slice A0 nx.length c0, .slice A1 mk.length c1]) (t := 28) ?hr ?_; (case hd => rfl); (case hg => rfl); (case hr => first | (go_simp; done) | (go_simp; rfl)); intro gw hgw wb hbw hbb; have HBX := Lib.hid hbw; have HGW := Lib.hid (Nat.le_of_eq hgw.symm); have HB0 := Lib.hid (bst (Below.refl w.heap.size w) hbb); have hw0 : wb.cell? ⟨gw, 0, none⟩ = some (.slice A0 nx.length c0) := (blk_cell hbw 0).trans rfl; have hw1 : wb.cell? ⟨gw, 1, none⟩ = some (.slice A1 mk.length c1) := (blk_cell hbw 1).trans rfl; clear hgw hbw hbb) | fail)
  refine (numbered_calls 82 _ EG82.out (markKey mk) A0 nx.length c0 A1 mk.length c1 wb (by omega) (keyfn_mark wb gw nx.length c1 A1 mk (Kd.C_below HR1.out HB0.out) hw1 hnm)).mono ?_
  rintro e w2 ⟨v0, rfl, hv0, hb2⟩
  obtain ⟨A5, c5, rfl⟩ := Kd.R_slice hv0
  have HV0 := Lib.hid (Kd.R_lower hv0 HB0.out.size)
  have HB2 := Lib.hid (bst HB0.out hb2)
  have HBX2 := Lib.hid (blk_below HBX.out hb2)
  clear hv0 hb2 HB0 HBX hw0 hw1
  go_wp2_with (first | ((with_reducible refine gate_dst (N := 9) rfl ?_); refine Kd.R_lit (Kd.slice 3 (Kd.int .i64)) (w0 := w) w.heap.size 22 ?hg (N := 9) ?hd (xs := [(numTo (markKey mk) nx.length).2]) (inner := [.slice A5 (numTo (markKey mk) nx.length).2.length c5]) (ok := fun _ => True) (okp := fun _ => True) ?hr ?hp (fun _ hk => hk) trivial HB2.out HB2.out.size (by simp) ?_; (case hd => rfl); (case hg => rfl); (case hr => first | (go_simp; done) | (go_simp; rfl)); (case hp => exact ⟨rfl, fun j p hj => by (cases j with | zero => (injection hj with hj; subst hj; exact ⟨_, rfl, HV0.out⟩) | succ j => simp at hj)⟩); intro v1 w3 hv1 hb3 hg3 hat3; have HV1 := Lib.hid hv1; have HB3 := Lib.hid hb3; have HBX3 := Lib.hid (blk_grown HBX2.out hg3 (by simp)); clear hv1 hb3 hg3 hat3) | fail)
  clear HV0 HB2 HBX2
  obtain ⟨g, cp, rfl⟩ := rows_form HV1.out (by simp)
  have HL := Lib.hid (show LS w gw c0 c1 A0 A1 nx mk r g 0 cp k [] (numTo (markKey mk) nx.length).2 w3 from ⟨rfl, HF.out, lvOk_num _ _, HV1.out, HB3.out, HBX3.out⟩)
  clear HV1 HB3 HBX3 HF
  go_wp2_with fail
  go_loopg [3] k (fun kq v3 wr => ∃ (g m cp : Nat) (init : List (List Int)) (last : List Int), v3 = .slice (some ⟨g, 0, none⟩) (m + 1) cp ∧ Hid (LS w gw c0 c1 A0 A1 nx mk r g m cp kq init last wr))
  case atStart => exact ⟨_, _, _, _, _, rfl, HL⟩
  case round =>
    clear HL
    obtain ⟨g, m, cp, init, last, rfl, HL⟩ := hrel
    cases gk with
    | zero => exact absurd HL.out.fuel (by simp [levF])
    | succ kq =>
      obtain ⟨A2, c2, hcl, hl2, hC2⟩ := rows_last HL.out.own HL.out.len
      have HC2 := Lib.hid hC2
      have HL2 := Lib.hid hl2
      clear hC2 hl2
      have hf := HL.out.fuel
      rw [levF] at hf
      have hlen : (init ++ [last]).length ≤ 1000 := by
        by_cases q : (init ++ [last]).length ≤ 1000
        · exact q
        · rw [if_neg q] at hf
          cases hf
      rw [if_pos hlen, show (init ++ [last]).getLastD [] = last by simp] at hf
      have hm1 : m + 1 ≤ 1000 := by rw [HL.out.len]; simpa using hlen
      have HF := Lib.hid hf
      clear hf hlen
      have h0 := HL.out.own
      clear h0
      go_wp2_with (first | ((with_reducible refine gate_dst (N := 4) rfl ?_); refine box_event ?hg (N := 4) ?hd (cs := #[.slice none 0 0]) (t := 22) ?hr ?_; (case hd => rfl); (case hg => rfl); (case hr => kernel_rfl); intro gl hgl wl hbl hbbl; have HGL := Lib.hid (Nat.le_of_eq hgl.symm); have HBBL := Lib.hid hbbl; have HBL := Lib.hid hbl; clear hgl hbl hbbl) | ((with_reducible refine gate_op (op := .store 22 (.tmp 4) (.tmp 15)) rfl ?_); refine whole_store_event rfl rfl 22 (.tmp 4) (.tmp 15) rfl (g := gl) (cur := #[.slice none 0 0]) (.slice A2 last.length c2) [.slice A2 last.length c2] rfl rfl rfl info22s rfl (by simp [Value.oneCell']) HBL.out ?_; intro w3 hw3 hk3 hb3; have HB3 := Lib.hid (hb3 _ _ HBBL.out HGL.out); have hwl : w3.cell? ⟨gl, 0, none⟩ = some (.slice A2 last.length c2) := (blk_cell hw3 0).trans rfl; have hw0 : w3.cell? ⟨gw, 0, none⟩ = some (.slice A0 nx.length c0) := (blk_cell (blk_below HL.out.box HB3.out) 0).trans rfl; have hw1 : w3.cell? ⟨gw, 1, none⟩ = some (.slice A1 mk.length c1) := (blk_cell (blk_below HL.out.box HB3.out) 1).trans rfl; clear hw3 hk3 hb3 hcl HBBL HBL HGL) | fail)
      refine (numbered_calls 83 _ EG83.out (setKey nx last) A0 nx.length c0 A1 mk.length c1 w3 (by omega) (keyfn_next w3 gw gl c0 c2 A0 A2 nx last HL.out.ok.1 h61 (Kd.C_below HR0.out (bst HL.out.below HB3.out)) (Kd.C_below HC2.out HB3.out) hw0 hwl HL.out.ok.2)).mono ?_
      rintro e w4 ⟨v4, rfl, hv4, hb4⟩
      obtain ⟨A4, c4, rfl⟩ := Kd.R_slice hv4
      obtain ⟨_, hc4, hr4⟩ := Kd.R_reads' hv4
      have HV4 := Lib.hid (Kd.R_lower hv4 (bst HL.out.below HB3.out).size)
      have HB4 := Lib.hid (bst HB3.out hb4)
      have HC4 := Lib.hid hc4
      have HR4 := Lib.hid hr4
      have k0 := pwc hb4 hwl
      clear hv4 hb4 hw0 hw1 hwl HB3 hc4 hr4
      have hwl := k0
      clear k0
      obtain ⟨ke, hke⟩ := equal_eq (numTo (setKey nx last) nx.length).2 last (by rw [numTo_len]; omega)
      have HKE := Lib.hid hke
      clear hke
      go_wp2_with fail
      refine (PE.slices_Equal_int_int.calls ke A4 c4 (numTo (setKey nx last) nx.length).2 A2 c2 last _ w4 HR4.out HC4.out (Kd.C_below HC2.out HB4.out) HL2.out HKE.out).mono ?_
      rintro e w5 ⟨rfl, hd⟩
      obtain ⟨q5, rfl⟩ := hd
      clear HKE HC4 HR4 hwl
      by_cases hdone : (numTo (setKey nx last) nx.length).2 = last
      · have hb : decide ((numTo (setKey nx last) nx.length).2 = last) = true := decide_eq_true hdone
        have hf := HF.out
        rw [if_pos hdone] at hf
        injection hf with hf
        have HE := Lib.hid hf
        clear hf hdone
        go_wp2
        go_ret
        refine ⟨_, rfl, ?_, ?_⟩
        · rw [← HE.out]
          exact Kd.R_below HL.out.own (pwd HB4.out q5)
        · exact bst HL.out.below (pwd HB4.out q5)
      · have hb : decide ((numTo (setKey nx last) nx.length).2 = last) = false := decide_eq_false hdone
        have hf := HF.out
        rw [if_neg hdone] at hf
        have HF2 := Lib.hid hf
        clear hf hdone HF
        have HO := Lib.hid (Kd.R_below HL.out.own (pwd HB4.out q5))
        have HBW := Lib.hid (bst HL.out.below (pwd HB4.out q5))
        have HV5 := Lib.hid (Kd.R_below HV4.out (pwd (Below.refl w4.heap.size w4) q5))
        have HBX := Lib.hid (blk_below HL.out.box (pwd HB4.out q5))
        have HP : Hid (Kd.R (Kd.int .i64) 3 (w4.drewN q5) w.heap.size (fun k => True ∧ k ≠ g) (.slice A4 (numTo (setKey nx last) nx.length).2.length c4) (numTo (setKey nx last) nx.length).2) := Lib.hid (by
          obtain ⟨_, inner, ho, _⟩ := HO.out
          obtain ⟨cells, hc⟩ := own_typed ho g rfl
          exact Kd.R_types HV5.out hc (by simp [Kd.int, Kd.scalar]))
        have HXS := Lib.hid (show ((init ++ [last]).length + 1) * 24 ≤ 140737488355328 by have := HL.out.len; simp; omega)
        go_wp2_with (first | (at_builtin; refine Kd.R_append (Kd.slice 3 (Kd.int .i64)) (w0 := w) w.heap.size rfl (.tmp 23) (.tmp 25) 86 22 (.slice none 0 0) 24 rfl Try.underlying86 info22 rfl (by decide) (by decide) (.slice (some ⟨g, 0, none⟩) (m + 1) cp) (init ++ [last]) (numTo (setKey nx last) nx.length).2 [.slice A4 (numTo (setKey nx last) nx.length).2.length c4] (fun _ => True) (fun k => True ∧ k ≠ g) rfl rfl ⟨_, rfl, HP.out⟩ (fun k hk => ⟨trivial, fun e => hk.2 (Option.some.inj e)⟩) (fun _ _ => trivial) HO.out HBW.out HBW.out.size HXS.out ?_; intro v1 w1 hv hb hg hat; have HV1 := Lib.hid hv; have HB1 := Lib.hid hb; have HX1 := Lib.hid (blk_grown HBX.out hg (Kd.R_ne HO.out HBX.out (by decide))); clear hv hb hg hat) | fail)
        obtain ⟨g', cp', rfl⟩ := rows_form HV1.out (by simp)
        go_roundg kq
        case measure => omega
        case rel => exact ⟨g', m + 1, cp', init ++ [last], _, by simp [HL.out.len], ⟨by simp [HL.out.len], HF2.out, lvOk_num _ _, by simpa [HL.out.len] using HV1.out, HB1.out, HX1.out⟩⟩
end Go.Proofs.Ytjffhhalmicodaa.X
end

section
set_option linter.unusedVariables false
set_option linter.unusedSimpArgs false
namespace Go.Proofs.Ytjffhhalmicodaa.X
open Go.RowKit Go.Proofs.G.PrintWords Go.Proofs.G.PrintLast Go.Proofs.G.PrintMore
def fixes_levels.f (k : Nat) (l0_0 l0_1 : List Int) : Option (List (List Int)) := if l0_0.length ≤ 61 ∧ l0_0.length ≤ l0_1.length then levF l0_0 k [(numTo (markKey l0_1) l0_0.length).2] else none
theorem fixes_levels.calls (k : Nat) (A0_0 : Option Addr) (c0_0 : Nat) (l0_0 : List Int) (A0_1 : Option Addr) (c0_1 : Nat) (l0_1 : List Int) (r : List (List Int)) (w : World) (hr0_0 : Kd.C (Kd.int .i64) w A0_0 l0_0.length l0_0) (hc0_0 : l0_0.length ≤ c0_0) (hr0_1 : Kd.C (Kd.int .i64) w A0_1 l0_1.length l0_1) (hc0_1 : l0_1.length ≤ c0_1) (h : fixes_levels.f k l0_0 l0_1 = some r) :
    Calls Try.prog 66 #[.agg #[.slice A0_0 l0_0.length c0_0, .slice A0_1 l0_1.length c0_1]] w fun e w' => ∃ v0_ : Value, e = .returned (v0_) ∧ Kd.R (Kd.slice 3 (Kd.int .i64)) 22 w' w.heap.size (fun _ => True) v0_ r ∧ Below w.heap.size w w' := by
  unfold fixes_levels.f at h
  split at h
  · rename_i hc
    exact levels_calls k A0_0 c0_0 l0_0 A0_1 c0_1 l0_1 r w hr0_0 hr0_1 hc.1 hc.2 h
  · cases h
def PredI (w : World) (g : Nat) (lb : Array Value) (l : List Int) (p : Int → Bool) : Prop :=
  ∀ (W : World) (s : Nat), s < l.length → Below w.heap.size w W → Calls Try.prog g (#[.int .i64 (rd l s)] ++ lb) W fun e w' => e = .returned (.bool (p (rd l s))) ∧ Below W.heap.size W w'
set_option maxRecDepth 100000 in
set_option maxHeartbeats 2000000 in
theorem index_calls (g : Nat) (lb : Array Value) (eg : ∀ args w, (callFunc g args).run Try.prog w = .ok (.enter g args) w) (p : Int → Bool) (A : Option Addr) (c : Nat) (l : List Int) (w : World) (hr : Kd.C (Kd.int .i64) w A l.length l) (hp : PredI w g lb l p) :
    Calls Try.prog 90 #[.slice A l.length c, .func (.func g) #[] lb] w fun e w' => (∃ i : Int, e = .returned (.int .i64 i) ∧ (decide (0 ≤ i) = l.any p)) ∧ Below w.heap.size w w' := by
  have HP := Lib.hid hp
  have HR := Lib.hid hr
  have hlen := hr.2.1
  clear hp hr
  go_enter Try.func90, Try.ntmps90
  go_wp2_with fail
  go_loopw [8] (fun i wr => ∃ k : Nat, k ≤ l.length ∧ i = .int .i64 k ∧ Hid (Below w.heap.size w wr) ∧ Hid (∀ j : Nat, j < k → p (rd l j) = false)) (fun i _ => l.length - (intOf i).toNat)
  case atStart => exact ⟨0, by omega, rfl, Lib.hid (Below.refl _ _), Lib.hid (fun j hj => by omega)⟩
  case round =>
    obtain ⟨k, hk, rfl, HB, HK⟩ := hrel
    by_cases hlt : k < l.length
    · obtain ⟨b, off, rfl, hbl, hc⟩ := ints_at HR.out (by omega)
      have hcell := pwc HB.out (hc k hlt)
      have HC := Lib.hid (HP.out wr k hlt HB.out)
      clear hc hbl
      go_wp2_with fail
      refine HC.out.mono ?_
      rintro e w2 ⟨rfl, hb⟩
      have HB2 := Lib.hid (bst HB.out hb)
      clear hb HB HC hcell
      cases hpk : p (rd l (k : Int)) with
      | true =>
        have HPK := Lib.hid hpk
        clear hpk
        go_wp2
        go_ret
        refine ⟨⟨_, rfl, ?_⟩, HB2.out⟩
        have : l.any p = true := by
          rw [List.any_eq_true]
          refine ⟨rd l (k : Int), ?_, HPK.out⟩
          simp [rd, List.getD_eq_getElem?_getD, hlt]
        rw [this]
        simp
      | false =>
        have HPK := Lib.hid hpk
        clear hpk
        go_wp2
        go_roundw
        case rel => exact ⟨k + 1, by omega, by go_num, HB2, Lib.hid (fun j hj => by
          by_cases e : j = k
          · rw [e]; exact HPK.out
          · exact HK.out j (by omega))⟩
        case measure => simp [intOf]; omega
    · obtain rfl : k = l.length := by omega
      go_wp2
      go_ret
      refine ⟨⟨_, rfl, ?_⟩, HB.out⟩
      have : l.any p = false := by
        rw [List.any_eq_false]
        intro x hx
        obtain ⟨j, hj, rfl⟩ := List.getElem_of_mem hx
        have := HK.out j hj
        simpa [rd, List.getD_eq_getElem?_getD, hj] using this
      rw [this]
      rfl
end Go.Proofs.Ytjffhhalmicodaa.X
end

section
set_option linter.unusedVariables false
set_option linter.unusedSimpArgs false
namespace Go.Proofs.Ytjffhhalmicodaa.X
open Go.RowKit Go.Proofs.G.PrintWords Go.Proofs.G.PrintLast Go.Proofs.G.PrintMore
set_option maxRecDepth 100000 in
set_option maxHeartbeats 2000000 in
theorem contains_calls (g : Nat) (lb : Array Value) (eg : ∀ args w, (callFunc g args).run Try.prog w = .ok (.enter g args) w) (p : Int → Bool) (A : Option Addr) (c : Nat) (l : List Int) (w : World) (hr : Kd.C (Kd.int .i64) w A l.length l) (hp : PredI w g lb l p) :
    Calls Try.prog 78 #[.slice A l.length c, .func (.func g) #[] lb] w fun e w' => e = .returned (.bool (l.any p)) ∧ Below w.heap.size w w' := by
  have HC := Lib.hid (index_calls g lb eg p A c l w hr hp)
  clear hp hr
  go_enter Try.func78, Try.ntmps78
  go_wp2_with fail
  refine HC.out.mono ?_
  rintro e w2 ⟨⟨i, rfl, hi⟩, hb⟩
  have HB := Lib.hid hb
  have HI := Lib.hid hi
  clear hb hi HC
  go_wp2
  go_ret
  exact ⟨ret_bool HI.out, HB.out⟩
def offS (n : Nat) (x : Int) : Bool := decide (x < 0) || decide ((n : Int) ≤ x)
set_option maxRecDepth 100000 in
set_option maxHeartbeats 2000000 in
theorem off_calls (bw n c0 : Nat) (A0 : Option Addr) (x : Int) (W : World) (hw : W.cell? ⟨bw, 0, none⟩ = some (.slice A0 n c0)) (_hn : n ≤ 9223372036854775807) :
    Calls Try.prog 79 #[.int .i64 x, .pointer (some ⟨bw, 0, none⟩)] W fun e w' => e = .returned (.bool (offS n x)) ∧ Below W.heap.size W w' := by
  have hu := Try.underlying28
  by_cases h : x < 0
  · have hd : decide (x < 0) = true := decide_eq_true h
    have HD := Lib.hid hd
    go_enter Try.func79, Try.ntmps79
    go_wp2
    go_ret
    exact ⟨by unfold offS; rw [HD.out]; rfl, Below.refl _ _⟩
  · have hd : decide (x < 0) = false := decide_eq_false h
    have HD := Lib.hid hd
    go_enter Try.func79, Try.ntmps79
    go_wp2
    go_ret
    exact ⟨ret_bool (by unfold offS; rw [HD.out]; rfl), Below.refl _ _⟩
set_option maxRecDepth 100000 in
set_option maxHeartbeats 2000000 in
theorem isState_no (A0 : Option Addr) (c0 : Nat) (nx : List Int) (A1 : Option Addr) (c1 : Nat) (mk : List Int) (A : Option Addr) (c : Nat) (l : List Int) (w : World) (hr0 : Kd.C (Kd.int .i64) w A0 nx.length nx) (hc0 : nx.length ≤ c0) (hr1 : Kd.C (Kd.int .i64) w A1 mk.length mk) (hc1 : mk.length ≤ c1) (h : PA.fixes_Works_valid.f nx mk = some false) :
    Calls Try.prog 64 #[.agg #[.slice A0 nx.length c0, .slice A1 mk.length c1], .slice A l.length c] w fun e w' => e = .returned (.bool false) ∧ Below w.heap.size w w' := by
  have hu := Try.underlying28
  have HR0 := Lib.hid hr0
  have HR1 := Lib.hid hr1
  have H := Lib.hid h
  clear hr0 hr1 h
  go_enter Try.func64, Try.ntmps64
  go_wp2_with (first | ((with_reducible refine gate_dst (N := 2) rfl ?_); refine box_event ?hg (N := 2) ?hd (cs := #[.slice A0 nx.length c0, .slice A1 mk.length c1]) (t := 28) ?hr ?_; (case hd => rfl); (case hg => rfl); (case hr => first | (go_simp; done) | (go_simp; rfl)); intro gw hgw wb hbw hbb; have HB0 := Lib.hid (bst (Below.refl w.heap.size w) hbb); have hw0 : wb.cell? ⟨gw, 0, none⟩ = some (.slice A0 nx.length c0) := (blk_cell hbw 0).trans rfl; have hw1 : wb.cell? ⟨gw, 1, none⟩ = some (.slice A1 mk.length c1) := (blk_cell hbw 1).trans rfl; clear hgw hbw hbb) | fail)
  refine (PA.fixes_Works_valid.calls A0 c0 nx A1 c1 mk false wb (Kd.C_below HR0.out HB0.out) hc0 (Kd.C_below HR1.out HB0.out) hc1 H.out).mono ?_
  rintro e w1 ⟨rfl, hb⟩
  have HB := Lib.hid (bst HB0.out hb)
  clear hb HB0 hw0 hw1
  go_wp2
  go_ret
  exact ⟨rfl, HB.out⟩
theorem predI_off (w : World) (gw n c0 : Nat) (A0 : Option Addr) (l : List Int) (hn : n ≤ 9223372036854775807) (hw : w.cell? ⟨gw, 0, none⟩ = some (.slice A0 n c0)) : PredI w 79 #[.pointer (some ⟨gw, 0, none⟩)] l (offS n) := by
  intro W s hs hb
  exact off_calls gw n c0 A0 (rd l s) W (pwc hb hw) hn
set_option maxRecDepth 100000 in
set_option maxHeartbeats 2000000 in
theorem isState_yes (A0 : Option Addr) (c0 : Nat) (nx : List Int) (A1 : Option Addr) (c1 : Nat) (mk : List Int) (A : Option Addr) (c : Nat) (l : List Int) (w : World) (hr0 : Kd.C (Kd.int .i64) w A0 nx.length nx) (hc0 : nx.length ≤ c0) (hr1 : Kd.C (Kd.int .i64) w A1 mk.length mk) (hc1 : mk.length ≤ c1) (hr : Kd.C (Kd.int .i64) w A l.length l) (h : PA.fixes_Works_valid.f nx mk = some true) :
    Calls Try.prog 64 #[.agg #[.slice A0 nx.length c0, .slice A1 mk.length c1], .slice A l.length c] w fun e w' => e = .returned (.bool (!l.any (offS nx.length))) ∧ Below w.heap.size w w' := by
  have hu := Try.underlying28
  have eg : ∀ args w, (callFunc 79 args).run Try.prog w = .ok (.enter 79 args) w := enters_of' Try.func79 (by kernel_rfl) rfl
  have EG := Lib.hid eg
  have HR0 := Lib.hid hr0
  have HR1 := Lib.hid hr1
  have HR := Lib.hid hr
  have H := Lib.hid h
  clear hr0 hr1 h eg hr
  go_enter Try.func64, Try.ntmps64
  go_wp2_with (first | ((with_reducible refine gate_dst (N := 2) rfl ?_); refine box_event ?hg (N := 2) ?hd (cs := #[.slice A0 nx.length c0, .slice A1 mk.length c1]) (t := 28) ?hr ?_; (case hd => rfl); (case hg => rfl); (case hr => first | (go_simp; done) | (go_simp; rfl)); intro gw hgw wb hbw hbb; have HB0 := Lib.hid (bst (Below.refl w.heap.size w) hbb); have hw0 : wb.cell? ⟨gw, 0, none⟩ = some (.slice A0 nx.length c0) := (blk_cell hbw 0).trans rfl; have hw1 : wb.cell? ⟨gw, 1, none⟩ = some (.slice A1 mk.length c1) := (blk_cell hbw 1).trans rfl; clear hgw hbw hbb) | fail)
  refine (PA.fixes_Works_valid.calls A0 c0 nx A1 c1 mk true wb (Kd.C_below HR0.out HB0.out) hc0 (Kd.C_below HR1.out HB0.out) hc1 H.out).mono ?_
  rintro e w1 ⟨rfl, hb⟩
  have HB := Lib.hid (bst HB0.out hb)
  have k0 := pwc hb hw0
  clear hb HB0 hw0 hw1
  have hw0 := k0
  clear k0
  go_wp2_with fail
  refine (contains_calls 79 _ EG.out (offS nx.length) A c l w1 (Kd.C_below HR.out HB.out) (predI_off w1 gw nx.length c0 A0 l HR0.out.2.1 hw0)).mono ?_
  rintro e w2 ⟨rfl, hb⟩
  have HB2 := Lib.hid (bst HB.out hb)
  clear hb HB hw0
  go_wp2
  go_ret
  exact ⟨rfl, HB2.out⟩
def fixes_isState.f (l0_0 l0_1 : List Int) (l1 : List Int) : Option Bool := (PA.fixes_Works_valid.f l0_0 l0_1).bind fun b => if b = true then some (!l1.any (offS l0_0.length)) else some false
theorem fixes_isState.calls (A0_0 : Option Addr) (c0_0 : Nat) (l0_0 : List Int) (A0_1 : Option Addr) (c0_1 : Nat) (l0_1 : List Int) (A1 : Option Addr) (c1 : Nat) (l1 : List Int) (r : Bool) (w : World) (hr0_0 : Kd.C (Kd.int .i64) w A0_0 l0_0.length l0_0) (hc0_0 : l0_0.length ≤ c0_0) (hr0_1 : Kd.C (Kd.int .i64) w A0_1 l0_1.length l0_1) (hc0_1 : l0_1.length ≤ c0_1) (hr1 : Kd.C (Kd.int .i64) w A1 l1.length l1) (hc1 : l1.length ≤ c1) (h : fixes_isState.f l0_0 l0_1 l1 = some r) :
    Calls Try.prog 64 #[.agg #[.slice A0_0 l0_0.length c0_0, .slice A0_1 l0_1.length c0_1], .slice A1 l1.length c1] w fun e w' => e = .returned (.bool r) ∧ Below w.heap.size w w' := by
  unfold fixes_isState.f at h
  obtain ⟨b, hb, h⟩ := Option.bind_eq_some_iff.mp h
  cases b
  · simp only [Bool.false_eq_true, if_false, Option.some.injEq] at h
    subst h
    exact isState_no A0_0 c0_0 l0_0 A0_1 c0_1 l0_1 A1 c1 l1 w hr0_0 hc0_0 hr0_1 hc0_1 hb
  · simp only [if_true, Option.some.injEq] at h
    subst h
    exact isState_yes A0_0 c0_0 l0_0 A0_1 c0_1 l0_1 A1 c1 l1 w hr0_0 hc0_0 hr0_1 hc0_1 hr1 hb
end Go.Proofs.Ytjffhhalmicodaa.X
end

section
set_option linter.unusedVariables false
set_option linter.unusedSimpArgs false
namespace Go.Proofs.Ytjffhhalmicodaa.X
open Go.RowKit Go.Proofs.G.PrintWords Go.Proofs.G.PrintLast Go.Proofs.G.PrintMore
theorem rows_own {w : World} {base g m n cp : Nat} {ok : Nat → Prop} {xs : List (List Int)} {last : List Int} (h : Kd.R (Kd.slice 3 (Kd.int .i64)) 22 w base ok (.slice (some ⟨g, 0, none⟩) n cp) xs) (hm : xs[m]? = some last) : ∃ v, w.cell? ⟨g, m, none⟩ = some v ∧ Kd.R (Kd.int .i64) 3 w base ok v last := by
 obtain ⟨h0, inner, ho, hr⟩ := h
 obtain ⟨v, hv, hR⟩ := hr.2 m last hm
 refine ⟨v, ?_, Kd.R_mono hR (fun k hk => hk.1)⟩
 have hi : inner[m]? = some v := by
  rw [show (Kd.slice 3 (Kd.int .i64)).sz = 1 from rfl, Nat.mul_one] at hv
  have := congrArg (fun l => l[0]?) hv
  simpa [List.getElem?_take, List.getElem?_drop] using this
 have := ho.cells (g := g) rfl m v hi
 have e2 : (⟨g, 0, none⟩ : Addr).add m = ⟨g, m, none⟩ := by
  unfold Addr.add
  split <;> simp_all
 rwa [e2] at this
set_option maxRecDepth 100000 in
set_option maxHeartbeats 2000000 in
theorem classes_calls (k : Nat) (A0 : Option Addr) (c0 : Nat) (nx : List Int) (A1 : Option Addr) (c1 : Nat) (mk : List Int) (init : List (List Int)) (last : List Int) (w : World) (hr0 : Kd.C (Kd.int .i64) w A0 nx.length nx) (hc0 : nx.length ≤ c0) (hr1 : Kd.C (Kd.int .i64) w A1 mk.length mk) (hc1 : mk.length ≤ c1) (hlen : init.length ≤ 100000) (h : fixes_levels.f k nx mk = some (init ++ [last])) :
    Calls Try.prog 62 #[.agg #[.slice A0 nx.length c0, .slice A1 mk.length c1]] w fun e w' => ∃ v, e = .returned v ∧ Kd.R (Kd.int .i64) 3 w' w.heap.size (fun _ => True) v last ∧ Below w.heap.size w w' := by
  have hu := Try.underlying28
  have HR0 := Lib.hid hr0
  have HR1 := Lib.hid hr1
  have HF := Lib.hid h
  clear hr0 hr1 h
  go_enter Try.func62, Try.ntmps62
  go_wp2_with (first | ((with_reducible refine gate_dst (N := 1) rfl ?_); refine box_event ?hg (N := 1) ?hd (cs := #[.slice A0 nx.length c0, .slice A1 mk.length c1]) (t := 28) ?hr ?_; (case hd => rfl); (case hg => rfl); (case hr => first | (go_simp; done) | (go_simp; rfl)); intro gw hgw wb hbw hbb; have HB0 := Lib.hid (bst (Below.refl w.heap.size w) hbb); have hw0 : wb.cell? ⟨gw, 0, none⟩ = some (.slice A0 nx.length c0) := (blk_cell hbw 0).trans rfl; have hw1 : wb.cell? ⟨gw, 1, none⟩ = some (.slice A1 mk.length c1) := (blk_cell hbw 1).trans rfl; clear hgw hbw hbb) | fail)
  refine (fixes_levels.calls k A0 c0 nx A1 c1 mk (init ++ [last]) wb (Kd.C_below HR0.out HB0.out) hc0 (Kd.C_below HR1.out HB0.out) hc1 HF.out).mono ?_
  rintro e w1 ⟨v, rfl, hv, hb⟩
  have HB := Lib.hid (bst HB0.out hb)
  have hvl := Kd.R_lower hv HB0.out.size
  obtain ⟨g, cp, rfl⟩ := rows_form hvl (by simp)
  obtain ⟨u, hcell, hu2⟩ := rows_own (m := init.length) (last := last) hvl (by simp)
  have HU := Lib.hid hu2
  clear hv hb hvl hw0 hw1 HB0 HF hu2
  have hn : (init ++ [last]).length = init.length + 1 := by simp
  rw [hn]
  clear hn
  generalize init.length = m at *
  go_wp2_with fail
  go_ret
  exact ⟨_, rfl, HU.out, HB.out⟩
def fixes_classes.f (k : Nat) (l0_0 l0_1 : List Int) : Option (List Int) := (fixes_levels.f k l0_0 l0_1).bind fun l => if l = [] ∨ 100000 < l.length then none else some (l.getLastD [])
theorem fixes_classes.calls (k : Nat) (A0_0 : Option Addr) (c0_0 : Nat) (l0_0 : List Int) (A0_1 : Option Addr) (c0_1 : Nat) (l0_1 : List Int) (r : List Int) (w : World) (hr0_0 : Kd.C (Kd.int .i64) w A0_0 l0_0.length l0_0) (hc0_0 : l0_0.length ≤ c0_0) (hr0_1 : Kd.C (Kd.int .i64) w A0_1 l0_1.length l0_1) (hc0_1 : l0_1.length ≤ c0_1) (h : fixes_classes.f k l0_0 l0_1 = some r) :
    Calls Try.prog 62 #[.agg #[.slice A0_0 l0_0.length c0_0, .slice A0_1 l0_1.length c0_1]] w fun e w' => ∃ v0_ : Value, e = .returned (v0_) ∧ Kd.R (Kd.int .i64) 3 w' w.heap.size (fun _ => True) v0_ r ∧ Below w.heap.size w w' := by
  unfold fixes_classes.f at h
  obtain ⟨l, hl, h⟩ := Option.bind_eq_some_iff.mp h
  split at h
  · cases h
  · rename_i hne
    injection h with h
    subst h
    have hne1 : l ≠ [] := fun e => hne (.inl e)
    have hx : l = l.dropLast ++ [l.getLastD []] := by
      have e1 := (List.dropLast_concat_getLast hne1).symm
      have e2 : l.getLastD [] = l.getLast hne1 := by rw [List.getLastD_eq_getLast?, List.getLast?_eq_some_getLast hne1]; rfl
      rw [e2]
      exact e1
    rw [hx] at hl
    refine classes_calls k A0_0 c0_0 l0_0 A0_1 c0_1 l0_1 l.dropLast (l.getLastD []) w hr0_0 hc0_0 hr0_1 hc0_1 ?_ hl
    rw [List.length_dropLast]
    have : ¬ 100000 < l.length := fun e => hne (.inr e)
    omega
end Go.Proofs.Ytjffhhalmicodaa.X
end

section
set_option linter.unusedVariables false
namespace Go.Proofs.Ytjffhhalmicodaa.X
open Go.RowKit Go.Proofs.G.PrintWords Go.Proofs.G.PrintLast Go.Proofs.G.PrintMore
end Go.Proofs.Ytjffhhalmicodaa.X
namespace Go.Proofs.Ytjffhhalmicodaa.L
open Go.RowKit Go.Proofs.G.PrintWords Go.Proofs.G.PrintLast Go.Proofs.G.PrintMore Go.Proofs.Ytjffhhalmicodaa.X
theorem bit_of {x : Int} {n : Nat} (hn : n ≤ 61) (h : InS n x) {t : Nat} (ht : t ≤ 64) : bits .and .i64 (shr .i64 x (t : Int)) 1 = if tb x t = true then 1 else 0 := by
 obtain ⟨y, rfl, hy⟩ := inS_nat h
 have e : shr .i64 (y : Int) (t : Int) = ((y / 2 ^ t : Nat) : Int) := by
  unfold shr
  rw [Int.toNat_natCast, show min t IntKind.i64.bits = t from Nat.min_eq_left ht, Int.natCast_ediv]
  simp
 have hb : y / 2 ^ t < 2 ^ 62 := Nat.lt_of_le_of_lt (Nat.div_le_self _ _) (Nat.lt_of_lt_of_le hy (pow_le62 (by omega)))
 rw [e, show (1 : Int) = ((1 : Nat) : Int) from rfl, and_nat hb (by decide), tb_nat, Nat.testBit, Nat.shiftRight_eq_div_pow, Nat.and_comm]
 have : 1 &&& y / 2 ^ t = 0 ∨ 1 &&& y / 2 ^ t = 1 := by
  rw [Nat.and_comm, Nat.and_one_is_mod]
  omega
 rcases this with h | h <;> rw [h] <;> rfl
theorem set_spec {nx last : List Int} {s : Nat} (hx : InS 6 (rd nx s)) : ∀ m, m ≤ 6 → (∀ t : Nat, t < m → 0 ≤ rd last t ∧ rd last t < 6) → InS 6 (setTo nx last s m) ∧ ∀ c : Nat, tb (setTo nx last s m) c = true ↔ ∃ u, u < m ∧ tb (rd nx s) u = true ∧ rd last u = c := by
 intro m
 induction m with
 | zero =>
  intro _ _
  refine ⟨inS_zero _, fun c => ?_⟩
  show tb 0 c = true ↔ _
  rw [tb_zero]
  exact ⟨fun h => (by cases h), fun ⟨u, h, _⟩ => (by omega)⟩
 | succ m ih =>
  intro hm hr
  obtain ⟨i1, i2⟩ := ih (by omega) (fun t ht => hr t (by omega))
  have hb := bit_of (by decide) hx (t := m) (by omega)
  unfold setTo
  by_cases h : tb (rd nx s) m = true
  ·rw [if_pos h] at hb
   rw [if_pos hb]
   have hq := hr m (by omega)
   obtain ⟨q, hq1⟩ := Int.eq_ofNat_of_zero_le hq.1
   have hq6 : q < 6 := by omega
   have hp : InS 6 (((2 ^ q : Nat) : Int)) := inS_of (Nat.pow_lt_pow_right (by decide) hq6)
   rw [hq1, shl1 (by omega)]
   refine ⟨or_in (by decide) i1 hp, fun c => ?_⟩
   rw [tb_or (by decide) (by decide) i1 hp, Bool.or_eq_true, i2, tb_nat, Nat.testBit_two_pow, decide_eq_true_eq]
   constructor
   ·rintro (⟨u, a, b, d⟩ | rfl)
    ·exact ⟨u, by omega, b, d⟩
    ·exact ⟨m, by omega, h, hq1⟩
   ·rintro ⟨u, a, b, d⟩
    by_cases e : u = m
    ·subst e
     right
     omega
    ·exact .inl ⟨u, by omega, b, d⟩
  ·rw [if_neg h] at hb
   rw [hb, if_neg (by decide)]
   refine ⟨i1, fun c => ?_⟩
   rw [i2]
   constructor
   ·rintro ⟨u, a, b⟩
    exact ⟨u, by omega, b⟩
   ·rintro ⟨u, a, b, d⟩
    by_cases e : u = m
    ·subst e
     exact absurd b h
    ·exact ⟨u, by omega, b, d⟩
def lv (nx mk : List Int) : Nat → List Int
  | 0 => (numTo (markKey mk) nx.length).2
  | k + 1 => (numTo (setKey nx (lv nx mk k)) nx.length).2
def lkey (nx mk : List Int) : Nat → Nat → Int × Int
  | 0 => markKey mk
  | k + 1 => setKey nx (lv nx mk k)
theorem lv_eq (nx mk : List Int) (k : Nat) : lv nx mk k = (numTo (lkey nx mk k) nx.length).2 := by cases k <;> rfl
theorem lv_len (nx mk : List Int) (k : Nat) : (lv nx mk k).length = nx.length := by rw [lv_eq]; exact numTo_len _ _
theorem lv_rd (nx mk : List Int) (k i : Nat) (h : i < nx.length) : rd (lv nx mk k) i = cls (lkey nx mk k) i := by rw [lv_eq]; exact rd_num _ _ _ h
theorem lv_range {nx mk : List Int} (k i : Nat) (h : i < nx.length) : 0 ≤ rd (lv nx mk k) i ∧ rd (lv nx mk k) i < nx.length := by
  rw [lv_rd _ _ _ _ h]
  have := cls_range (lkey nx mk k) h
  have := cnt_le (lkey nx mk k) nx.length
  omega
def E (nx mk : List Int) (k s t : Nat) : Prop := rd (lv nx mk k) s = rd (lv nx mk k) t
theorem E_refl (nx mk : List Int) (k s : Nat) : E nx mk k s s := rfl
theorem E.symm {nx mk : List Int} {k s t : Nat} (h : E nx mk k s t) : E nx mk k t s := Eq.symm h
theorem E.trans {nx mk : List Int} {k s t u : Nat} (h : E nx mk k s t) (g : E nx mk k t u) : E nx mk k s u := Eq.trans h g
theorem E_key {nx mk : List Int} {k s t : Nat} (hs : s < nx.length) (ht : t < nx.length) : E nx mk k s t ↔ lkey nx mk k s = lkey nx mk k t := by
  unfold E
  rw [lv_rd _ _ _ _ hs, lv_rd _ _ _ _ ht, cls_eq]
theorem E_zero {nx mk : List Int} {s t : Nat} (hs : s < nx.length) (ht : t < nx.length) : E nx mk 0 s t ↔ rd mk s = rd mk t := by
  rw [E_key hs ht]
  unfold lkey markKey
  simp
theorem set_at {nx mk : List Int} (hv : VW nx mk) (k : Nat) {s : Nat} (hs : s < nx.length) : InS 6 (setTo nx (lv nx mk k) s nx.length) ∧ ∀ c : Nat, tb (setTo nx (lv nx mk k) s nx.length) c = true ↔ ∃ u, u < nx.length ∧ tb (rd nx s) u = true ∧ rd (lv nx mk k) u = c :=
  set_spec (inS_mono (hv.next s hs) hv.le) nx.length hv.le fun t ht => by
    have h1 := lv_range (mk := mk) k t ht
    have h2 := hv.le
    omega
theorem E_succ {nx mk : List Int} (hv : VW nx mk) {k s t : Nat} (hs : s < nx.length) (ht : t < nx.length) :
    E nx mk (k + 1) s t ↔ E nx mk k s t ∧ (∀ u, u < nx.length → tb (rd nx s) u = true → ∃ v, v < nx.length ∧ tb (rd nx t) v = true ∧ E nx mk k u v) ∧ (∀ v, v < nx.length → tb (rd nx t) v = true → ∃ u, u < nx.length ∧ tb (rd nx s) u = true ∧ E nx mk k u v) := by
  rw [E_key hs ht]
  have e1 : lkey nx mk (k + 1) s = lkey nx mk (k + 1) t ↔ E nx mk k s t ∧ setTo nx (lv nx mk k) s nx.length = setTo nx (lv nx mk k) t nx.length := by
    show setKey nx (lv nx mk k) s = setKey nx (lv nx mk k) t ↔ _
    unfold setKey E
    rw [lv_len]
    simp
  rw [e1]
  obtain ⟨s1, s2⟩ := set_at hv k hs
  obtain ⟨t1, t2⟩ := set_at hv k ht
  constructor
  · rintro ⟨h0, h⟩
    refine ⟨h0, fun u hu hb => ?_, fun v hw hb => ?_⟩
    · obtain ⟨c, hc⟩ := Int.eq_ofNat_of_zero_le (lv_range (mk := mk) k u hu).1
      have := (s2 c).2 ⟨u, hu, hb, hc⟩
      rw [h, t2] at this
      obtain ⟨v, a, b, d⟩ := this
      exact ⟨v, a, b, hc.trans d.symm⟩
    · obtain ⟨c, hc⟩ := Int.eq_ofNat_of_zero_le (lv_range (mk := mk) k v hw).1
      have := (t2 c).2 ⟨v, hw, hb, hc⟩
      rw [← h, s2] at this
      obtain ⟨u, a, b, d⟩ := this
      exact ⟨u, a, b, d.trans hc.symm⟩
  · rintro ⟨h0, h1, h2⟩
    refine ⟨h0, inS_ext s1 t1 fun c _ => ?_⟩
    rw [Bool.eq_iff_iff, s2, t2]
    constructor
    · rintro ⟨u, a, b, d⟩
      obtain ⟨v, a', b', d'⟩ := h1 u a b
      exact ⟨v, a', b', (show rd (lv nx mk k) u = rd (lv nx mk k) v from d') ▸ d⟩
    · rintro ⟨v, a, b, d⟩
      obtain ⟨u, a', b', d'⟩ := h2 v a b
      exact ⟨u, a', b', (show rd (lv nx mk k) u = rd (lv nx mk k) v from d').trans d⟩
theorem E_le {nx mk : List Int} (hv : VW nx mk) {s t : Nat} (hs : s < nx.length) (ht : t < nx.length) {k m : Nat} (h : k ≤ m) (he : E nx mk m s t) : E nx mk k s t := by
  induction m with
  | zero => obtain rfl : k = 0 := by omega
            exact he
  | succ m ih =>
    by_cases e : k = m + 1
    · exact e ▸ he
    · exact ih (by omega) ((E_succ hv hs ht).1 he).1
def nc (nx mk : List Int) (k : Nat) : Nat := cnt (lkey nx mk k) nx.length
theorem cnt_fine {key key' : Nat → Int × Int} : ∀ n, (∀ i j, i < n → j < n → key' i = key' j → key i = key j) → cnt key n ≤ cnt key' n ∧ (cnt key n = cnt key' n → ∀ i j, i < n → j < n → key i = key j → key' i = key' j) := by
 intro n
 induction n with
 | zero => intro _; exact ⟨by simp [cnt, numTo], fun _ i j h => by omega⟩
 | succ n ih =>
  intro h
  obtain ⟨i1, i2⟩ := ih (fun i j hi hj => h i j (by omega) (by omega))
  rcases cnt_step key n with ⟨e, j, hj, hk⟩ | ⟨e, e2, e3⟩ <;> rcases cnt_step key' n with ⟨f, j', hj', hk'⟩ | ⟨f, f2, f3⟩
  ·refine ⟨by omega, fun he => ?_⟩
   have i3 := i2 (by omega)
   have h0 := h j' n (by omega) (by omega) hk'
   intro a b ha hb hab
   by_cases ea : a = n <;> by_cases eb : b = n
   ·rw [ea, eb]
   ·subst ea
    rw [← hk']
    exact i3 j' b hj' (by omega) (h0.trans hab)
   ·subst eb
    rw [← hk']
    exact i3 a j' (by omega) hj' (hab.trans h0.symm)
   ·exact i3 a b (by omega) (by omega) hab
  ·exact ⟨by omega, fun he => by omega⟩
  ·exact absurd (h j' n (by omega) (by omega) hk') (e3 j' hj')
  ·refine ⟨by omega, fun he => ?_⟩
   have i3 := i2 (by omega)
   intro a b ha hb hab
   by_cases ea : a = n <;> by_cases eb : b = n
   ·rw [ea, eb]
   ·subst ea; exact absurd hab.symm (e3 b (by omega))
   ·subst eb; exact absurd hab (e3 a (by omega))
   ·exact i3 a b (by omega) (by omega) hab
theorem nc_step {nx mk : List Int} (hv : VW nx mk) (k : Nat) : nc nx mk k ≤ nc nx mk (k + 1) ∧ (nc nx mk k = nc nx mk (k + 1) → lv nx mk (k + 1) = lv nx mk k) := by
 have hf : ∀ i j, i < nx.length → j < nx.length → lkey nx mk (k + 1) i = lkey nx mk (k + 1) j → lkey nx mk k i = lkey nx mk k j := fun i j hi hj h =>
  (E_key hi hj).1 ((E_succ hv hi hj).1 ((E_key hi hj).2 h)).1
 obtain ⟨h1, h2⟩ := cnt_fine nx.length hf
 refine ⟨h1, fun he => ?_⟩
 rw [lv_eq, lv_eq nx mk k]
 exact (num_congr fun i j hi hj => ⟨hf i j hi hj, h2 he i j hi hj⟩).1
theorem nc_pos {nx mk : List Int} (hv : VW nx mk) (k : Nat) : 1 ≤ nc nx mk k := by
  have := cls_range (lkey nx mk k) (i := 0) (n := nx.length) (by have := hv.pos; omega)
  unfold nc
  omega
theorem nc_le (nx mk : List Int) (k : Nat) : nc nx mk k ≤ nx.length := cnt_le _ _
structure Last (nx mk : List Int) (K : Nat) : Prop where
  same : lv nx mk (K + 1) = lv nx mk K
  first : ∀ j, j < K → lv nx mk (j + 1) ≠ lv nx mk j
theorem lv_last {nx mk : List Int} (hv : VW nx mk) : ∃ K, Last nx mk K ∧ K + 1 ≤ nc nx mk K ∧ ∀ j, j ≤ K → j + 1 ≤ nc nx mk j := by
 have key : ∀ m, (∃ j, j < m ∧ lv nx mk (j + 1) = lv nx mk j) ∨ ∀ j, j ≤ m → j + 1 ≤ nc nx mk j := by
  intro m
  induction m with
  | zero =>
   right
   intro j hj
   obtain rfl : j = 0 := by omega
   exact nc_pos hv 0
  | succ m ih =>
   rcases ih with ⟨j, a, b⟩ | h
   ·exact .inl ⟨j, by omega, b⟩
   ·by_cases e : lv nx mk (m + 1) = lv nx mk m
    ·exact .inl ⟨m, by omega, e⟩
    ·right
     intro j hj
     by_cases hjm : j ≤ m
     ·exact h j hjm
     ·obtain rfl : j = m + 1 := by omega
      have h1 := nc_step hv m
      have h2 := h m (Nat.le_refl _)
      have : nc nx mk m ≠ nc nx mk (m + 1) := fun q => e (h1.2 q)
      omega
 have hex : ∃ j, lv nx mk (j + 1) = lv nx mk j := by
  rcases key nx.length with ⟨j, _, h⟩ | h
  ·exact ⟨j, h⟩
  ·have h1 := h nx.length (Nat.le_refl _)
   have h2 := nc_le nx mk nx.length
   omega
 obtain ⟨j, hj⟩ := hex
 obtain ⟨K, h1, h2, h3⟩ := first_of (P := fun j => lv nx mk (j + 1) = lv nx mk j) j hj
 have hk : ∀ j, j ≤ K → j + 1 ≤ nc nx mk j := by
  rcases key K with ⟨i, a, b⟩ | h
  ·exact absurd b (h3 i a)
  ·exact h
 exact ⟨K, ⟨h2, h3⟩, hk K (Nat.le_refl _), hk⟩
theorem Last.le {nx mk : List Int} (hv : VW nx mk) {K : Nat} (h : Last nx mk K) : K + 1 ≤ nx.length := by
 obtain ⟨K', h', h2, _⟩ := lv_last hv
 have h3 := nc_le nx mk K'
 have : K = K' := by
  rcases Nat.lt_trichotomy K K' with q | q | q
  ·exact absurd h.same (h'.first K q)
  ·exact q
  ·exact absurd h'.same (h.first K' q)
 omega
end Go.Proofs.Ytjffhhalmicodaa.L
end

section
set_option linter.unusedVariables false
namespace Go.Proofs.Ytjffhhalmicodaa.L
open Go.RowKit Go.Proofs.G.PrintWords Go.Proofs.G.PrintLast Go.Proofs.G.PrintMore Go.Proofs.Ytjffhhalmicodaa.X
def Evr {α : Type} (g : Nat → Option α) (r : α) : Prop := ∃ k0, ∀ k, k0 ≤ k → g k = some r
theorem Evr.const {α : Type} (r : α) : Evr (fun _ => some r) r := ⟨0, fun _ _ => rfl⟩
theorem Evr.congr {α : Type} {g h : Nat → Option α} {r : α} (e : ∀ k, g k = h k) (hh : Evr h r) : Evr g r := by
  obtain ⟨k0, h0⟩ := hh
  exact ⟨k0, fun k hk => (e k).trans (h0 k hk)⟩
theorem Evr.step {α : Type} {g h : Nat → Option α} {r : α} (e : ∀ k, g (k + 1) = h k) (hh : Evr h r) : Evr g r := by
  obtain ⟨k0, h0⟩ := hh
  refine ⟨k0 + 1, fun k hk => ?_⟩
  obtain ⟨m, rfl⟩ : ∃ m, k = m + 1 := ⟨k - 1, by omega⟩
  exact (e m).trans (h0 m (by omega))
theorem Evr.bind {α β : Type} {g : Nat → Option α} {f : α → Nat → Option β} {a : α} {r : β} (hg : Evr g a) (hf : Evr (f a) r) : Evr (fun k => (g k).bind fun x => f x k) r := by
 obtain ⟨k0, h0⟩ := hg
 obtain ⟨k1, h1⟩ := hf
 refine ⟨max k0 k1, fun k hk => ?_⟩
 show (g k).bind _ = _
 rw [h0 k (by omega)]
 exact h1 k (by omega)
theorem Evr.ex {α : Type} {g : Nat → Option α} {r : α} (h : Evr g r) : ∃ k, g k = some r := by
  obtain ⟨k0, h0⟩ := h
  exact ⟨k0, h0 k0 (Nat.le_refl _)⟩
theorem Evr.of_mono {α : Type} {g : Nat → Option α} {r : α} (hm : ∀ k, LeO (g k) (g (k + 1))) (h : ∃ k, g k = some r) : Evr g r := by
  obtain ⟨k, h⟩ := h
  exact ⟨k, fun m hm' => lift hm h hm'⟩
theorem Evr.of_all {α : Type} {g : Nat → Option α} {r : α} (h : ∀ k, g k = some r) : Evr g r := ⟨0, fun k _ => h k⟩
theorem set_eq {nx last : List Int} (hv : ∀ s, s < nx.length → InS 6 (rd nx s)) (h6 : nx.length ≤ 6) (hl : ∀ t : Nat, t < nx.length → 0 ≤ rd last t ∧ rd last t < 6) {s t : Nat} (hs : s < nx.length) (ht : t < nx.length) :
    setTo nx last s nx.length = setTo nx last t nx.length ↔ (∀ u, u < nx.length → tb (rd nx s) u = true → ∃ v, v < nx.length ∧ tb (rd nx t) v = true ∧ rd last u = rd last v) ∧ (∀ v, v < nx.length → tb (rd nx t) v = true → ∃ u, u < nx.length ∧ tb (rd nx s) u = true ∧ rd last u = rd last v) := by
  obtain ⟨s1, s2⟩ := set_spec (last := last) (hv s hs) nx.length h6 hl
  obtain ⟨t1, t2⟩ := set_spec (last := last) (hv t ht) nx.length h6 hl
  constructor
  · intro h
    refine ⟨fun u hu hb => ?_, fun v hw hb => ?_⟩
    · obtain ⟨c, hc⟩ := Int.eq_ofNat_of_zero_le (hl u hu).1
      have := (s2 c).2 ⟨u, hu, hb, hc⟩
      rw [h, t2] at this
      obtain ⟨v, a, b, d⟩ := this
      exact ⟨v, a, b, hc.trans d.symm⟩
    · obtain ⟨c, hc⟩ := Int.eq_ofNat_of_zero_le (hl v hw).1
      have := (t2 c).2 ⟨v, hw, hb, hc⟩
      rw [← h, s2] at this
      obtain ⟨u, a, b, d⟩ := this
      exact ⟨u, a, b, d.trans hc.symm⟩
  · rintro ⟨h1, h2⟩
    refine inS_ext s1 t1 fun c _ => ?_
    rw [Bool.eq_iff_iff, s2, t2]
    constructor
    · rintro ⟨u, a, b, d⟩
      obtain ⟨v, a', b', d'⟩ := h1 u a b
      exact ⟨v, a', b', d' ▸ d⟩
    · rintro ⟨v, a, b, d⟩
      obtain ⟨u, a', b', d'⟩ := h2 v a b
      exact ⟨u, a', b', d'.trans d⟩
def lower (p : Nat → Bool) : Nat → Nat → Nat
  | 0, v => v
  | m + 1, v => lower p m (if p m = true then m else v)
theorem lower_spec (p : Nat → Bool) : ∀ m v, (∀ t, t < m → p t = false) ∧ lower p m v = v ∨ ∃ t, t < m ∧ lower p m v = t ∧ p t = true ∧ ∀ u, u < t → p u = false
 | 0, v => .inl ⟨fun t h => by omega, rfl⟩
 | m + 1, v => by
  rw [lower]
  rcases lower_spec p m (if p m = true then m else v) with ⟨h1, h2⟩ | ⟨t, h1, h2⟩
  ·by_cases hp : p m = true
   ·rw [if_pos hp] at h2 ⊢
    exact .inr ⟨m, by omega, h2, hp, h1⟩
   ·rw [if_neg hp] at h2 ⊢
    refine .inl ⟨fun t ht => ?_, h2⟩
    by_cases e : t = m
    ·rw [e]; simpa using hp
    ·exact h1 t (by omega)
  ·exact .inr ⟨t, by omega, h2⟩
noncomputable def rep (R : Nat → Nat → Prop) (s : Nat) : Nat := by classical exact lower (fun t => decide (R s t)) s s
structure Equi (n : Nat) (R : Nat → Nat → Prop) : Prop where
  refl : ∀ s, s < n → R s s
  symm : ∀ s t, s < n → t < n → R s t → R t s
  trans : ∀ s t u, s < n → t < n → u < n → R s t → R t u → R s u
theorem rep_spec {n : Nat} {R : Nat → Nat → Prop} (h : Equi n R) {s : Nat} (hs : s < n) : rep R s ≤ s ∧ R s (rep R s) ∧ ∀ t, t < rep R s → ¬ R s t := by
 classical
 unfold rep
 rcases lower_spec (fun t => decide (R s t)) s s with ⟨h1, h2⟩ | ⟨t, h1, h2, h3, h4⟩
 ·have e : lower (fun t => decide (R s t)) s s = s := h2
  rw [e]
  exact ⟨Nat.le_refl _, h.refl s hs, fun t ht hr => by have := h1 t ht; simp [hr] at this⟩
 ·have e : lower (fun t => decide (R s t)) s s = t := h2
  rw [e]
  exact ⟨by omega, by simpa using h3, fun u hu hr => by have := h4 u hu; simp [hr] at this⟩
theorem rep_eq {n : Nat} {R : Nat → Nat → Prop} (h : Equi n R) {s t : Nat} (hs : s < n) (ht : t < n) : rep R s = rep R t ↔ R s t := by
 obtain ⟨s1, s2, s3⟩ := rep_spec h hs
 obtain ⟨t1, t2, t3⟩ := rep_spec h ht
 constructor
 ·intro e
  rw [← e] at t2
  exact h.trans _ _ _ hs (by omega) ht s2 (h.symm _ _ ht (by omega) t2)
 ·intro e
  rcases Nat.lt_trichotomy (rep R s) (rep R t) with q | q | q
  ·exact absurd (h.trans _ _ _ ht hs (by omega) (h.symm _ _ hs ht e) s2) (t3 _ q)
  ·exact q
  ·exact absurd (h.trans _ _ _ hs ht (by omega) e t2) (s3 _ q)
theorem E_equi (nx mk : List Int) (k : Nat) : Equi nx.length (E nx mk k) := ⟨fun _ _ => rfl, fun _ _ _ _ h => Eq.symm h, fun _ _ _ _ _ _ h g => Eq.trans h g⟩
def RepOk (nx mk : List Int) (k : Nat) (l : List Int) : Prop := l.length = nx.length ∧ ∀ s : Nat, s < nx.length → rd l s = (rep (E nx mk k) s : Int)
theorem RepOk.eq_iff {nx mk : List Int} {k : Nat} {l : List Int} (h : RepOk nx mk k l) {s t : Nat} (hs : s < nx.length) (ht : t < nx.length) : rd l s = rd l t ↔ E nx mk k s t := by
  rw [h.2 s hs, h.2 t ht, ← rep_eq (E_equi nx mk k) hs ht]
  omega
theorem RepOk.range {nx mk : List Int} {k : Nat} {l : List Int} (h : RepOk nx mk k l) {s : Nat} (hs : s < nx.length) : 0 ≤ rd l s ∧ rd l s < nx.length := by
  rw [h.2 s hs]
  have := (rep_spec (E_equi nx mk k) hs).1
  omega
theorem RepOk.succ {nx mk : List Int} (hv : VW nx mk) {k : Nat} {l : List Int} (h : RepOk nx mk k l) {s t : Nat} (hs : s < nx.length) (ht : t < nx.length) : E nx mk (k + 1) s t ↔ rd mk s = rd mk t ∧ rd l s = rd l t ∧ setTo nx l s nx.length = setTo nx l t nx.length := by
 have h6 := hv.le
 rw [E_succ hv hs ht, h.eq_iff hs ht, set_eq (fun s hs => inS_mono (hv.next s hs) h6) h6 (fun t ht => by have := h.range ht; omega) hs ht]
 have c : ∀ u v, u < nx.length → v < nx.length → (rd l u = rd l v ↔ E nx mk k u v) := fun u v hu hv' => h.eq_iff hu hv'
 constructor
 ·rintro ⟨h0, h1, h2⟩
  refine ⟨(E_zero hs ht).1 (E_le hv hs ht (Nat.zero_le _) h0), h0, fun u hu hb => ?_, fun v hw hb => ?_⟩
  ·obtain ⟨v, a, b, d⟩ := h1 u hu hb
   exact ⟨v, a, b, (c u v hu a).2 d⟩
  ·obtain ⟨u, a, b, d⟩ := h2 v hw hb
   exact ⟨u, a, b, (c u v a hw).2 d⟩
 ·rintro ⟨_, h0, h1, h2⟩
  refine ⟨h0, fun u hu hb => ?_, fun v hw hb => ?_⟩
  ·obtain ⟨v, a, b, d⟩ := h1 u hu hb
   exact ⟨v, a, b, (c u v hu a).1 d⟩
  ·obtain ⟨u, a, b, d⟩ := h2 v hw hb
   exact ⟨u, a, b, (c u v a hw).1 d⟩
end Go.Proofs.Ytjffhhalmicodaa.L
end

section
namespace Go.Proofs.Ytjffhhalmicodaa.PF
open Go.RowKit Go.Proofs.G.PrintWords Go.Proofs.G.PrintLast Go.Proofs.G.PrintMore
attribute [local go_sem] max2_int min2_int max_two min_two max_three min_three max_four min_four
set_option linter.unusedVariables false
set_option linter.unusedSimpArgs false
def errW : Option Int → Value
  | none => .nilIface
  | some c => .iface 0 (.int .i64 c)
theorem errW_none : errW none = .nilIface := rfl
theorem errW_some (c : Int) : errW (some c) = .iface 0 (.int .i64 c) := rfl
end Go.Proofs.Ytjffhhalmicodaa.PF
end

section
namespace Go.Proofs.Ytjffhhalmicodaa.PF
open Go.RowKit Go.Proofs.G.PrintWords Go.Proofs.G.PrintLast Go.Proofs.G.PrintMore
attribute [local go_sem] max2_int min2_int max_two min_two max_three min_three max_four min_four
set_option linter.unusedVariables false
set_option linter.unusedSimpArgs false
def fixes_Alike.f (k : Nat) (l0_0 : List Int) (l0_1 : List Int) (a1 : Int) (a2 : Int) : Option (Bool × Int) := (X.fixes_isState.f l0_0 l0_1 (([a1, a2] : List Int))).bind fun t117 => (if t117 = true then ((X.fixes_classes.f k l0_0 l0_1).bind fun t118 => (if 0 ≤ a1 then (if a1 < (t118.length : Int) then (if 0 ≤ a2 then (if a2 < (t118.length : Int) then (some (((rd t118 a1) == (rd t118 a2)), 0)) else (none)) else (none)) else (none)) else (none))) else (some (false, 2)))
set_option maxHeartbeats 8000000 in
set_option maxRecDepth 100000 in
theorem fixes_Alike.calls (k : Nat) (A0_0 : Option Addr) (c0_0 : Nat) (l0_0 : List Int) (A0_1 : Option Addr) (c0_1 : Nat) (l0_1 : List Int) (a1 : Int) (a2 : Int) (r1 : Bool) (r2 : Int) (w : World) (hr0_0 : Kd.C (Kd.int .i64) w A0_0 l0_0.length l0_0) (hc0_0 : l0_0.length ≤ c0_0) (hr0_1 : Kd.C (Kd.int .i64) w A0_1 l0_1.length l0_1) (hc0_1 : l0_1.length ≤ c0_1) (h : fixes_Alike.f k l0_0 l0_1 a1 a2 = some (r1, r2)) :
  Calls Try.prog 38 #[.agg #[.slice A0_0 l0_0.length c0_0, .slice A0_1 l0_1.length c0_1], .int .i64 a1, .int .i64 a2] w fun e w' => e = .returned (.tuple #[.bool r1, .int .i64 r2]) ∧ Below w.heap.size w w' := by
 have hu28 := Try.underlying28
 have HR0_0 := As0.mk hr0_0
 have HC0_0 := As0.mk hc0_0
 clear hr0_0 hc0_0
 have HR0_1 := As0.mk hr0_1
 have HC0_1 := As0.mk hc0_1
 clear hr0_1 hc0_1
 have HB := As0.mk (Below.refl w.heap.size w)
 have H : ((X.fixes_isState.f l0_0 l0_1 (([a1, a2] : List Int))).bind fun t117 => (if t117 = true then ((X.fixes_classes.f k l0_0 l0_1).bind fun t118 => (if 0 ≤ a1 then (if a1 < (t118.length : Int) then (if 0 ≤ a2 then (if a2 < (t118.length : Int) then (some (((rd t118 a1) == (rd t118 a2)), 0)) else (none)) else (none)) else (none)) else (none))) else (some (false, 2)))) = some (r1, r2) := h
 clear h
 obtain ⟨y114, hy114⟩ : ∃ y_ : List Int, y_ = (([a1, a2] : List Int)) := ⟨_, rfl⟩
 replace H : ((X.fixes_isState.f l0_0 l0_1 y114).bind fun t117 => (if t117 = true then ((X.fixes_classes.f k l0_0 l0_1).bind fun t118 => (if 0 ≤ a1 then (if a1 < (t118.length : Int) then (if 0 ≤ a2 then (if a2 < (t118.length : Int) then (some (((rd t118 a1) == (rd t118 a2)), 0)) else (none)) else (none)) else (none)) else (none))) else (some (false, 2)))) = some (r1, r2) := by first | (rw [hy114]; with_reducible exact H) | (have H2_ := (Option.bind_some _ _).symm.trans H; rw [hy114]; with_reducible exact H2_) | (have H2_ := (Option.bind_some _ _).symm.trans H; with_reducible exact H2_) | with_reducible exact H | (rw [hy114]; exact H) | exact H
 have Ny114 := As0.mk hy114
 clear hy114
 replace H := Option.bind_eq_some_iff.mp H
 obtain ⟨t117, A40, H⟩ := H
 replace H : (if t117 = true then ((X.fixes_classes.f k l0_0 l0_1).bind fun t118 => (if 0 ≤ a1 then (if a1 < (t118.length : Int) then (if 0 ≤ a2 then (if a2 < (t118.length : Int) then (some (((rd t118 a1) == (rd t118 a2)), 0)) else (none)) else (none)) else (none)) else (none))) else (some (false, 2))) = some (r1, r2) := H
 have A4 := As0.mk A40
 clear A40
 by_cases c5 : t117 = true
 ·subst c5
  have H1 : ((X.fixes_classes.f k l0_0 l0_1).bind fun t118 => (if 0 ≤ a1 then (if a1 < (t118.length : Int) then (if 0 ≤ a2 then (if a2 < (t118.length : Int) then (some (((rd t118 a1) == (rd t118 a2)), 0)) else (none)) else (none)) else (none)) else (none))) = some (r1, r2) := by rw [if_pos rfl] at H; exact H
  clear H
  have H := H1
  clear H1
  replace H := Option.bind_eq_some_iff.mp H
  obtain ⟨t118, A60, H⟩ := H
  replace H : (if 0 ≤ a1 then (if a1 < (t118.length : Int) then (if 0 ≤ a2 then (if a2 < (t118.length : Int) then (some (((rd t118 a1) == (rd t118 a2)), 0)) else (none)) else (none)) else (none)) else (none)) = some (r1, r2) := H
  have A6 := As0.mk A60
  clear A60
  by_cases c7 : 0 ≤ a1
  ·rw [if_pos c7] at H
   have c7b0 : decide (0 ≤ a1) = true := decide_eq_true c7
   clear c7
   by_cases c8 : a1 < (t118.length : Int)
   ·rw [if_pos c8] at H
    have c8b0 : decide (a1 < (t118.length : Int)) = true := decide_eq_true c8
    clear c8
    by_cases c9 : 0 ≤ a2
    ·rw [if_pos c9] at H
     have c9b0 : decide (0 ≤ a2) = true := decide_eq_true c9
     clear c9
     by_cases c10 : a2 < (t118.length : Int)
     ·rw [if_pos c10] at H
      have c10b0 : decide (a2 < (t118.length : Int)) = true := decide_eq_true c10
      clear c10
      simp only [Option.some.injEq, Prod.mk.injEq] at H
      obtain ⟨rfl, rfl⟩ := H
      go_enter Try.func38, Try.ntmps38
      go_wp2_with (first | ((with_reducible refine gate_dst (N := 3) rfl ?_); refine box_event ?hg (N := 3) ?hd (cs := #[.slice A0_0 l0_0.length c0_0, .slice A0_1 l0_1.length c0_1]) (t := 28) ?hr ?_; (case hd => rfl); (case hg => rfl); (case hr => first | (go_simp; done) | (go_simp; rfl)); intro gb113 hg w11 hbox hb; have n0_ := As0.mk (bst (by repeat (first | (with_reducible first | exact HB.out | apply below_alloc | apply pwd | apply bd1) | exact HB.out)) hb); have n1_ := As0.mk (hbox); have n2_ := As0.mk ((by rw [hg]; exact (below_size (by repeat (first | (with_reducible first | exact HB.out | apply below_alloc | apply pwd | apply bd1) | exact HB.out))) : w.heap.size ≤ gb113)); have n3_ := As0.mk ((by rw [hg]; exact (below_size (by repeat (first | (with_reducible first | exact HB.out | apply below_alloc | apply pwd | apply bd1) | exact HB.out))) : w.heap.size ≤ gb113)); clear HB; have HB := n0_; have BK113 := n1_; have GW113 := n2_; have GE113 := n3_; clear n0_ n1_ n2_ n3_; clear hb hbox hg; have hcz12_0 : w11.cell? ⟨gb113, 0, none⟩ = some (.slice A0_0 l0_0.length c0_0) := (blk_cell BK113.out 0).trans rfl; have hcz12_1 : w11.cell? ⟨gb113, 1, none⟩ = some (.slice A0_1 l0_1.length c0_1) := (blk_cell BK113.out 1).trans rfl; have hfz12_0 := blk_frozen BK113.out 0; have hfz12_1 := blk_frozen BK113.out 1) | ((with_reducible refine gate_dst (N := 12) rfl ?_); refine Kd.R_lit (Kd.int .i64) _ 3 ?hg (N := 12) ?hd (xs := ([a1, a2] : List Int)) (inner := [.int .i64 a1, .int .i64 a2]) (ok := fun _ => True) (okp := fun _ => True) ?hr ?hp (fun _ hk => hk) trivial (Below.refl _ _) (Nat.le_refl _) (by simp) ?_; (case hd => rfl); (case hg => rfl); (case hr => first | (go_simp; done) | (go_simp; rfl)); (case hp => exact (Reps.one (show Kd.M (Kd.int .i64) _ _ _ a1 [.int .i64 a1] from rfl) (Reps.one (show Kd.M (Kd.int .i64) _ _ _ a2 [.int .i64 a2] from rfl) (Reps.none _ _)))); intro v115 w13 ho14 hb hg_ hnew_; clear hg_ hnew_; (first | rw [← Ny114.out] at ho14 | (simp only [Int.reduceToNat] at ho14; rw [← Ny114.out] at ho14)); have n0_ := As0.mk (Kd.R_lower ho14 (below_size (by repeat (first | (with_reducible first | exact HB.out | apply below_alloc | apply pwd | apply bd1 | refine below_set ?_ GE113.out) | exact HB.out)))); have n1_ := As0.mk (blk_below (g := gb113) (o := .cells #[.slice A0_0 l0_0.length c0_0, .slice A0_1 l0_1.length c0_1] 28 (0, 0)) (by (with_reducible repeat (first | refine blk_drewN ?_ _ | refine blk_drew ?_ | refine blk_alloc ?_ _)); exact BK113.out) hb); have n2_ := As0.mk (bst (by repeat (first | (with_reducible first | exact HB.out | apply below_alloc | apply pwd | apply bd1 | refine below_set ?_ GE113.out) | exact HB.out)) hb); clear BK113; clear HB; have HO116 := n0_; have BK113 := n1_; have HB := n2_; clear n0_ n1_ n2_; clear hb ho14; obtain ⟨Ao15, co15, eo15⟩ := Kd.R_slice HO116.out; subst eo15) | (go_at_call 64; (with_reducible refine (X.fixes_isState.calls _ _ l0_0 _ _ l0_1 _ _ y114 true _ ?side1 ?side2 ?side3 ?side4 ?side5 ?side6 A4.out).mono ?_); (case side1 => repeat (first | exact (Kd.C_below HR0_0.out HB.out) | (with_reducible refine Kd.C_alloc ?_ _) | (with_reducible refine Kd.C_drewN ?_ _) | (with_reducible refine Kd.C_drew ?_))); (case side2 => exact HC0_0.out); (case side3 => repeat (first | exact (Kd.C_below HR0_1.out HB.out) | (with_reducible refine Kd.C_alloc ?_ _) | (with_reducible refine Kd.C_drewN ?_ _) | (with_reducible refine Kd.C_drew ?_))); (case side4 => exact HC0_1.out); (case side5 => repeat (first | exact (Kd.R_reads' HO116.out).2.2 | (with_reducible refine Kd.C_alloc ?_ _) | (with_reducible refine Kd.C_drewN ?_ _) | (with_reducible refine Kd.C_drew ?_))); (case side6 => exact (Kd.R_reads' HO116.out).2.1); rintro e w16 ⟨rfl, hb⟩; have n0_ := As0.mk (Kd.R_below (by (with_reducible repeat (first | apply Kd.R_alloc | apply Kd.R_drewN | apply Kd.R_drew)); exact HO116.out) hb); have n1_ := As0.mk (blk_below (g := gb113) (o := .cells #[.slice A0_0 l0_0.length c0_0, .slice A0_1 l0_1.length c0_1] 28 (0, 0)) (by (with_reducible repeat (first | refine blk_drewN ?_ _ | refine blk_drew ?_ | refine blk_alloc ?_ _)); exact BK113.out) hb); have n2_ := As0.mk (bst (by repeat (first | (with_reducible first | exact HB.out | apply below_alloc | apply pwd | apply bd1 | refine below_set ?_ GE113.out) | exact HB.out)) hb); clear HO116; clear BK113; clear HB; have HO116 := n0_; have BK113 := n1_; have HB := n2_; clear n0_ n1_ n2_; (try clear hb); (try clear hb2); (try clear hk); (try clear hi); have hcz17_0 : w16.cell? ⟨gb113, 0, none⟩ = some (.slice A0_0 l0_0.length c0_0) := (blk_cell BK113.out 0).trans rfl; have hcz17_1 : w16.cell? ⟨gb113, 1, none⟩ = some (.slice A0_1 l0_1.length c0_1) := (blk_cell BK113.out 1).trans rfl; have hfz17_0 := blk_frozen BK113.out 0; have hfz17_1 := blk_frozen BK113.out 1) | (go_at_call 62; (with_reducible refine (X.fixes_classes.calls k _ _ l0_0 _ _ l0_1 t118 _ ?side1 ?side2 ?side3 ?side4 A6.out).mono ?_); (case side1 => repeat (first | exact (Kd.C_below HR0_0.out HB.out) | (with_reducible refine Kd.C_alloc ?_ _) | (with_reducible refine Kd.C_drewN ?_ _) | (with_reducible refine Kd.C_drew ?_))); (case side2 => exact HC0_0.out); (case side3 => repeat (first | exact (Kd.C_below HR0_1.out HB.out) | (with_reducible refine Kd.C_alloc ?_ _) | (with_reducible refine Kd.C_drewN ?_ _) | (with_reducible refine Kd.C_drew ?_))); (case side4 => exact HC0_1.out); rintro e w18 ⟨v119, rfl, ho0, hb⟩; have n0_ := As0.mk (Kd.R_elder' (by (with_reducible repeat (first | apply Kd.R_alloc | apply Kd.R_drewN | apply Kd.R_drew)); exact HO116.out) (Kd.R_base ho0) hb); have n1_ := As0.mk (Kd.R_lower (Kd.R_new' ho0 (Kd.R_lt (by (with_reducible repeat (first | apply Kd.R_alloc | apply Kd.R_drewN | apply Kd.R_drew)); exact HO116.out))) (below_size (by repeat (first | (with_reducible first | exact HB.out | apply below_alloc | apply pwd | apply bd1 | refine below_set ?_ GE113.out) | exact HB.out)))); have n2_ := As0.mk (blk_below (g := gb113) (o := .cells #[.slice A0_0 l0_0.length c0_0, .slice A0_1 l0_1.length c0_1] 28 (0, 0)) (by (with_reducible repeat (first | refine blk_drewN ?_ _ | refine blk_drew ?_ | refine blk_alloc ?_ _)); exact BK113.out) hb); have n3_ := As0.mk (bst (by repeat (first | (with_reducible first | exact HB.out | apply below_alloc | apply pwd | apply bd1 | refine below_set ?_ GE113.out) | exact HB.out)) hb); clear HO116; clear BK113; clear HB; have HO116 := n0_; have HO120 := n1_; have BK113 := n2_; have HB := n3_; clear n0_ n1_ n2_ n3_; (try clear hb); (try clear hb2); (try clear hk); (try clear hi); (try clear ho0); obtain ⟨Ao19, co19, eo19⟩ := Kd.R_slice HO120.out; subst eo19; have p121 : 0 ≤ (a1 : Int) := of_decide_eq_true (by first | (with_reducible assumption) | assumption); have q121 : a1 < (t118.length : Int) := of_decide_eq_true (by first | (with_reducible assumption) | assumption); obtain ⟨ad121, e121, hx121_0⟩ := Kd.at_int (Kd.R_reads' HO120.out).2.2 a1 p121 q121; cases e121; replace p121 := eq_true p121; replace q121 := eq_true q121; have p122 : 0 ≤ (a2 : Int) := of_decide_eq_true (by first | (with_reducible assumption) | assumption); have q122 : a2 < (t118.length : Int) := of_decide_eq_true (by first | (with_reducible assumption) | assumption); obtain ⟨ad122, e122, hx122_0⟩ := Kd.at_int (Kd.R_reads' HO120.out).2.2 a2 p122 q122; obtain rfl : ad121 = ad122 := (by injection e122); replace p122 := eq_true p122; replace q122 := eq_true q122))
      repeat (go_quiet (first | ((with_reducible refine gate_dst (N := 3) rfl ?_); refine box_event ?hg (N := 3) ?hd (cs := #[.slice A0_0 l0_0.length c0_0, .slice A0_1 l0_1.length c0_1]) (t := 28) ?hr ?_; (case hd => rfl); (case hg => rfl); (case hr => first | (go_simp; done) | (go_simp; rfl)); intro gb113 hg w11 hbox hb; have n0_ := As0.mk (bst (by repeat (first | (with_reducible first | exact HB.out | apply below_alloc | apply pwd | apply bd1) | exact HB.out)) hb); have n1_ := As0.mk (hbox); have n2_ := As0.mk ((by rw [hg]; exact (below_size (by repeat (first | (with_reducible first | exact HB.out | apply below_alloc | apply pwd | apply bd1) | exact HB.out))) : w.heap.size ≤ gb113)); have n3_ := As0.mk ((by rw [hg]; exact (below_size (by repeat (first | (with_reducible first | exact HB.out | apply below_alloc | apply pwd | apply bd1) | exact HB.out))) : w.heap.size ≤ gb113)); clear HB; have HB := n0_; have BK113 := n1_; have GW113 := n2_; have GE113 := n3_; clear n0_ n1_ n2_ n3_; clear hb hbox hg; have hcz12_0 : w11.cell? ⟨gb113, 0, none⟩ = some (.slice A0_0 l0_0.length c0_0) := (blk_cell BK113.out 0).trans rfl; have hcz12_1 : w11.cell? ⟨gb113, 1, none⟩ = some (.slice A0_1 l0_1.length c0_1) := (blk_cell BK113.out 1).trans rfl; have hfz12_0 := blk_frozen BK113.out 0; have hfz12_1 := blk_frozen BK113.out 1) | ((with_reducible refine gate_dst (N := 12) rfl ?_); refine Kd.R_lit (Kd.int .i64) _ 3 ?hg (N := 12) ?hd (xs := ([a1, a2] : List Int)) (inner := [.int .i64 a1, .int .i64 a2]) (ok := fun _ => True) (okp := fun _ => True) ?hr ?hp (fun _ hk => hk) trivial (Below.refl _ _) (Nat.le_refl _) (by simp) ?_; (case hd => rfl); (case hg => rfl); (case hr => first | (go_simp; done) | (go_simp; rfl)); (case hp => exact (Reps.one (show Kd.M (Kd.int .i64) _ _ _ a1 [.int .i64 a1] from rfl) (Reps.one (show Kd.M (Kd.int .i64) _ _ _ a2 [.int .i64 a2] from rfl) (Reps.none _ _)))); intro v115 w13 ho14 hb hg_ hnew_; clear hg_ hnew_; (first | rw [← Ny114.out] at ho14 | (simp only [Int.reduceToNat] at ho14; rw [← Ny114.out] at ho14)); have n0_ := As0.mk (Kd.R_lower ho14 (below_size (by repeat (first | (with_reducible first | exact HB.out | apply below_alloc | apply pwd | apply bd1 | refine below_set ?_ GE113.out) | exact HB.out)))); have n1_ := As0.mk (blk_below (g := gb113) (o := .cells #[.slice A0_0 l0_0.length c0_0, .slice A0_1 l0_1.length c0_1] 28 (0, 0)) (by (with_reducible repeat (first | refine blk_drewN ?_ _ | refine blk_drew ?_ | refine blk_alloc ?_ _)); exact BK113.out) hb); have n2_ := As0.mk (bst (by repeat (first | (with_reducible first | exact HB.out | apply below_alloc | apply pwd | apply bd1 | refine below_set ?_ GE113.out) | exact HB.out)) hb); clear BK113; clear HB; have HO116 := n0_; have BK113 := n1_; have HB := n2_; clear n0_ n1_ n2_; clear hb ho14; obtain ⟨Ao15, co15, eo15⟩ := Kd.R_slice HO116.out; subst eo15) | (go_at_call 64; (with_reducible refine (X.fixes_isState.calls _ _ l0_0 _ _ l0_1 _ _ y114 true _ ?side1 ?side2 ?side3 ?side4 ?side5 ?side6 A4.out).mono ?_); (case side1 => repeat (first | exact (Kd.C_below HR0_0.out HB.out) | (with_reducible refine Kd.C_alloc ?_ _) | (with_reducible refine Kd.C_drewN ?_ _) | (with_reducible refine Kd.C_drew ?_))); (case side2 => exact HC0_0.out); (case side3 => repeat (first | exact (Kd.C_below HR0_1.out HB.out) | (with_reducible refine Kd.C_alloc ?_ _) | (with_reducible refine Kd.C_drewN ?_ _) | (with_reducible refine Kd.C_drew ?_))); (case side4 => exact HC0_1.out); (case side5 => repeat (first | exact (Kd.R_reads' HO116.out).2.2 | (with_reducible refine Kd.C_alloc ?_ _) | (with_reducible refine Kd.C_drewN ?_ _) | (with_reducible refine Kd.C_drew ?_))); (case side6 => exact (Kd.R_reads' HO116.out).2.1); rintro e w16 ⟨rfl, hb⟩; have n0_ := As0.mk (Kd.R_below (by (with_reducible repeat (first | apply Kd.R_alloc | apply Kd.R_drewN | apply Kd.R_drew)); exact HO116.out) hb); have n1_ := As0.mk (blk_below (g := gb113) (o := .cells #[.slice A0_0 l0_0.length c0_0, .slice A0_1 l0_1.length c0_1] 28 (0, 0)) (by (with_reducible repeat (first | refine blk_drewN ?_ _ | refine blk_drew ?_ | refine blk_alloc ?_ _)); exact BK113.out) hb); have n2_ := As0.mk (bst (by repeat (first | (with_reducible first | exact HB.out | apply below_alloc | apply pwd | apply bd1 | refine below_set ?_ GE113.out) | exact HB.out)) hb); clear HO116; clear BK113; clear HB; have HO116 := n0_; have BK113 := n1_; have HB := n2_; clear n0_ n1_ n2_; (try clear hb); (try clear hb2); (try clear hk); (try clear hi); have hcz17_0 : w16.cell? ⟨gb113, 0, none⟩ = some (.slice A0_0 l0_0.length c0_0) := (blk_cell BK113.out 0).trans rfl; have hcz17_1 : w16.cell? ⟨gb113, 1, none⟩ = some (.slice A0_1 l0_1.length c0_1) := (blk_cell BK113.out 1).trans rfl; have hfz17_0 := blk_frozen BK113.out 0; have hfz17_1 := blk_frozen BK113.out 1) | (go_at_call 62; (with_reducible refine (X.fixes_classes.calls k _ _ l0_0 _ _ l0_1 t118 _ ?side1 ?side2 ?side3 ?side4 A6.out).mono ?_); (case side1 => repeat (first | exact (Kd.C_below HR0_0.out HB.out) | (with_reducible refine Kd.C_alloc ?_ _) | (with_reducible refine Kd.C_drewN ?_ _) | (with_reducible refine Kd.C_drew ?_))); (case side2 => exact HC0_0.out); (case side3 => repeat (first | exact (Kd.C_below HR0_1.out HB.out) | (with_reducible refine Kd.C_alloc ?_ _) | (with_reducible refine Kd.C_drewN ?_ _) | (with_reducible refine Kd.C_drew ?_))); (case side4 => exact HC0_1.out); rintro e w18 ⟨v119, rfl, ho0, hb⟩; have n0_ := As0.mk (Kd.R_elder' (by (with_reducible repeat (first | apply Kd.R_alloc | apply Kd.R_drewN | apply Kd.R_drew)); exact HO116.out) (Kd.R_base ho0) hb); have n1_ := As0.mk (Kd.R_lower (Kd.R_new' ho0 (Kd.R_lt (by (with_reducible repeat (first | apply Kd.R_alloc | apply Kd.R_drewN | apply Kd.R_drew)); exact HO116.out))) (below_size (by repeat (first | (with_reducible first | exact HB.out | apply below_alloc | apply pwd | apply bd1 | refine below_set ?_ GE113.out) | exact HB.out)))); have n2_ := As0.mk (blk_below (g := gb113) (o := .cells #[.slice A0_0 l0_0.length c0_0, .slice A0_1 l0_1.length c0_1] 28 (0, 0)) (by (with_reducible repeat (first | refine blk_drewN ?_ _ | refine blk_drew ?_ | refine blk_alloc ?_ _)); exact BK113.out) hb); have n3_ := As0.mk (bst (by repeat (first | (with_reducible first | exact HB.out | apply below_alloc | apply pwd | apply bd1 | refine below_set ?_ GE113.out) | exact HB.out)) hb); clear HO116; clear BK113; clear HB; have HO116 := n0_; have HO120 := n1_; have BK113 := n2_; have HB := n3_; clear n0_ n1_ n2_ n3_; (try clear hb); (try clear hb2); (try clear hk); (try clear hi); (try clear ho0); obtain ⟨Ao19, co19, eo19⟩ := Kd.R_slice HO120.out; subst eo19; have p121 : 0 ≤ (a1 : Int) := of_decide_eq_true (by first | (with_reducible assumption) | assumption); have q121 : a1 < (t118.length : Int) := of_decide_eq_true (by first | (with_reducible assumption) | assumption); obtain ⟨ad121, e121, hx121_0⟩ := Kd.at_int (Kd.R_reads' HO120.out).2.2 a1 p121 q121; cases e121; replace p121 := eq_true p121; replace q121 := eq_true q121; have p122 : 0 ≤ (a2 : Int) := of_decide_eq_true (by first | (with_reducible assumption) | assumption); have q122 : a2 < (t118.length : Int) := of_decide_eq_true (by first | (with_reducible assumption) | assumption); obtain ⟨ad122, e122, hx122_0⟩ := Kd.at_int (Kd.R_reads' HO120.out).2.2 a2 p122 q122; obtain rfl : ad121 = ad122 := (by injection e122); replace p122 := eq_true p122; replace q122 := eq_true q122)); try go_wp2_with (first | ((with_reducible refine gate_dst (N := 3) rfl ?_); refine box_event ?hg (N := 3) ?hd (cs := #[.slice A0_0 l0_0.length c0_0, .slice A0_1 l0_1.length c0_1]) (t := 28) ?hr ?_; (case hd => rfl); (case hg => rfl); (case hr => first | (go_simp; done) | (go_simp; rfl)); intro gb113 hg w11 hbox hb; have n0_ := As0.mk (bst (by repeat (first | (with_reducible first | exact HB.out | apply below_alloc | apply pwd | apply bd1) | exact HB.out)) hb); have n1_ := As0.mk (hbox); have n2_ := As0.mk ((by rw [hg]; exact (below_size (by repeat (first | (with_reducible first | exact HB.out | apply below_alloc | apply pwd | apply bd1) | exact HB.out))) : w.heap.size ≤ gb113)); have n3_ := As0.mk ((by rw [hg]; exact (below_size (by repeat (first | (with_reducible first | exact HB.out | apply below_alloc | apply pwd | apply bd1) | exact HB.out))) : w.heap.size ≤ gb113)); clear HB; have HB := n0_; have BK113 := n1_; have GW113 := n2_; have GE113 := n3_; clear n0_ n1_ n2_ n3_; clear hb hbox hg; have hcz12_0 : w11.cell? ⟨gb113, 0, none⟩ = some (.slice A0_0 l0_0.length c0_0) := (blk_cell BK113.out 0).trans rfl; have hcz12_1 : w11.cell? ⟨gb113, 1, none⟩ = some (.slice A0_1 l0_1.length c0_1) := (blk_cell BK113.out 1).trans rfl; have hfz12_0 := blk_frozen BK113.out 0; have hfz12_1 := blk_frozen BK113.out 1) | ((with_reducible refine gate_dst (N := 12) rfl ?_); refine Kd.R_lit (Kd.int .i64) _ 3 ?hg (N := 12) ?hd (xs := ([a1, a2] : List Int)) (inner := [.int .i64 a1, .int .i64 a2]) (ok := fun _ => True) (okp := fun _ => True) ?hr ?hp (fun _ hk => hk) trivial (Below.refl _ _) (Nat.le_refl _) (by simp) ?_; (case hd => rfl); (case hg => rfl); (case hr => first | (go_simp; done) | (go_simp; rfl)); (case hp => exact (Reps.one (show Kd.M (Kd.int .i64) _ _ _ a1 [.int .i64 a1] from rfl) (Reps.one (show Kd.M (Kd.int .i64) _ _ _ a2 [.int .i64 a2] from rfl) (Reps.none _ _)))); intro v115 w13 ho14 hb hg_ hnew_; clear hg_ hnew_; (first | rw [← Ny114.out] at ho14 | (simp only [Int.reduceToNat] at ho14; rw [← Ny114.out] at ho14)); have n0_ := As0.mk (Kd.R_lower ho14 (below_size (by repeat (first | (with_reducible first | exact HB.out | apply below_alloc | apply pwd | apply bd1 | refine below_set ?_ GE113.out) | exact HB.out)))); have n1_ := As0.mk (blk_below (g := gb113) (o := .cells #[.slice A0_0 l0_0.length c0_0, .slice A0_1 l0_1.length c0_1] 28 (0, 0)) (by (with_reducible repeat (first | refine blk_drewN ?_ _ | refine blk_drew ?_ | refine blk_alloc ?_ _)); exact BK113.out) hb); have n2_ := As0.mk (bst (by repeat (first | (with_reducible first | exact HB.out | apply below_alloc | apply pwd | apply bd1 | refine below_set ?_ GE113.out) | exact HB.out)) hb); clear BK113; clear HB; have HO116 := n0_; have BK113 := n1_; have HB := n2_; clear n0_ n1_ n2_; clear hb ho14; obtain ⟨Ao15, co15, eo15⟩ := Kd.R_slice HO116.out; subst eo15) | (go_at_call 64; (with_reducible refine (X.fixes_isState.calls _ _ l0_0 _ _ l0_1 _ _ y114 true _ ?side1 ?side2 ?side3 ?side4 ?side5 ?side6 A4.out).mono ?_); (case side1 => repeat (first | exact (Kd.C_below HR0_0.out HB.out) | (with_reducible refine Kd.C_alloc ?_ _) | (with_reducible refine Kd.C_drewN ?_ _) | (with_reducible refine Kd.C_drew ?_))); (case side2 => exact HC0_0.out); (case side3 => repeat (first | exact (Kd.C_below HR0_1.out HB.out) | (with_reducible refine Kd.C_alloc ?_ _) | (with_reducible refine Kd.C_drewN ?_ _) | (with_reducible refine Kd.C_drew ?_))); (case side4 => exact HC0_1.out); (case side5 => repeat (first | exact (Kd.R_reads' HO116.out).2.2 | (with_reducible refine Kd.C_alloc ?_ _) | (with_reducible refine Kd.C_drewN ?_ _) | (with_reducible refine Kd.C_drew ?_))); (case side6 => exact (Kd.R_reads' HO116.out).2.1); rintro e w16 ⟨rfl, hb⟩; have n0_ := As0.mk (Kd.R_below (by (with_reducible repeat (first | apply Kd.R_alloc | apply Kd.R_drewN | apply Kd.R_drew)); exact HO116.out) hb); have n1_ := As0.mk (blk_below (g := gb113) (o := .cells #[.slice A0_0 l0_0.length c0_0, .slice A0_1 l0_1.length c0_1] 28 (0, 0)) (by (with_reducible repeat (first | refine blk_drewN ?_ _ | refine blk_drew ?_ | refine blk_alloc ?_ _)); exact BK113.out) hb); have n2_ := As0.mk (bst (by repeat (first | (with_reducible first | exact HB.out | apply below_alloc | apply pwd | apply bd1 | refine below_set ?_ GE113.out) | exact HB.out)) hb); clear HO116; clear BK113; clear HB; have HO116 := n0_; have BK113 := n1_; have HB := n2_; clear n0_ n1_ n2_; (try clear hb); (try clear hb2); (try clear hk); (try clear hi); have hcz17_0 : w16.cell? ⟨gb113, 0, none⟩ = some (.slice A0_0 l0_0.length c0_0) := (blk_cell BK113.out 0).trans rfl; have hcz17_1 : w16.cell? ⟨gb113, 1, none⟩ = some (.slice A0_1 l0_1.length c0_1) := (blk_cell BK113.out 1).trans rfl; have hfz17_0 := blk_frozen BK113.out 0; have hfz17_1 := blk_frozen BK113.out 1) | (go_at_call 62; (with_reducible refine (X.fixes_classes.calls k _ _ l0_0 _ _ l0_1 t118 _ ?side1 ?side2 ?side3 ?side4 A6.out).mono ?_); (case side1 => repeat (first | exact (Kd.C_below HR0_0.out HB.out) | (with_reducible refine Kd.C_alloc ?_ _) | (with_reducible refine Kd.C_drewN ?_ _) | (with_reducible refine Kd.C_drew ?_))); (case side2 => exact HC0_0.out); (case side3 => repeat (first | exact (Kd.C_below HR0_1.out HB.out) | (with_reducible refine Kd.C_alloc ?_ _) | (with_reducible refine Kd.C_drewN ?_ _) | (with_reducible refine Kd.C_drew ?_))); (case side4 => exact HC0_1.out); rintro e w18 ⟨v119, rfl, ho0, hb⟩; have n0_ := As0.mk (Kd.R_elder' (by (with_reducible repeat (first | apply Kd.R_alloc | apply Kd.R_drewN | apply Kd.R_drew)); exact HO116.out) (Kd.R_base ho0) hb); have n1_ := As0.mk (Kd.R_lower (Kd.R_new' ho0 (Kd.R_lt (by (with_reducible repeat (first | apply Kd.R_alloc | apply Kd.R_drewN | apply Kd.R_drew)); exact HO116.out))) (below_size (by repeat (first | (with_reducible first | exact HB.out | apply below_alloc | apply pwd | apply bd1 | refine below_set ?_ GE113.out) | exact HB.out)))); have n2_ := As0.mk (blk_below (g := gb113) (o := .cells #[.slice A0_0 l0_0.length c0_0, .slice A0_1 l0_1.length c0_1] 28 (0, 0)) (by (with_reducible repeat (first | refine blk_drewN ?_ _ | refine blk_drew ?_ | refine blk_alloc ?_ _)); exact BK113.out) hb); have n3_ := As0.mk (bst (by repeat (first | (with_reducible first | exact HB.out | apply below_alloc | apply pwd | apply bd1 | refine below_set ?_ GE113.out) | exact HB.out)) hb); clear HO116; clear BK113; clear HB; have HO116 := n0_; have HO120 := n1_; have BK113 := n2_; have HB := n3_; clear n0_ n1_ n2_ n3_; (try clear hb); (try clear hb2); (try clear hk); (try clear hi); (try clear ho0); obtain ⟨Ao19, co19, eo19⟩ := Kd.R_slice HO120.out; subst eo19; have p121 : 0 ≤ (a1 : Int) := of_decide_eq_true (by first | (with_reducible assumption) | assumption); have q121 : a1 < (t118.length : Int) := of_decide_eq_true (by first | (with_reducible assumption) | assumption); obtain ⟨ad121, e121, hx121_0⟩ := Kd.at_int (Kd.R_reads' HO120.out).2.2 a1 p121 q121; cases e121; replace p121 := eq_true p121; replace q121 := eq_true q121; have p122 : 0 ≤ (a2 : Int) := of_decide_eq_true (by first | (with_reducible assumption) | assumption); have q122 : a2 < (t118.length : Int) := of_decide_eq_true (by first | (with_reducible assumption) | assumption); obtain ⟨ad122, e122, hx122_0⟩ := Kd.at_int (Kd.R_reads' HO120.out).2.2 a2 p122 q122; obtain rfl : ad121 = ad122 := (by injection e122); replace p122 := eq_true p122; replace q122 := eq_true q122)))
      go_ret2
      exact ⟨by first | rfl | (simp [errW_none, errW_some] <;> rfl) | (simp [*, errW_none, errW_some] <;> rfl), by repeat (first | (with_reducible first | exact HB.out | apply below_alloc | apply pwd | apply bd1 | refine below_set ?_ GE113.out) | exact HB.out)⟩
     ·rw [if_neg c10] at H
      exact absurd H (by simp)
    ·rw [if_neg c9] at H
     exact absurd H (by simp)
   ·rw [if_neg c8] at H
    exact absurd H (by simp)
  ·rw [if_neg c7] at H
   exact absurd H (by simp)
 ·replace c5 := Bool.eq_false_iff.mpr c5
  subst c5
  have H1 : (some (false, 2)) = some (r1, r2) := by rw [if_neg (show ¬ (false = true) by decide)] at H; exact H
  clear H
  have H := H1
  clear H1
  simp only [Option.some.injEq, Prod.mk.injEq] at H
  obtain ⟨rfl, rfl⟩ := H
  go_enter Try.func38, Try.ntmps38
  go_wp2_with (first | ((with_reducible refine gate_dst (N := 3) rfl ?_); refine box_event ?hg (N := 3) ?hd (cs := #[.slice A0_0 l0_0.length c0_0, .slice A0_1 l0_1.length c0_1]) (t := 28) ?hr ?_; (case hd => rfl); (case hg => rfl); (case hr => first | (go_simp; done) | (go_simp; rfl)); intro gb113 hg w20 hbox hb; have n0_ := As0.mk (bst (by repeat (first | (with_reducible first | exact HB.out | apply below_alloc | apply pwd | apply bd1) | exact HB.out)) hb); have n1_ := As0.mk (hbox); have n2_ := As0.mk ((by rw [hg]; exact (below_size (by repeat (first | (with_reducible first | exact HB.out | apply below_alloc | apply pwd | apply bd1) | exact HB.out))) : w.heap.size ≤ gb113)); have n3_ := As0.mk ((by rw [hg]; exact (below_size (by repeat (first | (with_reducible first | exact HB.out | apply below_alloc | apply pwd | apply bd1) | exact HB.out))) : w.heap.size ≤ gb113)); clear HB; have HB := n0_; have BK113 := n1_; have GW113 := n2_; have GE113 := n3_; clear n0_ n1_ n2_ n3_; clear hb hbox hg; have hcz21_0 : w20.cell? ⟨gb113, 0, none⟩ = some (.slice A0_0 l0_0.length c0_0) := (blk_cell BK113.out 0).trans rfl; have hcz21_1 : w20.cell? ⟨gb113, 1, none⟩ = some (.slice A0_1 l0_1.length c0_1) := (blk_cell BK113.out 1).trans rfl; have hfz21_0 := blk_frozen BK113.out 0; have hfz21_1 := blk_frozen BK113.out 1) | ((with_reducible refine gate_dst (N := 12) rfl ?_); refine Kd.R_lit (Kd.int .i64) _ 3 ?hg (N := 12) ?hd (xs := ([a1, a2] : List Int)) (inner := [.int .i64 a1, .int .i64 a2]) (ok := fun _ => True) (okp := fun _ => True) ?hr ?hp (fun _ hk => hk) trivial (Below.refl _ _) (Nat.le_refl _) (by simp) ?_; (case hd => rfl); (case hg => rfl); (case hr => first | (go_simp; done) | (go_simp; rfl)); (case hp => exact (Reps.one (show Kd.M (Kd.int .i64) _ _ _ a1 [.int .i64 a1] from rfl) (Reps.one (show Kd.M (Kd.int .i64) _ _ _ a2 [.int .i64 a2] from rfl) (Reps.none _ _)))); intro v115 w22 ho23 hb hg_ hnew_; clear hg_ hnew_; (first | rw [← Ny114.out] at ho23 | (simp only [Int.reduceToNat] at ho23; rw [← Ny114.out] at ho23)); have n0_ := As0.mk (Kd.R_lower ho23 (below_size (by repeat (first | (with_reducible first | exact HB.out | apply below_alloc | apply pwd | apply bd1 | refine below_set ?_ GE113.out) | exact HB.out)))); have n1_ := As0.mk (blk_below (g := gb113) (o := .cells #[.slice A0_0 l0_0.length c0_0, .slice A0_1 l0_1.length c0_1] 28 (0, 0)) (by (with_reducible repeat (first | refine blk_drewN ?_ _ | refine blk_drew ?_ | refine blk_alloc ?_ _)); exact BK113.out) hb); have n2_ := As0.mk (bst (by repeat (first | (with_reducible first | exact HB.out | apply below_alloc | apply pwd | apply bd1 | refine below_set ?_ GE113.out) | exact HB.out)) hb); clear BK113; clear HB; have HO116 := n0_; have BK113 := n1_; have HB := n2_; clear n0_ n1_ n2_; clear hb ho23; obtain ⟨Ao24, co24, eo24⟩ := Kd.R_slice HO116.out; subst eo24) | (go_at_call 64; (with_reducible refine (X.fixes_isState.calls _ _ l0_0 _ _ l0_1 _ _ y114 false _ ?side1 ?side2 ?side3 ?side4 ?side5 ?side6 A4.out).mono ?_); (case side1 => repeat (first | exact (Kd.C_below HR0_0.out HB.out) | (with_reducible refine Kd.C_alloc ?_ _) | (with_reducible refine Kd.C_drewN ?_ _) | (with_reducible refine Kd.C_drew ?_))); (case side2 => exact HC0_0.out); (case side3 => repeat (first | exact (Kd.C_below HR0_1.out HB.out) | (with_reducible refine Kd.C_alloc ?_ _) | (with_reducible refine Kd.C_drewN ?_ _) | (with_reducible refine Kd.C_drew ?_))); (case side4 => exact HC0_1.out); (case side5 => repeat (first | exact (Kd.R_reads' HO116.out).2.2 | (with_reducible refine Kd.C_alloc ?_ _) | (with_reducible refine Kd.C_drewN ?_ _) | (with_reducible refine Kd.C_drew ?_))); (case side6 => exact (Kd.R_reads' HO116.out).2.1); rintro e w25 ⟨rfl, hb⟩; have n0_ := As0.mk (Kd.R_below (by (with_reducible repeat (first | apply Kd.R_alloc | apply Kd.R_drewN | apply Kd.R_drew)); exact HO116.out) hb); have n1_ := As0.mk (blk_below (g := gb113) (o := .cells #[.slice A0_0 l0_0.length c0_0, .slice A0_1 l0_1.length c0_1] 28 (0, 0)) (by (with_reducible repeat (first | refine blk_drewN ?_ _ | refine blk_drew ?_ | refine blk_alloc ?_ _)); exact BK113.out) hb); have n2_ := As0.mk (bst (by repeat (first | (with_reducible first | exact HB.out | apply below_alloc | apply pwd | apply bd1 | refine below_set ?_ GE113.out) | exact HB.out)) hb); clear HO116; clear BK113; clear HB; have HO116 := n0_; have BK113 := n1_; have HB := n2_; clear n0_ n1_ n2_; (try clear hb); (try clear hb2); (try clear hk); (try clear hi)))
  repeat (go_quiet (first | ((with_reducible refine gate_dst (N := 3) rfl ?_); refine box_event ?hg (N := 3) ?hd (cs := #[.slice A0_0 l0_0.length c0_0, .slice A0_1 l0_1.length c0_1]) (t := 28) ?hr ?_; (case hd => rfl); (case hg => rfl); (case hr => first | (go_simp; done) | (go_simp; rfl)); intro gb113 hg w20 hbox hb; have n0_ := As0.mk (bst (by repeat (first | (with_reducible first | exact HB.out | apply below_alloc | apply pwd | apply bd1) | exact HB.out)) hb); have n1_ := As0.mk (hbox); have n2_ := As0.mk ((by rw [hg]; exact (below_size (by repeat (first | (with_reducible first | exact HB.out | apply below_alloc | apply pwd | apply bd1) | exact HB.out))) : w.heap.size ≤ gb113)); have n3_ := As0.mk ((by rw [hg]; exact (below_size (by repeat (first | (with_reducible first | exact HB.out | apply below_alloc | apply pwd | apply bd1) | exact HB.out))) : w.heap.size ≤ gb113)); clear HB; have HB := n0_; have BK113 := n1_; have GW113 := n2_; have GE113 := n3_; clear n0_ n1_ n2_ n3_; clear hb hbox hg; have hcz21_0 : w20.cell? ⟨gb113, 0, none⟩ = some (.slice A0_0 l0_0.length c0_0) := (blk_cell BK113.out 0).trans rfl; have hcz21_1 : w20.cell? ⟨gb113, 1, none⟩ = some (.slice A0_1 l0_1.length c0_1) := (blk_cell BK113.out 1).trans rfl; have hfz21_0 := blk_frozen BK113.out 0; have hfz21_1 := blk_frozen BK113.out 1) | ((with_reducible refine gate_dst (N := 12) rfl ?_); refine Kd.R_lit (Kd.int .i64) _ 3 ?hg (N := 12) ?hd (xs := ([a1, a2] : List Int)) (inner := [.int .i64 a1, .int .i64 a2]) (ok := fun _ => True) (okp := fun _ => True) ?hr ?hp (fun _ hk => hk) trivial (Below.refl _ _) (Nat.le_refl _) (by simp) ?_; (case hd => rfl); (case hg => rfl); (case hr => first | (go_simp; done) | (go_simp; rfl)); (case hp => exact (Reps.one (show Kd.M (Kd.int .i64) _ _ _ a1 [.int .i64 a1] from rfl) (Reps.one (show Kd.M (Kd.int .i64) _ _ _ a2 [.int .i64 a2] from rfl) (Reps.none _ _)))); intro v115 w22 ho23 hb hg_ hnew_; clear hg_ hnew_; (first | rw [← Ny114.out] at ho23 | (simp only [Int.reduceToNat] at ho23; rw [← Ny114.out] at ho23)); have n0_ := As0.mk (Kd.R_lower ho23 (below_size (by repeat (first | (with_reducible first | exact HB.out | apply below_alloc | apply pwd | apply bd1 | refine below_set ?_ GE113.out) | exact HB.out)))); have n1_ := As0.mk (blk_below (g := gb113) (o := .cells #[.slice A0_0 l0_0.length c0_0, .slice A0_1 l0_1.length c0_1] 28 (0, 0)) (by (with_reducible repeat (first | refine blk_drewN ?_ _ | refine blk_drew ?_ | refine blk_alloc ?_ _)); exact BK113.out) hb); have n2_ := As0.mk (bst (by repeat (first | (with_reducible first | exact HB.out | apply below_alloc | apply pwd | apply bd1 | refine below_set ?_ GE113.out) | exact HB.out)) hb); clear BK113; clear HB; have HO116 := n0_; have BK113 := n1_; have HB := n2_; clear n0_ n1_ n2_; clear hb ho23; obtain ⟨Ao24, co24, eo24⟩ := Kd.R_slice HO116.out; subst eo24) | (go_at_call 64; (with_reducible refine (X.fixes_isState.calls _ _ l0_0 _ _ l0_1 _ _ y114 false _ ?side1 ?side2 ?side3 ?side4 ?side5 ?side6 A4.out).mono ?_); (case side1 => repeat (first | exact (Kd.C_below HR0_0.out HB.out) | (with_reducible refine Kd.C_alloc ?_ _) | (with_reducible refine Kd.C_drewN ?_ _) | (with_reducible refine Kd.C_drew ?_))); (case side2 => exact HC0_0.out); (case side3 => repeat (first | exact (Kd.C_below HR0_1.out HB.out) | (with_reducible refine Kd.C_alloc ?_ _) | (with_reducible refine Kd.C_drewN ?_ _) | (with_reducible refine Kd.C_drew ?_))); (case side4 => exact HC0_1.out); (case side5 => repeat (first | exact (Kd.R_reads' HO116.out).2.2 | (with_reducible refine Kd.C_alloc ?_ _) | (with_reducible refine Kd.C_drewN ?_ _) | (with_reducible refine Kd.C_drew ?_))); (case side6 => exact (Kd.R_reads' HO116.out).2.1); rintro e w25 ⟨rfl, hb⟩; have n0_ := As0.mk (Kd.R_below (by (with_reducible repeat (first | apply Kd.R_alloc | apply Kd.R_drewN | apply Kd.R_drew)); exact HO116.out) hb); have n1_ := As0.mk (blk_below (g := gb113) (o := .cells #[.slice A0_0 l0_0.length c0_0, .slice A0_1 l0_1.length c0_1] 28 (0, 0)) (by (with_reducible repeat (first | refine blk_drewN ?_ _ | refine blk_drew ?_ | refine blk_alloc ?_ _)); exact BK113.out) hb); have n2_ := As0.mk (bst (by repeat (first | (with_reducible first | exact HB.out | apply below_alloc | apply pwd | apply bd1 | refine below_set ?_ GE113.out) | exact HB.out)) hb); clear HO116; clear BK113; clear HB; have HO116 := n0_; have BK113 := n1_; have HB := n2_; clear n0_ n1_ n2_; (try clear hb); (try clear hb2); (try clear hk); (try clear hi))); try go_wp2_with (first | ((with_reducible refine gate_dst (N := 3) rfl ?_); refine box_event ?hg (N := 3) ?hd (cs := #[.slice A0_0 l0_0.length c0_0, .slice A0_1 l0_1.length c0_1]) (t := 28) ?hr ?_; (case hd => rfl); (case hg => rfl); (case hr => first | (go_simp; done) | (go_simp; rfl)); intro gb113 hg w20 hbox hb; have n0_ := As0.mk (bst (by repeat (first | (with_reducible first | exact HB.out | apply below_alloc | apply pwd | apply bd1) | exact HB.out)) hb); have n1_ := As0.mk (hbox); have n2_ := As0.mk ((by rw [hg]; exact (below_size (by repeat (first | (with_reducible first | exact HB.out | apply below_alloc | apply pwd | apply bd1) | exact HB.out))) : w.heap.size ≤ gb113)); have n3_ := As0.mk ((by rw [hg]; exact (below_size (by repeat (first | (with_reducible first | exact HB.out | apply below_alloc | apply pwd | apply bd1) | exact HB.out))) : w.heap.size ≤ gb113)); clear HB; have HB := n0_; have BK113 := n1_; have GW113 := n2_; have GE113 := n3_; clear n0_ n1_ n2_ n3_; clear hb hbox hg; have hcz21_0 : w20.cell? ⟨gb113, 0, none⟩ = some (.slice A0_0 l0_0.length c0_0) := (blk_cell BK113.out 0).trans rfl; have hcz21_1 : w20.cell? ⟨gb113, 1, none⟩ = some (.slice A0_1 l0_1.length c0_1) := (blk_cell BK113.out 1).trans rfl; have hfz21_0 := blk_frozen BK113.out 0; have hfz21_1 := blk_frozen BK113.out 1) | ((with_reducible refine gate_dst (N := 12) rfl ?_); refine Kd.R_lit (Kd.int .i64) _ 3 ?hg (N := 12) ?hd (xs := ([a1, a2] : List Int)) (inner := [.int .i64 a1, .int .i64 a2]) (ok := fun _ => True) (okp := fun _ => True) ?hr ?hp (fun _ hk => hk) trivial (Below.refl _ _) (Nat.le_refl _) (by simp) ?_; (case hd => rfl); (case hg => rfl); (case hr => first | (go_simp; done) | (go_simp; rfl)); (case hp => exact (Reps.one (show Kd.M (Kd.int .i64) _ _ _ a1 [.int .i64 a1] from rfl) (Reps.one (show Kd.M (Kd.int .i64) _ _ _ a2 [.int .i64 a2] from rfl) (Reps.none _ _)))); intro v115 w22 ho23 hb hg_ hnew_; clear hg_ hnew_; (first | rw [← Ny114.out] at ho23 | (simp only [Int.reduceToNat] at ho23; rw [← Ny114.out] at ho23)); have n0_ := As0.mk (Kd.R_lower ho23 (below_size (by repeat (first | (with_reducible first | exact HB.out | apply below_alloc | apply pwd | apply bd1 | refine below_set ?_ GE113.out) | exact HB.out)))); have n1_ := As0.mk (blk_below (g := gb113) (o := .cells #[.slice A0_0 l0_0.length c0_0, .slice A0_1 l0_1.length c0_1] 28 (0, 0)) (by (with_reducible repeat (first | refine blk_drewN ?_ _ | refine blk_drew ?_ | refine blk_alloc ?_ _)); exact BK113.out) hb); have n2_ := As0.mk (bst (by repeat (first | (with_reducible first | exact HB.out | apply below_alloc | apply pwd | apply bd1 | refine below_set ?_ GE113.out) | exact HB.out)) hb); clear BK113; clear HB; have HO116 := n0_; have BK113 := n1_; have HB := n2_; clear n0_ n1_ n2_; clear hb ho23; obtain ⟨Ao24, co24, eo24⟩ := Kd.R_slice HO116.out; subst eo24) | (go_at_call 64; (with_reducible refine (X.fixes_isState.calls _ _ l0_0 _ _ l0_1 _ _ y114 false _ ?side1 ?side2 ?side3 ?side4 ?side5 ?side6 A4.out).mono ?_); (case side1 => repeat (first | exact (Kd.C_below HR0_0.out HB.out) | (with_reducible refine Kd.C_alloc ?_ _) | (with_reducible refine Kd.C_drewN ?_ _) | (with_reducible refine Kd.C_drew ?_))); (case side2 => exact HC0_0.out); (case side3 => repeat (first | exact (Kd.C_below HR0_1.out HB.out) | (with_reducible refine Kd.C_alloc ?_ _) | (with_reducible refine Kd.C_drewN ?_ _) | (with_reducible refine Kd.C_drew ?_))); (case side4 => exact HC0_1.out); (case side5 => repeat (first | exact (Kd.R_reads' HO116.out).2.2 | (with_reducible refine Kd.C_alloc ?_ _) | (with_reducible refine Kd.C_drewN ?_ _) | (with_reducible refine Kd.C_drew ?_))); (case side6 => exact (Kd.R_reads' HO116.out).2.1); rintro e w25 ⟨rfl, hb⟩; have n0_ := As0.mk (Kd.R_below (by (with_reducible repeat (first | apply Kd.R_alloc | apply Kd.R_drewN | apply Kd.R_drew)); exact HO116.out) hb); have n1_ := As0.mk (blk_below (g := gb113) (o := .cells #[.slice A0_0 l0_0.length c0_0, .slice A0_1 l0_1.length c0_1] 28 (0, 0)) (by (with_reducible repeat (first | refine blk_drewN ?_ _ | refine blk_drew ?_ | refine blk_alloc ?_ _)); exact BK113.out) hb); have n2_ := As0.mk (bst (by repeat (first | (with_reducible first | exact HB.out | apply below_alloc | apply pwd | apply bd1 | refine below_set ?_ GE113.out) | exact HB.out)) hb); clear HO116; clear BK113; clear HB; have HO116 := n0_; have BK113 := n1_; have HB := n2_; clear n0_ n1_ n2_; (try clear hb); (try clear hb2); (try clear hk); (try clear hi))))
  go_ret2
  exact ⟨by first | rfl | (simp [errW_none, errW_some] <;> rfl) | (simp [*, errW_none, errW_some] <;> rfl), by repeat (first | (with_reducible first | exact HB.out | apply below_alloc | apply pwd | apply bd1 | refine below_set ?_ GE113.out) | exact HB.out)⟩
end Go.Proofs.Ytjffhhalmicodaa.PF
end

section
set_option linter.unusedVariables false
set_option linter.unusedSimpArgs false
namespace Go.Proofs.Ytjffhhalmicodaa.L
open Go.RowKit Go.Proofs.G.PrintWords Go.Proofs.G.PrintLast Go.Proofs.G.PrintMore Go.Proofs.Ytjffhhalmicodaa.X
def parseDash (l : List Nat) : Option (Fm × List Nat) := match l with
  | d :: r => if isMk d = true then some (.mark true (d - 48), r) else none
  | [] => none
theorem parse_cons (n c : Nat) (l b : List Nat) : parse (n + 1) (c :: l) b = if isMk c = true then some (.mark false (c - 48), l)
    else if c = 45 then parseDash l
    else if c = 116 ∨ c = 102 then some (.con c, l)
    else if isLt c = true then (if c ∈ b then some (.var c, l) else none)
    else if c = 109 ∨ c = 103 then parseFix n c l b
    else if c = 38 ∨ c = 124 then (parse n l b).bind fun p => (parse n p.2 b).bind fun q => some (.two c p.1 q.1, q.2)
    else if c = 60 ∨ c = 91 then (parse n l b).bind fun p => some (.one c p.1, p.2)
    else none := by
  cases l <;> rfl
theorem w1 {s : ByteArray} (hsz : s.size ≤ 1000000) {i : Nat} (hi : i ≤ s.size) : wrap64 ((i : Int) + 1) = ((i + 1 : Nat) : Int) := by unfold wrap64; omega
theorem w2 {s : ByteArray} (hsz : s.size ≤ 1000000) {i : Nat} (hi : i ≤ s.size) : wrap64 ((i : Int) + 2) = ((i + 2 : Nat) : Int) := by unfold wrap64; omega
end Go.Proofs.Ytjffhhalmicodaa.L
end

section
set_option linter.unusedVariables false
set_option linter.unusedSimpArgs false
namespace Go.Proofs.Ytjffhhalmicodaa.L
open Go.RowKit Go.Proofs.G.PrintWords Go.Proofs.G.PrintLast Go.Proofs.G.PrintMore Go.Proofs.Ytjffhhalmicodaa.X
open Go.Proofs.Ytjffhhalmicodaa.PB (r8Valid.f r8Valid.l0 r8Valid.j0)
open Go.Proofs.Ytjffhhalmicodaa.PA (fixes_Works_valid.f q8Of.f q8list.f)
theorem list_eq (l : List Int) : q8list.f l = some (l.take 9) := by
 unfold q8list.f slices_Clone.f
 by_cases h : l.length ≤ 9
 ·have e : mn (l.length : Int) 9 = l.length := by unfold mn; split <;> omega
  rw [e, if_pos (by omega), if_pos (by omega), if_pos (by simp; omega)]
  simp only [Option.bind_some, Option.some.injEq]
  rw [show ((l.length : Int)).toNat = l.length by omega, List.take_of_length_le (by omega), List.take_of_length_le h]
 ·have e : mn (l.length : Int) 9 = 9 := by unfold mn; split <;> omega
  rw [e, if_pos (by omega), if_pos (by omega), if_pos (by simp; omega)]
  rfl
theorem Of_eq (nx mk : List Int) : q8Of.f nx mk = some (nx.take 9, mk.take 9) := by
  unfold q8Of.f
  rw [list_eq, list_eq]
  rfl
theorem take_of {nx mk : List Int} (h : VW nx mk) : nx.take 9 = nx ∧ mk.take 9 = mk := by
  have := h.le
  have := h.len
  exact ⟨List.take_of_length_le (by omega), List.take_of_length_le (by omega)⟩
theorem VW_take {nx mk : List Int} : VW (nx.take 9) (mk.take 9) ↔ VW nx mk := by
 constructor
 ·intro h
  have h1 := h.le
  have h2 := h.len
  rw [List.length_take] at h1
  rw [List.length_take, List.length_take] at h2
  have e1 : nx.take 9 = nx := List.take_of_length_le (by omega)
  have e2 : mk.take 9 = mk := List.take_of_length_le (by omega)
  rw [e1, e2] at h
  exact h
 ·intro h
  rw [(take_of h).1, (take_of h).2]
  exact h
theorem minTo_ge {l : List Int} {b : Int} : ∀ n : Nat, b ≤ minTo l n ↔ ∀ i : Nat, i ≤ n → b ≤ rd l i := by
  intro n
  induction n with
  | zero =>
    exact ⟨fun h i hi => by obtain rfl : i = 0 := by omega
                            exact h, fun h => h 0 (Nat.le_refl _)⟩
  | succ n ih =>
    have e : b ≤ minTo l (n + 1) ↔ b ≤ minTo l n ∧ b ≤ rd l ((n : Int) + 1) := by
      show b ≤ mn _ _ ↔ _
      unfold mn; split <;> omega
    rw [e, ih]
    constructor
    · rintro ⟨h1, h2⟩ i hi
      rcases Nat.lt_or_ge i (n + 1) with h | h
      · exact h1 i (by omega)
      · obtain rfl : i = n + 1 := by omega
        exact h2
    · exact fun h => ⟨fun i hi => h i (by omega), h (n + 1) (Nat.le_refl _)⟩
theorem maxTo_lt {l : List Int} {b : Int} : ∀ n : Nat, maxTo l n < b ↔ ∀ i : Nat, i ≤ n → rd l i < b := by
  intro n
  induction n with
  | zero =>
    exact ⟨fun h i hi => by obtain rfl : i = 0 := by omega
                            exact h, fun h => h 0 (Nat.le_refl _)⟩
  | succ n ih =>
    have e : maxTo l (n + 1) < b ↔ maxTo l n < b ∧ rd l ((n : Int) + 1) < b := by
      show mx _ _ < b ↔ _
      unfold mx; split <;> omega
    rw [e, ih]
    constructor
    · rintro ⟨h1, h2⟩ i hi
      rcases Nat.lt_or_ge i (n + 1) with h | h
      · exact h1 i (by omega)
      · obtain rfl : i = n + 1 := by omega
        exact h2
    · exact fun h => ⟨fun i hi => h i (by omega), h (n + 1) (Nat.le_refl _)⟩
theorem shl_len {l : List Int} (h : l.length ≤ 6) : shl .i64 1 (l.length : Int) = 2 ^ l.length := by
  rw [shl1 (by omega)]
  simp
theorem valid_true {nx mk : List Int} (h : VW nx mk) : fixes_Works_valid.f nx mk = some true := by
 have h1 := h.pos
 have h2 := h.le
 have h3 := h.len
 unfold fixes_Works_valid.f slices_Min.f slices_Max.f
 rw [if_pos (by omega), if_pos (by omega), if_pos (by omega), if_pos (by omega)]
 simp only [Option.bind_some]
 rw [if_pos ((minTo_ge _).2 fun i hi => (h.next i (by omega)).1)]
 rw [if_pos (by omega)]
 simp only [Option.bind_some]
 rw [if_pos (by rw [shl_len h2]; exact (maxTo_lt _).2 fun i hi => (h.next i (by omega)).2)]
 rw [if_pos (by omega)]
 simp only [Option.bind_some]
 rw [if_pos ((minTo_ge _).2 fun i hi => (h.marks i (by omega)).1)]
 rw [if_pos (by omega)]
 simp only [Option.bind_some]
 congr 1
 refine decide_eq_true ((maxTo_lt _).2 fun i hi => ?_)
 have := (h.marks i (by omega)).2
 omega
theorem valid_false {nx mk : List Int} (h : ¬ VW nx mk) : fixes_Works_valid.f nx mk = some false := by
 unfold fixes_Works_valid.f slices_Min.f slices_Max.f
 by_cases h1 : (nx.length : Int) ≥ 1
 ·rw [if_pos h1]
  by_cases h2 : (nx.length : Int) ≤ 6
  ·rw [if_pos h2]
   by_cases h3 : (mk.length : Int) = (nx.length : Int)
   ·rw [if_pos h3, if_pos (by omega)]
    simp only [Option.bind_some]
    by_cases h4 : minTo nx (nx.length - 1) ≥ 0
    ·rw [if_pos h4, if_pos (by omega)]
     simp only [Option.bind_some]
     by_cases h5 : maxTo nx (nx.length - 1) < shl .i64 1 (nx.length : Int)
     ·rw [if_pos h5, if_pos (by omega)]
      simp only [Option.bind_some]
      by_cases h6 : minTo mk (mk.length - 1) ≥ 0
      ·rw [if_pos h6, if_pos (by omega)]
       simp only [Option.bind_some]
       congr 1
       refine decide_eq_false fun h7 => h ?_
       rw [shl_len (by omega)] at h5
       exact ⟨by omega, by omega, by omega, fun i hi => ⟨(minTo_ge _).1 h4 i (by omega), (maxTo_lt _).1 h5 i (by omega)⟩, fun i hi => ⟨(minTo_ge _).1 h6 i (by omega), by have := (maxTo_lt _).1 h7 i (by omega); omega⟩⟩
      ·rw [if_neg h6]
     ·rw [if_neg h5]
    ·rw [if_neg h4]
   ·rw [if_neg h3]
  ·rw [if_neg h2]
 ·rw [if_neg h1]
theorem Valid_loop {nx mk : List Int} (h1 : nx.length ≤ 6) (h2 : mk.length = nx.length) : ∀ d i : Nat, i + d = nx.length → ∃ k r, r8Valid.l0 k (nx.length : Int) nx (nx.length : Int) (i : Int) nx mk = some r ∧ (r = true ↔ ∀ j : Nat, i ≤ j → j < nx.length → InS nx.length (rd nx j) ∧ 0 ≤ rd mk j ∧ rd mk j ≤ 15) := by
 intro d
 induction d with
 | zero =>
  intro i hi
  refine ⟨1, true, ?_, ?_⟩
  ·rw [r8Valid.l0, if_neg (by omega)]
  ·simp only [true_iff]
   intro j hj hj2
   omega
 | succ d ih =>
  intro i hi
  obtain ⟨k, r, hk, hr⟩ := ih (i + 1) (by omega)
  have step : ∀ k, r8Valid.l0 (k + 1) (nx.length : Int) nx (nx.length : Int) (i : Int) nx mk = if rd nx i < 0 then some false else if rd nx i ≥ 2 ^ nx.length then some false else if rd mk i < 0 then some false else if rd mk i > 15 then some false else r8Valid.l0 k (nx.length : Int) nx (nx.length : Int) ((i + 1 : Nat) : Int) nx mk := by
   intro k
   rw [r8Valid.l0, if_pos (by omega), if_pos (by omega), if_pos (by omega), if_pos (show (0 : Int) ≤ (nx.length : Int) by omega), if_pos (show (i : Int) < (mk.length : Int) by omega), shl_len h1]
   rw [show wrap64 ((i : Int) + 1) = ((i + 1 : Nat) : Int) by unfold wrap64; omega]
  by_cases g1 : rd nx i < 0
  ·refine ⟨1, false, by rw [step, if_pos g1], ?_⟩
   simp only [Bool.false_eq_true, false_iff]
   intro h
   have := (h i (Nat.le_refl _) (by omega)).1.1
   omega
  ·by_cases g2 : rd nx i ≥ 2 ^ nx.length
   ·refine ⟨1, false, by rw [step, if_neg g1, if_pos g2], ?_⟩
    simp only [Bool.false_eq_true, false_iff]
    intro h
    have := (h i (Nat.le_refl _) (by omega)).1.2
    omega
   ·by_cases g3 : rd mk i < 0
    ·refine ⟨1, false, by rw [step, if_neg g1, if_neg g2, if_pos g3], ?_⟩
     simp only [Bool.false_eq_true, false_iff]
     intro h
     have := (h i (Nat.le_refl _) (by omega)).2.1
     omega
    ·by_cases g4 : rd mk i > 15
     ·refine ⟨1, false, by rw [step, if_neg g1, if_neg g2, if_neg g3, if_pos g4], ?_⟩
      simp only [Bool.false_eq_true, false_iff]
      intro h
      have := (h i (Nat.le_refl _) (by omega)).2.2
      omega
     ·refine ⟨k + 1, r, by rw [step, if_neg g1, if_neg g2, if_neg g3, if_neg g4, hk], ?_⟩
      rw [hr]
      constructor
      ·intro h j hj hj2
       rcases Nat.lt_or_ge i j with e | e
       ·exact h j e hj2
       ·obtain rfl : j = i := by omega
        exact ⟨⟨by omega, by omega⟩, by omega, by omega⟩
      ·intro h j hj hj2
       exact h j (by omega) hj2
open Classical in
theorem Valid_eq (nx mk : List Int) : ∃ k, r8Valid.f k nx mk = some (decide (VW nx mk)) := by
 have bad : ¬ VW nx mk → some false = some (decide (VW nx mk)) := fun h => by rw [decide_eq_false h]
 unfold r8Valid.f
 by_cases h1 : (nx.length : Int) < 1
 ·refine ⟨1, ?_⟩
  rw [if_pos h1, r8Valid.j0, if_pos rfl]
  exact bad fun h => by have := h.pos; omega
 ·by_cases h2 : (nx.length : Int) > 6
  ·refine ⟨1, ?_⟩
   rw [if_neg h1, if_pos h2, r8Valid.j0, if_pos rfl]
   exact bad fun h => by have := h.le; omega
  ·by_cases h3 : (mk.length : Int) = (nx.length : Int)
   ·obtain ⟨k, r, hk, hr⟩ := Valid_loop (nx := nx) (mk := mk) (by omega) (by omega) nx.length 0 (by omega)
    refine ⟨k + 1, ?_⟩
    rw [if_neg h1, if_neg h2, r8Valid.j0]
    rw [if_neg (by simp [h3])]
    rw [show ((0 : Nat) : Int) = 0 from rfl] at hk
    rw [hk]
    congr 1
    have : r = true ↔ VW nx mk := by
     rw [hr]
     exact ⟨fun h => ⟨by omega, by omega, by omega, fun i hi => (h i (by omega) hi).1, fun i hi => (h i (by omega) hi).2⟩, fun h j _ hj => ⟨h.next j hj, h.marks j hj⟩⟩
    cases r
    ·rw [eq_comm, decide_eq_false_iff_not]
     intro h
     have := this.2 h
     cases this
    ·rw [eq_comm, decide_eq_true_iff]
     exact this.1 rfl
   ·refine ⟨1, ?_⟩
    rw [if_neg h1, if_neg h2, r8Valid.j0]
    rw [if_pos (by simp; omega)]
    exact bad fun h => by have := h.len; omega
theorem awake_at : PB.q8awake.f 3 = some true := by kernel_rfl
end Go.Proofs.Ytjffhhalmicodaa.L
end

section
namespace Go.Proofs.Ytjffhhalmicodaa.PF
open Go.RowKit Go.Proofs.G.PrintWords Go.Proofs.G.PrintLast Go.Proofs.G.PrintMore
attribute [local go_sem] max2_int min2_int max_two min_two max_three min_three max_four min_four
set_option linter.unusedVariables false
set_option linter.unusedSimpArgs false
def r8State.f (l0_0 : List Int) (l0_1 : List Int) (a1 : Int) : Option (Bool) := if a1 ≥ 0 then (some (decide (a1 < (l0_0.length : Int)))) else (some false)
set_option maxHeartbeats 8000000 in
set_option maxRecDepth 100000 in
theorem r8State.calls (A0_0 : Option Addr) (c0_0 : Nat) (l0_0 : List Int) (A0_1 : Option Addr) (c0_1 : Nat) (l0_1 : List Int) (a1 : Int) (r : Bool) (w : World) (hr0_0 : Kd.C (Kd.int .i64) w A0_0 l0_0.length l0_0) (hc0_0 : l0_0.length ≤ c0_0) (hr0_1 : Kd.C (Kd.int .i64) w A0_1 l0_1.length l0_1) (hc0_1 : l0_1.length ≤ c0_1) (h : r8State.f l0_0 l0_1 a1 = some r) :
  Calls Try.prog 40 #[.agg #[.slice A0_0 l0_0.length c0_0, .slice A0_1 l0_1.length c0_1], .int .i64 a1] w fun e w' => e = .returned (.bool r) ∧ Below w.heap.size w w' := by
 have hu24 := Try.underlying24
 have HR0_0 := As0.mk hr0_0
 have HC0_0 := As0.mk hc0_0
 clear hr0_0 hc0_0
 have HR0_1 := As0.mk hr0_1
 have HC0_1 := As0.mk hc0_1
 clear hr0_1 hc0_1
 have HB := As0.mk (Below.refl w.heap.size w)
 have H : (if a1 ≥ 0 then (some (decide (a1 < (l0_0.length : Int)))) else (some false)) = some r := h
 clear h
 by_cases c3 : a1 ≥ 0
 ·rw [if_pos c3] at H
  have c3b0 : decide (0 ≤ a1) = true := decide_eq_true c3
  clear c3
  obtain rfl := Option.some.inj H
  go_enter Try.func40, Try.ntmps40
  go_wp2_with (first | ((with_reducible refine gate_dst (N := 2) rfl ?_); (try (refine gate_guard (by rfl) ?_; dsimp only)); refine box_event ?hg (N := 2) ?hd (cs := #[.slice A0_0 l0_0.length c0_0, .slice A0_1 l0_1.length c0_1]) (t := 24) ?hr ?_; (case hd => rfl); (case hg => rfl); (case hr => first | (go_simp; done) | (go_simp; rfl)); intro gb150 hg w4 hbox hb; have n0_ := As0.mk (bst (by repeat (first | (with_reducible first | exact HB.out | apply below_alloc | apply pwd | apply bd1) | exact HB.out)) hb); have n1_ := As0.mk (hbox); have n2_ := As0.mk ((by rw [hg]; exact (below_size (by repeat (first | (with_reducible first | exact HB.out | apply below_alloc | apply pwd | apply bd1) | exact HB.out))) : w.heap.size ≤ gb150)); have n3_ := As0.mk ((by rw [hg]; exact (below_size (by repeat (first | (with_reducible first | exact HB.out | apply below_alloc | apply pwd | apply bd1) | exact HB.out))) : w.heap.size ≤ gb150)); clear HB; have HB := n0_; have BK150 := n1_; have GW150 := n2_; have GE150 := n3_; clear n0_ n1_ n2_ n3_; clear hb hbox hg; have hcz5_0 : w4.cell? ⟨gb150, 0, none⟩ = some (.slice A0_0 l0_0.length c0_0) := (blk_cell BK150.out 0).trans rfl; have hcz5_1 : w4.cell? ⟨gb150, 1, none⟩ = some (.slice A0_1 l0_1.length c0_1) := (blk_cell BK150.out 1).trans rfl; have hfz5_0 := blk_frozen BK150.out 0; have hfz5_1 := blk_frozen BK150.out 1))
  go_ret
  exact ⟨by first | rfl | (simp [errW_none, errW_some] <;> rfl) | (simp [*, errW_none, errW_some] <;> rfl), by repeat (first | (with_reducible first | exact HB.out | apply below_alloc | apply pwd | apply bd1 | refine below_set ?_ GE150.out) | exact HB.out)⟩
 ·rw [if_neg c3] at H
  have c3b0 : decide (0 ≤ a1) = false := decide_eq_false c3
  clear c3
  obtain rfl := Option.some.inj H
  go_enter Try.func40, Try.ntmps40
  go_wp2_with (first | ((with_reducible refine gate_dst (N := 2) rfl ?_); (try (refine gate_guard (by rfl) ?_; dsimp only)); refine box_event ?hg (N := 2) ?hd (cs := #[.slice A0_0 l0_0.length c0_0, .slice A0_1 l0_1.length c0_1]) (t := 24) ?hr ?_; (case hd => rfl); (case hg => rfl); (case hr => first | (go_simp; done) | (go_simp; rfl)); intro gb150 hg w6 hbox hb; have n0_ := As0.mk (bst (by repeat (first | (with_reducible first | exact HB.out | apply below_alloc | apply pwd | apply bd1) | exact HB.out)) hb); have n1_ := As0.mk (hbox); have n2_ := As0.mk ((by rw [hg]; exact (below_size (by repeat (first | (with_reducible first | exact HB.out | apply below_alloc | apply pwd | apply bd1) | exact HB.out))) : w.heap.size ≤ gb150)); have n3_ := As0.mk ((by rw [hg]; exact (below_size (by repeat (first | (with_reducible first | exact HB.out | apply below_alloc | apply pwd | apply bd1) | exact HB.out))) : w.heap.size ≤ gb150)); clear HB; have HB := n0_; have BK150 := n1_; have GW150 := n2_; have GE150 := n3_; clear n0_ n1_ n2_ n3_; clear hb hbox hg))
  go_ret
  exact ⟨by first | rfl | (simp [errW_none, errW_some] <;> rfl) | (simp [*, errW_none, errW_some] <;> rfl), by repeat (first | (with_reducible first | exact HB.out | apply below_alloc | apply pwd | apply bd1 | refine below_set ?_ GE150.out) | exact HB.out)⟩
end Go.Proofs.Ytjffhhalmicodaa.PF
end

section
set_option linter.unusedVariables false
namespace Go.Proofs.Ytjffhhalmicodaa.L
open Go.RowKit Go.Proofs.G.PrintWords Go.Proofs.G.PrintLast Go.Proofs.G.PrintMore Go.Proofs.Ytjffhhalmicodaa.X Go.Proofs.Ytjffhhalmicodaa.PF
def levs (nx mk : List Int) (j : Nat) : List (List Int) := (List.range (j + 1)).map (lv nx mk)
theorem levs_last (nx mk : List Int) (j : Nat) : (levs nx mk j).getLastD [] = lv nx mk j := by
  unfold levs
  rw [List.range_succ, List.map_append]
  simp
theorem levs_succ (nx mk : List Int) (j : Nat) : levs nx mk (j + 1) = levs nx mk j ++ [lv nx mk (j + 1)] := by
  unfold levs
  rw [List.range_succ, List.map_append]
  rfl
theorem levs_len (nx mk : List Int) (j : Nat) : (levs nx mk j).length = j + 1 := by simp [levs]
theorem lev_loop {nx mk : List Int} {K : Nat} (hK : Last nx mk K) (h6 : K ≤ 100) : ∀ d j, j + d = K → Evr (fun k => levF nx k (levs nx mk j)) (levs nx mk K) := by
 intro d
 induction d with
 | zero =>
  intro j hj
  obtain rfl : j = K := by omega
  refine Evr.step (h := fun _ => some (levs nx mk j)) (fun k => ?_) (Evr.const _)
  rw [levF, if_pos (by rw [levs_len]; omega), levs_last, if_pos]
  exact hK.same
 | succ d ih =>
  intro j hj
  refine Evr.step (fun k => ?_) (ih (j + 1) (by omega))
  rw [levF, if_pos (by rw [levs_len]; omega), levs_last, if_neg, levs_succ]
  ·rfl
  ·exact hK.first j (by omega)
theorem levels_ev {nx mk : List Int} (hv : VW nx mk) {K : Nat} (hK : Last nx mk K) : Evr (fun k => fixes_levels.f k nx mk) (levs nx mk K) := by
 have h6 := hv.le
 have hl := hK.le hv
 refine Evr.congr (fun k => ?_) (lev_loop hK (by omega) K 0 (by omega))
 unfold fixes_levels.f
 rw [if_pos ⟨by omega, by rw [hv.len]; omega⟩]
 rfl
theorem classes_ev {nx mk : List Int} (hv : VW nx mk) {K : Nat} (hK : Last nx mk K) : Evr (fun k => fixes_classes.f k nx mk) (lv nx mk K) := by
 have hl := hK.le hv
 have h6 := hv.le
 refine Evr.bind (f := fun l _ => if l = [] ∨ 100000 < l.length then none else some (l.getLastD [])) (levels_ev hv hK) ?_
 refine Evr.of_all fun k => ?_
 rw [if_neg, levs_last]
 rintro (h | h)
 ·have := levs_len nx mk K
  rw [h] at this
  simp at this
 ·rw [levs_len] at h
  omega
end Go.Proofs.Ytjffhhalmicodaa.L
end

section
set_option linter.unusedVariables false
namespace Go.Proofs.Ytjffhhalmicodaa.L
open Go.RowKit Go.Proofs.G.PrintWords Go.Proofs.G.PrintLast Go.Proofs.G.PrintMore Go.Proofs.Ytjffhhalmicodaa.X Go.Proofs.Ytjffhhalmicodaa.PF Go.Proofs.Ytjffhhalmicodaa.PA Go.Proofs.Ytjffhhalmicodaa.PB
theorem awake_ev : Evr (fun k => PB.q8awake.f k) true := Evr.of_mono (fun k => PB.q8awake.mono k) ⟨3, awake_at⟩
open Classical in
theorem Valid_ev (nx mk : List Int) : Evr (fun k => PB.r8Valid.f k nx mk) (decide (VW nx mk)) := Evr.of_mono (fun k => PB.r8Valid.mono nx mk k) (Valid_eq nx mk)
theorem vw_no {nx mk : List Int} (h : ¬ VW nx mk) : ¬ VW (nx.take 9) (mk.take 9) := fun q => h (VW_take.1 q)
def St (nx : List Int) (a : Int) : Prop := 0 ≤ a ∧ a < nx.length
instance (nx : List Int) (a : Int) : Decidable (St nx a) := inferInstanceAs (Decidable (_ ∧ _))
theorem isState_ok {nx mk : List Int} (hv : VW nx mk) (a b : Int) : fixes_isState.f nx mk [a, b] = some (decide (St nx a ∧ St nx b)) := by
 unfold fixes_isState.f
 rw [valid_true hv]
 simp only [Option.bind_some, if_true]
 congr 1
 rw [Bool.eq_iff_iff]
 unfold St offS
 simp
theorem St.nat {nx : List Int} {a : Int} (h : St nx a) : ∃ s : Nat, a = (s : Int) ∧ s < nx.length := by
  obtain ⟨s, rfl⟩ := Int.eq_ofNat_of_zero_le h.1
  exact ⟨s, rfl, by have := h.2; omega⟩
theorem Alike_ev {nx mk : List Int} (hv : VW nx mk) {K : Nat} (hK : Last nx mk K) {s t : Nat} (hs : s < nx.length) (ht : t < nx.length) : Evr (fun k => fixes_Alike.f k nx mk (s : Int) (t : Int)) (rd (lv nx mk K) s == rd (lv nx mk K) t, 0) := by
 unfold fixes_Alike.f
 rw [isState_ok hv, decide_eq_true (show St nx (s : Int) ∧ St nx (t : Int) from ⟨⟨by omega, by omega⟩, ⟨by omega, by omega⟩⟩)]
 simp only [Option.bind_some, if_true]
 refine Evr.bind (f := fun x _ => _) (classes_ev hv hK) ?_
 refine Evr.of_all fun k => ?_
 rw [lv_len, if_pos (by omega), if_pos (by omega), if_pos (by omega), if_pos (by omega)]
theorem State_eq (nx mk : List Int) (a : Int) : r8State.f nx mk a = some (decide (St nx a)) := by
 unfold r8State.f
 by_cases h : a ≥ 0
 ·rw [if_pos h]
  congr 1
  rw [Bool.eq_iff_iff, decide_eq_true_eq, decide_eq_true_eq]
  unfold St
  omega
 ·have h2 : ¬ St nx a := fun q => h q.1
  rw [if_neg h, decide_eq_false h2]
end Go.Proofs.Ytjffhhalmicodaa.L
end

section
set_option linter.unusedVariables false
set_option linter.unusedSimpArgs false
namespace Go.Proofs.Ytjffhhalmicodaa.X
open Go.RowKit Go.Proofs.G.PrintWords Go.Proofs.G.PrintLast Go.Proofs.G.PrintMore
def meets (nx below : List Int) (t x y : Nat) : Bool := (bits .and .i64 (shr .i64 (rd nx (t : Int)) (y : Int)) 1 == 1) && (rd below (x : Int) == rd below (y : Int))
set_option maxRecDepth 100000 in
set_option maxHeartbeats 2000000 in
theorem meets_calls (bw bt bb bx b off n c0 b2 off2 c2 t x y : Nat) (nx below : List Int) (W : World) (hw : W.cell? ⟨bw, 0, none⟩ = some (.slice (some ⟨b, off, none⟩) n c0)) (ht : W.cell? ⟨bt, 0, none⟩ = some (.int .i64 (t : Int))) (hb : W.cell? ⟨bb, 0, none⟩ = some (.slice (some ⟨b2, off2, none⟩) n c2)) (hx : W.cell? ⟨bx, 0, none⟩ = some (.int .i64 (x : Int)))
    (htn : t < n) (hxn : x < n) (hyn : y < n) (hn : n ≤ 61) (h1 : W.cell? ⟨b, off + t, none⟩ = some (.int .i64 (rd nx (t : Int)))) (h2 : W.cell? ⟨b2, off2 + x, none⟩ = some (.int .i64 (rd below (x : Int)))) (h3 : W.cell? ⟨b2, off2 + y, none⟩ = some (.int .i64 (rd below (y : Int)))) :
    Calls Try.prog 91 #[.int .i64 (y : Int), .pointer (some ⟨bw, 0, none⟩), .pointer (some ⟨bt, 0, none⟩), .pointer (some ⟨bb, 0, none⟩), .pointer (some ⟨bx, 0, none⟩)] W fun e w' => e = .returned (.bool (meets nx below t x y)) ∧ ∃ q, w' = W.drewN q := by
  have hu := Try.underlying28
  have k1 : (t : Int) < (n : Int) := by omega
  have k2 : (x : Int) < (n : Int) := by omega
  have k3 : (y : Int) < (n : Int) := by omega
  have hy62 : y ≤ 62 := by omega
  have hsh := shr_at (rd nx (t : Int)) (t := y) (by omega)
  have HSH := Lib.hid hsh
  clear hsh
  cases hq : (bits .and .i64 (rd nx (t : Int) / 2 ^ y) 1 == 1) with
  | true =>
    have HQ := Lib.hid hq
    go_enter Try.func91, Try.ntmps91
    go_wp2_with fail
    go_quiet (fail)
    go_wp2
    go_ret
    exact ⟨ret_bool (by unfold meets; rw [HSH.out, HQ.out, Bool.true_and]), _, rfl⟩
  | false =>
    have HQ := Lib.hid hq
    go_enter Try.func91, Try.ntmps91
    go_wp2_with fail
    go_quiet (fail)
    go_wp2
    go_ret
    exact ⟨ret_bool (by unfold meets; rw [HSH.out, HQ.out, Bool.false_and]), _, rfl⟩
theorem pred_meets (w : World) (bw bt bb bx c0 c2 t x : Nat) (A0 A2 : Option Addr) (nx below : List Int) (hr : Kd.C (Kd.int .i64) w A0 nx.length nx) (hr2 : Kd.C (Kd.int .i64) w A2 below.length below) (hl : below.length = nx.length) (hw : w.cell? ⟨bw, 0, none⟩ = some (.slice A0 nx.length c0)) (ht : w.cell? ⟨bt, 0, none⟩ = some (.int .i64 (t : Int))) (hb : w.cell? ⟨bb, 0, none⟩ = some (.slice A2 below.length c2)) (hx : w.cell? ⟨bx, 0, none⟩ = some (.int .i64 (x : Int))) (htn : t < nx.length) (hxn : x < nx.length) (hn : nx.length ≤ 61) :
    Pred w 91 #[.pointer (some ⟨bw, 0, none⟩), .pointer (some ⟨bt, 0, none⟩), .pointer (some ⟨bb, 0, none⟩), .pointer (some ⟨bx, 0, none⟩)] nx.length (meets nx below t x) := by
  intro W y hy hB
  obtain ⟨b, off, rfl, _, hc⟩ := ints_at hr (by omega)
  obtain ⟨b2, off2, rfl, _, hc2⟩ := ints_at hr2 (by omega)
  exact (meets_calls bw bt bb bx b off nx.length c0 b2 off2 c2 t x y nx below W (pwc hB hw) (pwc hB ht) (by rw [← hl]; exact pwc hB hb) (pwc hB hx) htn hxn hy hn (pwc hB (hc t htn)) (pwc hB (hc2 x (by omega))) (pwc hB (hc2 y (by omega)))).mono fun e w' ⟨he, q, hq⟩ => ⟨he, hq ▸ pwd (Below.refl _ _) q⟩
end Go.Proofs.Ytjffhhalmicodaa.X
end

section
set_option linter.unusedVariables false
set_option linter.unusedSimpArgs false
namespace Go.Proofs.Ytjffhhalmicodaa.X
open Go.RowKit Go.Proofs.G.PrintWords Go.Proofs.G.PrintLast Go.Proofs.G.PrintMore
def firstG (p : Nat → Bool) : Nat → Option Nat
  | 0 => none
  | n + 1 => match firstG p n with
    | some x => some x
    | none => if p n = true then some n else none
theorem firstG_spec (p : Nat → Bool) : ∀ n, (firstG p n = none ∧ ∀ x, x < n → p x = false) ∨ ∃ x, firstG p n = some x ∧ x < n ∧ p x = true ∧ ∀ y, y < x → p y = false
 | 0 => .inl ⟨rfl, fun x h => by omega⟩
 | n + 1 => by
  rcases firstG_spec p n with ⟨h1, h2⟩ | ⟨x, h1, h2, h3⟩
  ·by_cases hp : p n = true
   ·exact .inr ⟨n, by rw [firstG, h1, if_pos hp], by omega, hp, h2⟩
   ·refine .inl ⟨by rw [firstG, h1, if_neg hp], fun x hx => ?_⟩
    by_cases e : x = n
    ·rw [e]; simpa using hp
    ·exact h2 x (by omega)
  ·exact .inr ⟨x, by rw [firstG, h1], by omega, h3⟩
def goodX (nx below : List Int) (s t x : Nat) : Bool := !(bits .and .i64 (shr .i64 (rd nx (s : Int)) (x : Int)) 1 == 0) && (whereTo (meets nx below t x) nx.length == 0)
def foldY (T : Nat → Nat → Nat → Option ByteArray) (nx : List Int) (d t x : Nat) (turned : Bool) (jb ob : ByteArray) : Nat → Option ByteArray
  | 0 => some ob
  | y + 1 => (foldY T nx d t x turned jb ob y).bind fun out => if bits .and .i64 (shr .i64 (rd nx (t : Int)) (y : Int)) 1 = 0 then some out else
    (if turned = true then T d y x else T d x y).bind fun kid => if out.toList = ob.toList then some kid else if out.size ≤ 1000000 ∧ kid.size ≤ 1000000 then some (jb ++ out ++ kid) else none
def someF (T : Nat → Nat → Nat → Option ByteArray) (nx : List Int) (L : List (List Int)) (d s t : Nat) (nb jb ob : ByteArray) (turned : Bool) : Option (ByteArray × Bool) :=
  if (1 ≤ d ∧ d ≤ L.length) ∧ (L.getD (d - 1) []).length = nx.length ∧ s < nx.length ∧ t < nx.length ∧ nx.length ≤ 61 ∧ nb.size ≤ 1 ∧ jb.size ≤ 1 ∧ L.length ≤ 1000 then
    match firstG (goodX nx (L.getD (d - 1) []) s t) nx.length with
    | none => some (⟨#[]⟩, false)
    | some x => (foldY T nx (d - 1) t x turned jb ob nx.length).bind fun out => if out.size ≤ 1000000 then some (nb ++ out, true) else none
  else none
def TellC (nx mk : List Int) (L : List (List Int)) (T : Nat → Nat → Nat → Option ByteArray) : Prop :=
  ∀ (d s t : Nat) (r : ByteArray), T d s t = some r → ∀ (A0 : Option Addr) (c0 : Nat) (A1 : Option Addr) (c1 : Nat) (AL : Option Addr) (cL : Nat) (w : World), Kd.C (Kd.int .i64) w A0 nx.length nx → nx.length ≤ c0 → Kd.C (Kd.int .i64) w A1 mk.length mk → mk.length ≤ c1 → Kd.C (Kd.slice 3 (Kd.int .i64)) w AL L.length L → L.length ≤ cL →
    Calls Try.prog 67 #[.agg #[.slice A0 nx.length c0, .slice A1 mk.length c1], .slice AL L.length cL, .int .i64 d, .int .i64 s, .int .i64 t] w fun e w' => e = .returned (.string r) ∧ Below w.heap.size w w'
theorem rows_at {w : World} {A : Option Addr} {n : Nat} {L : List (List Int)} (h : Kd.C (Kd.slice 3 (Kd.int .i64)) w A n L) (hn : 0 < n) :
    ∃ b off, A = some ⟨b, off, none⟩ ∧ ∀ j, j < n → ∃ A2 c2, w.cell? ⟨b, off + j, none⟩ = some (.slice A2 (L.getD j []).length c2) ∧ (L.getD j []).length ≤ c2 ∧ Kd.C (Kd.int .i64) w A2 (L.getD j []).length (L.getD j []) := by
  have get : ∀ j : Nat, j < n → ∃ ad A2 c2, A = some ad ∧ w.cell? (ad.add j) = some (.slice A2 (L.getD j []).length c2) ∧ (L.getD j []).length ≤ c2 ∧ Kd.C (Kd.int .i64) w A2 (L.getD j []).length (L.getD j []) := by
    intro j hj
    obtain ⟨ad, c, e, _, hK, hc⟩ := Kd.C_get h [] (j : Int) (by omega) (by omega)
    obtain ⟨A2, c2, rfl, hl, hC⟩ := hK
    rw [Int.toNat_natCast] at hl hC hc
    refine ⟨ad, A2, c2, e, ?_, hl, hC⟩
    have := hc 0 _ rfl
    rwa [show (Kd.slice 3 (Kd.int .i64)).sz = 1 from rfl, Nat.mul_one, Nat.add_zero] at this
  obtain ⟨ad, A2, c2, e, hc, _⟩ := get 0 hn
  have hsp : ad.spot = none := by
    cases hs : ad.spot with
    | none => rfl
    | some q =>
      have : w.cell? ad = some (.slice A2 (L.getD 0 []).length c2) := by simpa [Addr.add] using hc
      unfold World.cell? at this
      split at this <;> simp [hs] at this
  refine ⟨ad.block, ad.off, by rw [e, ← hsp], fun j hj => ?_⟩
  obtain ⟨ad1, A3, c3, e1, h1, h2, h3⟩ := get j hj
  obtain rfl : ad = ad1 := by rw [e] at e1; injection e1
  have : ad.add j = ⟨ad.block, ad.off + j, none⟩ := by
    unfold Addr.add
    split
    · rename_i h0; subst h0; rw [← hsp]; simp
    · rfl
  rw [this] at h1
  exact ⟨A3, c3, h1, h2, h3⟩
structure SS (w : World) (gw gt gb : Nat) (A0 A1 A2 AL : Option Addr) (c0 c1 c2 t : Nat) (nx mk bel : List Int) (L : List (List Int)) (wr : World) : Prop where
 below : Below w.heap.size w wr
 box : wr.heap[gw]? = some (.cells #[.slice A0 nx.length c0, .slice A1 mk.length c1] 28 (0, 0))
 tee : wr.heap[gt]? = some (.cells #[.int .i64 (t : Int)] 3 (0, 0))
 low : wr.heap[gb]? = some (.cells #[.slice A2 bel.length c2] 22 (0, 0))
 r0 : Kd.C (Kd.int .i64) wr A0 nx.length nx
 r1 : Kd.C (Kd.int .i64) wr A1 mk.length mk
 r2 : Kd.C (Kd.int .i64) wr A2 bel.length bel
 rL : Kd.C (Kd.slice 3 (Kd.int .i64)) wr AL L.length L
theorem SS.step {w : World} {gw gt gb : Nat} {A0 A1 A2 AL : Option Addr} {c0 c1 c2 t : Nat} {nx mk bel : List Int} {L : List (List Int)} {wr w2 : World} (h : SS w gw gt gb A0 A1 A2 AL c0 c1 c2 t nx mk bel L wr) (hb : Below wr.heap.size wr w2) : SS w gw gt gb A0 A1 A2 AL c0 c1 c2 t nx mk bel L w2 :=
  ⟨bst h.below hb, blk_below h.box hb, blk_below h.tee hb, blk_below h.low hb, Kd.C_below h.r0 hb, Kd.C_below h.r1 hb, Kd.C_below h.r2 hb, Kd.C_below h.rL hb⟩
theorem SS.reads {w : World} {gw gt gb : Nat} {A0 A1 A2 AL : Option Addr} {c0 c1 c2 t : Nat} {nx mk bel : List Int} {L : List (List Int)} {wr : World} (h : SS w gw gt gb A0 A1 A2 AL c0 c1 c2 t nx mk bel L wr) : wr.cell? ⟨gw, 0, none⟩ = some (.slice A0 nx.length c0) ∧ wr.cell? ⟨gw, 1, none⟩ = some (.slice A1 mk.length c1) ∧ wr.cell? ⟨gt, 0, none⟩ = some (.int .i64 (t : Int)) ∧ wr.cell? ⟨gb, 0, none⟩ = some (.slice A2 bel.length c2) :=
  ⟨(blk_cell h.box 0).trans rfl, (blk_cell h.box 1).trans rfl, (blk_cell h.tee 0).trans rfl, (blk_cell h.low 0).trans rfl⟩
theorem info3s : (Try.prog.info? 3).map (·.size) = some 1 := by kernel_rfl
set_option maxRecDepth 100000 in
set_option maxHeartbeats 2000000 in
theorem some_no (nx mk : List Int) (L : List (List Int)) (d s t : Nat) (nb jb ob : ByteArray) (turned : Bool) (A0 : Option Addr) (c0 : Nat) (A1 : Option Addr) (c1 : Nat) (AL : Option Addr) (cL : Nat) (w : World) (hr0 : Kd.C (Kd.int .i64) w A0 nx.length nx) (hc0 : nx.length ≤ c0) (hr1 : Kd.C (Kd.int .i64) w A1 mk.length mk) (hc1 : mk.length ≤ c1) (hrL : Kd.C (Kd.slice 3 (Kd.int .i64)) w AL L.length L) (hcL : L.length ≤ cL)
  (hdL : d < L.length) (hbl : (L.getD d []).length = nx.length) (hs : s < nx.length) (ht : t < nx.length) (h61 : nx.length ≤ 61) (hL : L.length ≤ 1000) (hno : ∀ x, x < nx.length → goodX nx (L.getD d []) s t x = false) :
  Calls Try.prog 84 #[.agg #[.slice A0 nx.length c0, .slice A1 mk.length c1], .slice AL L.length cL, .int .i64 ((d : Int) + 1), .int .i64 s, .int .i64 t, .string nb, .string jb, .string ob, .bool turned] w fun e w' => e = .returned (.tuple #[.string ⟨#[]⟩, .bool false]) ∧ Below w.heap.size w w' := by
 have hu := Try.underlying28
 obtain ⟨bL, oL, rfl, hLc⟩ := rows_at hrL (by omega)
 obtain ⟨A2, c2, hcl, hl2, hC2⟩ := hLc d hdL
 generalize hbe : L.getD d [] = bel at *
 have HBE := Lib.hid hbe
 have HBL := Lib.hid hbl
 have HR0 := Lib.hid hr0
 have HR1 := Lib.hid hr1
 have HRL := Lib.hid hrL
 have HC2 := Lib.hid hC2
 have HNO := Lib.hid hno
 clear hr0 hr1 hrL hC2 hno hLc hbe hbl
 have hd1 : ((d : Int) + 1 - 1) = (d : Int) := by omega
 have eg : ∀ args w, (callFunc 91 args).run Try.prog w = .ok (.enter 91 args) w := enters_of' Try.func91 (by kernel_rfl) rfl
 have EG := Lib.hid eg
 clear eg
 go_enter Try.func84, Try.ntmps84
 go_wp2_with (first | ((with_reducible refine gate_dst (N := 9) rfl ?_); refine box_event ?hg (N := 9) ?hd (cs := #[.slice A0 nx.length c0, .slice A1 mk.length c1]) (t := 28) ?hr ?_; (case hd => rfl); (case hg => rfl); (case hr => first | (go_simp; done) | (go_simp; rfl)); intro gw hgw wa hbw hbb; have HBX := Lib.hid hbw; have HB0 := Lib.hid (bst (Below.refl w.heap.size w) hbb); have k0_ := pwc hbb hcl; clear hgw hbw hbb hcl; have hcl := k0_; clear k0_) | ((with_reducible refine gate_dst (N := 13) rfl ?_); refine box_event ?hg (N := 13) ?hd (cs := #[.int .i64 (t : Int)]) (t := 3) ?hr ?_; (case hd => rfl); (case hg => rfl); (case hr => first | (go_simp; done) | (go_simp; rfl)); intro gt hgt wb hbw hbb; have HBT := Lib.hid hbw; have HB1 := Lib.hid (bst HB0.out hbb); have HBX1 := Lib.hid (blk_below HBX.out hbb); have k0_ := pwc hbb hcl; clear hgt hbw hbb hcl HB0 HBX; have hcl := k0_; clear k0_) | ((with_reducible refine gate_dst (N := 20) rfl ?_); refine box_event ?hg (N := 20) ?hd (cs := #[.slice none 0 0]) (t := 22) ?hr ?_; (case hd => rfl); (case hg => rfl); (case hr => kernel_rfl); intro gb hgb wc hbw hbb; have HGB := Lib.hid (Nat.le_of_eq hgb.symm); have HBB := Lib.hid hbb; have HBL2 := Lib.hid hbw; clear hgb hbw hbb) | ((with_reducible refine gate_op (op := .store 22 (.tmp 20) (.tmp 29)) rfl ?_); refine whole_store_event rfl rfl 22 (.tmp 20) (.tmp 29) rfl (g := gb) (cur := #[.slice none 0 0]) (.slice A2 bel.length c2) [.slice A2 bel.length c2] rfl rfl rfl info22s rfl (by simp [Value.oneCell']) HBL2.out ?_; intro w3 hw3 hk3 hb3; have HB3 := Lib.hid (hb3 _ _ HBB.out HGB.out); have HS0 := Lib.hid (show SS w gw gt gb A0 A1 A2 (some ⟨bL, oL, none⟩) c0 c1 c2 t nx mk bel L w3 from ⟨bst HB1.out HB3.out, blk_below HBX1.out HB3.out, blk_below HBT.out HB3.out, hw3, Kd.C_below HR0.out (bst HB1.out HB3.out), Kd.C_below HR1.out (bst HB1.out HB3.out), Kd.C_below HC2.out (bst HB1.out HB3.out), Kd.C_below HRL.out (bst HB1.out HB3.out)⟩); have hw0 : w3.cell? ⟨gw, 0, none⟩ = some (.slice A0 nx.length c0) := HS0.out.reads.1; clear hw3 hk3 hb3 hcl HBB HBL2 HGB HB3 HB1 HBX1 HBT HR0 HR1 HRL HC2) | fail)
 go_loopw [33] (fun v33 wr => ∃ x : Nat, x ≤ nx.length ∧ v33 = .int .i64 x ∧ Hid (SS w gw gt gb A0 A1 A2 (some ⟨bL, oL, none⟩) c0 c1 c2 t nx mk bel L wr)) (fun v33 _ => nx.length - (intOf v33).toNat)
 case atStart => exact ⟨0, by omega, rfl, HS0⟩
 case round =>
  clear HS0 hw0
  obtain ⟨x, hx, rfl, HS⟩ := hrel
  by_cases hlt : x < nx.length
  ·obtain ⟨b0, o0, rfl, _, hcn⟩ := ints_at HS.out.r0 (by omega)
   clear hcn
   go_wp2_with (first | ((with_reducible refine gate_dst (N := 21) rfl ?_); refine box_event ?hg (N := 21) ?hd (cs := #[.int .i64 0]) (t := 3) ?hr ?_; (case hd => rfl); (case hg => rfl); (case hr => kernel_rfl); intro gx hgx wd hbw hbb; have HGX := Lib.hid (Nat.le_of_eq hgx.symm); have HBB := Lib.hid hbb; have HBX := Lib.hid hbw; clear hgx hbw hbb) | ((with_reducible refine gate_op (op := .store 3 (.tmp 21) (.tmp 35)) rfl ?_); refine whole_store_event rfl rfl 3 (.tmp 21) (.tmp 35) rfl (g := gx) (cur := #[.int .i64 0]) (.int .i64 (x : Int)) [.int .i64 (x : Int)] rfl rfl rfl info3s rfl (by simp [Value.oneCell']) HBX.out ?_; intro w5 hw5 hk5 hb5; have HS5 := Lib.hid (HS.out.step (hb5 _ _ HBB.out HGX.out)); have HX5 := Lib.hid hw5; clear hw5 hk5 hb5 HBB HBX HGX HS) | fail)
   obtain ⟨b0', o0', e0', _, hcn⟩ := ints_at HS5.out.r0 (by omega)
   obtain ⟨rfl, rfl⟩ : b0 = b0' ∧ o0 = o0' := by injection e0' with e0'; injection e0' with e1 e2; exact ⟨e1, e2⟩
   clear e0'
   have q0 := HS5.out.reads.1
   have q1 := HS5.out.reads.2.1
   have q2 := hcn s hs
   have q3 : w5.cell? ⟨gx, 0, none⟩ = some (.int .i64 (x : Int)) := (blk_cell HX5.out 0).trans rfl
   have hx62 : x ≤ 62 := by omega
   have hgd := HNO.out x hlt
   unfold goodX at hgd
   rw [shr_at _ (show x ≤ 64 by omega)] at hgd
   clear hcn
   cases hq : (bits .and .i64 (rd nx (s : Int) / 2 ^ x) 1 == 0) with
   | true =>
    clear hgd
    go_quiet (fail)
    go_wp2_with fail
    go_roundw
    case rel => exact ⟨x + 1, by omega, by go_num, Lib.hid (HS5.out.step (pwd (Below.refl _ _) _))⟩
    case measure => simp [intOf]; omega
   | false =>
    rw [hq] at hgd
    have hwn : (whereTo (meets nx bel t x) nx.length != 0) = true := by
     simp only [Bool.not_false, Bool.true_and] at hgd
     rw [bne, hgd]
     rfl
    have HWN := Lib.hid hwn
    clear hgd hwn
    have HS6 := Lib.hid (HS5.out.step (bd1 (Below.refl w5.heap.size w5)))
    have q4 : w5.drew.cell? ⟨gx, 0, none⟩ = some (.int .i64 (x : Int)) := by simpa using q3
    refine start_ (n := 15) (S := fun w' => w'.cell? ⟨gw, 0, none⟩ = some (.slice (some ⟨b0, o0, none⟩) nx.length c0) ∧ w'.cell? ⟨gw, 1, none⟩ = some (.slice A1 mk.length c1) ∧ w'.cell? ⟨b0, o0 + s, none⟩ = some (.int .i64 (rd nx (s : Int))) ∧ w'.cell? ⟨gx, 0, none⟩ = some (.int .i64 (x : Int))) (ds := []) Mq91 (by kernel_rfl) rfl rfl ⟨by simpa using q0, by simpa using q1, by simpa using q2, by simpa using q3⟩ (fun hHeld => ?_)
    clear q0 q1 q2 q3 HS5 HX5
    generalize w5.drew = wd at HS6 q4 hHeld ⊢
    refine px (v := ?_) (a' := ?_) 0 (some 36) Mq92 ?_ ?_ ?_
    rotate_left;(intro w';go_simp;first | done | with_reducible rfl);rotate_left;(simp only [Act.put, sq];rfl)
    refine take_ (i := 1) (N := (some 37)) (v := ?_) (a' := ?_) Mq93 rfl rfl (by kernel_rfl) (fun _ _ _ h => h) (Or.inl ⟨by rfl, ?_⟩) hHeld ?_ ?_
    rotate_left
    ·rintro w' ⟨s0, s1, s2, s3⟩; go_simp; first | done | with_reducible rfl
    rotate_left
    ·simp only [Act.put, sq]; rfl
    refine px (v := ?_) (a' := ?_) 2 (some 38) Mq94 ?_ ?_ ?_
    rotate_left;(intro w';go_simp;first | done | with_reducible rfl);rotate_left;(simp only [Act.put, sq];rfl)
    refine px (v := ?_) (a' := ?_) 3 (some 39) Mq95 ?_ ?_ ?_
    rotate_left;(intro w';go_simp;first | done | with_reducible rfl);rotate_left;(simp only [Act.put, sq];rfl)
    refine take_ (i := 4) (N := (some 40)) (v := ?_) (a' := ?_) Mq96 rfl rfl (by kernel_rfl) (fun _ _ _ h => h) (Or.inl ⟨by rfl, ?_⟩) hHeld ?_ ?_
    rotate_left
    ·rintro w' ⟨s0, s1, s2, s3⟩; go_simp; first | done | with_reducible rfl
    rotate_left
    ·simp only [Act.put, sq]; rfl
    refine take_ (i := 5) (N := (some 41)) (v := ?_) (a' := ?_) Mq97 rfl rfl (by kernel_rfl) (fun _ _ _ h => h) (Or.inl ⟨by rfl, ?_⟩) hHeld ?_ ?_
    rotate_left
    ·rintro w' ⟨s0, s1, s2, s3⟩; go_simp; first | done | with_reducible rfl
    rotate_left
    ·simp only [Act.put, sq]; rfl
    refine px (v := ?_) (a' := ?_) 6 (some 42) Mq98 ?_ ?_ ?_
    rotate_left;(intro w';go_simp;first | done | with_reducible rfl);rotate_left;(simp only [Act.put, sq];rfl)
    refine px (v := ?_) (a' := ?_) 7 (some 43) Mq99 ?_ ?_ ?_
    rotate_left;(intro w';go_simp;first | done | with_reducible rfl);rotate_left;(simp only [Act.put, sq];rfl)
    refine px (v := ?_) (a' := ?_) 8 (some 44) Mq100 ?_ ?_ ?_
    rotate_left;(intro w';go_simp;first | done | with_reducible rfl);rotate_left;(simp only [Act.put, sq];rfl)
    refine px (v := ?_) (a' := ?_) 9 (some 45) Mq101 ?_ ?_ ?_
    rotate_left;(intro w';go_simp;first | done | with_reducible rfl);rotate_left;(simp only [Act.put, sq];rfl)
    refine take_ (i := 10) (N := (some 46)) (v := ?_) (a' := ?_) Mq102 rfl rfl (by kernel_rfl) (fun _ _ _ h => h) (Or.inl ⟨by rfl, ?_⟩) hHeld ?_ ?_
    rotate_left
    ·rintro w' ⟨s0, s1, s2, s3⟩; go_simp; first | done | with_reducible rfl
    rotate_left
    ·simp only [Act.put, sq]; rfl
    refine px (v := ?_) (a' := ?_) 11 (some 47) Mq103 ?_ ?_ ?_
    rotate_left;(intro w';go_simp;first | done | with_reducible rfl);rotate_left;(simp only [Act.put, sq];rfl)
    refine one_ (i := 12) (N := (some 48)) Mq104 rfl rfl (by kernel_rfl) (by decide) (fun K hK => ?_)
    refine goes_ Try.func55 (by kernel_rfl) rfl #[.agg #[.slice (some ⟨b0, o0, none⟩) nx.length c0, .slice A1 mk.length c1], .func (.func 91) #[] #[.pointer (some ⟨gw, 0, none⟩), .pointer (some ⟨gt, 0, none⟩), .pointer (some ⟨gb, 0, none⟩), .pointer (some ⟨gx, 0, none⟩)]] (by rfl) rfl rfl (by (try simp only [sm]); first | done | rfl) ?_
    refine (where_calls 91 _ EG.out (meets nx bel t x) (some ⟨b0, o0, none⟩) nx.length c0 A1 mk.length c1 wd (by omega) (pred_meets wd gw gt gb gx c0 c2 t x (some ⟨b0, o0, none⟩) A2 nx bel HS6.out.r0 HS6.out.r2 HBL.out HS6.out.reads.1 HS6.out.reads.2.2.1 HS6.out.reads.2.2.2 q4 ht hlt h61)).mono ?_
    rintro e w6 ⟨rfl, hb⟩
    have HS7 := Lib.hid (HS6.out.step hb)
    have k0 := pwc hb hHeld.1
    have k1 := pwc hb hHeld.2.1
    have k2 := pwc hb hHeld.2.2.1
    have k3 := pwc hb hHeld.2.2.2
    refine ⟨_, rfl, ?_⟩
    refine hK.out _ _ ⟨k0, k1, k2, k3⟩ (fun hHeld => ?_)
    clear hK K
    refine norm_ (a' := ?_) ?_ ?_
    rotate_left
    ·show Act.put _ (some 48) _ = _; simp only [Act.put, sq]; rfl
    clear k0 k1 k2 k3 hb HS6 q4
    have hwn := HWN.out
    refine px (v := ?_) (a' := ?_) 13 (some 49) Mq105 ?_ ?_ ?_
    rotate_left;(intro w';go_simp;first | done | with_reducible rfl);rotate_left;(simp only [Act.put, sq];rfl)
    refine px (v := ?_) (a' := ?_) 14 (some 50) Mq106 ?_ ?_ ?_
    rotate_left;(intro w';go_simp;first | done | with_reducible rfl);rotate_left;(simp only [Act.put, sq];rfl)
    refine done_ (by kernel_rfl) ?_
    clear hHeld
    go_wp2_with fail
    go_roundw
    case rel => exact ⟨x + 1, by omega, by go_num, HS7⟩
    case measure => simp [intOf]; omega
  ·obtain rfl : x = nx.length := by omega
   go_wp2_with fail
   go_ret2
   exact ⟨rfl, HS.out.below⟩
end Go.Proofs.Ytjffhhalmicodaa.X
end

section
set_option linter.unusedVariables false
set_option linter.unusedSimpArgs false
namespace Go.Proofs.Ytjffhhalmicodaa.X
open Go.RowKit Go.Proofs.G.PrintWords Go.Proofs.G.PrintLast Go.Proofs.G.PrintMore
theorem foldY_prefix {T : Nat → Nat → Nat → Option ByteArray} {nx : List Int} {d t x : Nat} {turned : Bool} {jb ob : ByteArray} : ∀ (n : Nat) (r : ByteArray), foldY T nx d t x turned jb ob n = some r → ∀ y, y ≤ n → ∃ o, foldY T nx d t x turned jb ob y = some o := by
 intro n
 induction n with
 | zero =>
  intro r h y hy
  obtain rfl : y = 0 := by omega
  exact ⟨r, h⟩
 | succ n ih =>
  intro r h y hy
  by_cases e : y = n + 1
  ·exact ⟨r, e ▸ h⟩
  ·rw [foldY] at h
   obtain ⟨o, ho, _⟩ := Option.bind_eq_some_iff.mp h
   exact ih o ho y (by omega)
set_option maxRecDepth 100000 in
set_option maxHeartbeats 4000000 in
theorem some_yes (nx mk : List Int) (L : List (List Int)) (d s t : Nat) (nb jb ob : ByteArray) (turned : Bool) (A0 : Option Addr) (c0 : Nat) (A1 : Option Addr) (c1 : Nat) (AL : Option Addr) (cL : Nat) (w : World) (hr0 : Kd.C (Kd.int .i64) w A0 nx.length nx) (hc0 : nx.length ≤ c0) (hr1 : Kd.C (Kd.int .i64) w A1 mk.length mk) (hc1 : mk.length ≤ c1) (hrL : Kd.C (Kd.slice 3 (Kd.int .i64)) w AL L.length L) (hcL : L.length ≤ cL)
  (hdL : d < L.length) (hbl : (L.getD d []).length = nx.length) (hs : s < nx.length) (ht : t < nx.length) (h61 : nx.length ≤ 61) (hL : L.length ≤ 1000) (T : Nat → Nat → Nat → Option ByteArray) (IH : TellC nx mk L T) (x0 : Nat) (hx0 : x0 < nx.length) (hyes : goodX nx (L.getD d []) s t x0 = true) (hno : ∀ x, x < x0 → goodX nx (L.getD d []) s t x = false) (res : ByteArray) (hfold : foldY T nx d t x0 turned jb ob nx.length = some res) (hnb : nb.size ≤ 1) (hjb : jb.size ≤ 1) (hres : res.size ≤ 1000000) :
  Calls Try.prog 84 #[.agg #[.slice A0 nx.length c0, .slice A1 mk.length c1], .slice AL L.length cL, .int .i64 ((d : Int) + 1), .int .i64 s, .int .i64 t, .string nb, .string jb, .string ob, .bool turned] w fun e w' => e = .returned (.tuple #[.string (nb ++ res), .bool true]) ∧ Below w.heap.size w w' := by
 have hu := Try.underlying28
 obtain ⟨bL, oL, rfl, hLc⟩ := rows_at hrL (by omega)
 obtain ⟨A2, c2, hcl, hl2, hC2⟩ := hLc d hdL
 generalize hbe : L.getD d [] = bel at *
 have HBE := Lib.hid hbe
 have HBL := Lib.hid hbl
 have HR0 := Lib.hid hr0
 have HR1 := Lib.hid hr1
 have HRL := Lib.hid hrL
 have HC2 := Lib.hid hC2
 have HNO := Lib.hid hno
 have HYES := Lib.hid hyes
 have HFOLD := Lib.hid hfold
 have HIH := Lib.hid IH
 clear hyes hfold IH
 clear hr0 hr1 hrL hC2 hno hLc hbe hbl
 have hd1 : ((d : Int) + 1 - 1) = (d : Int) := by omega
 have eg : ∀ args w, (callFunc 91 args).run Try.prog w = .ok (.enter 91 args) w := enters_of' Try.func91 (by kernel_rfl) rfl
 have EG := Lib.hid eg
 clear eg
 go_enter Try.func84, Try.ntmps84
 go_wp2_with (first | ((with_reducible refine gate_dst (N := 9) rfl ?_); refine box_event ?hg (N := 9) ?hd (cs := #[.slice A0 nx.length c0, .slice A1 mk.length c1]) (t := 28) ?hr ?_; (case hd => rfl); (case hg => rfl); (case hr => first | (go_simp; done) | (go_simp; rfl)); intro gw hgw wa hbw hbb; have HBX := Lib.hid hbw; have HB0 := Lib.hid (bst (Below.refl w.heap.size w) hbb); have k0_ := pwc hbb hcl; clear hgw hbw hbb hcl; have hcl := k0_; clear k0_) | ((with_reducible refine gate_dst (N := 13) rfl ?_); refine box_event ?hg (N := 13) ?hd (cs := #[.int .i64 (t : Int)]) (t := 3) ?hr ?_; (case hd => rfl); (case hg => rfl); (case hr => first | (go_simp; done) | (go_simp; rfl)); intro gt hgt wb hbw hbb; have HBT := Lib.hid hbw; have HB1 := Lib.hid (bst HB0.out hbb); have HBX1 := Lib.hid (blk_below HBX.out hbb); have k0_ := pwc hbb hcl; clear hgt hbw hbb hcl HB0 HBX; have hcl := k0_; clear k0_) | ((with_reducible refine gate_dst (N := 20) rfl ?_); refine box_event ?hg (N := 20) ?hd (cs := #[.slice none 0 0]) (t := 22) ?hr ?_; (case hd => rfl); (case hg => rfl); (case hr => kernel_rfl); intro gb hgb wc hbw hbb; have HGB := Lib.hid (Nat.le_of_eq hgb.symm); have HBB := Lib.hid hbb; have HBL2 := Lib.hid hbw; clear hgb hbw hbb) | ((with_reducible refine gate_op (op := .store 22 (.tmp 20) (.tmp 29)) rfl ?_); refine whole_store_event rfl rfl 22 (.tmp 20) (.tmp 29) rfl (g := gb) (cur := #[.slice none 0 0]) (.slice A2 bel.length c2) [.slice A2 bel.length c2] rfl rfl rfl info22s rfl (by simp [Value.oneCell']) HBL2.out ?_; intro w3 hw3 hk3 hb3; have HB3 := Lib.hid (hb3 _ _ HBB.out HGB.out); have HS0 := Lib.hid (show SS w gw gt gb A0 A1 A2 (some ⟨bL, oL, none⟩) c0 c1 c2 t nx mk bel L w3 from ⟨bst HB1.out HB3.out, blk_below HBX1.out HB3.out, blk_below HBT.out HB3.out, hw3, Kd.C_below HR0.out (bst HB1.out HB3.out), Kd.C_below HR1.out (bst HB1.out HB3.out), Kd.C_below HC2.out (bst HB1.out HB3.out), Kd.C_below HRL.out (bst HB1.out HB3.out)⟩); have hw0 : w3.cell? ⟨gw, 0, none⟩ = some (.slice A0 nx.length c0) := HS0.out.reads.1; clear hw3 hk3 hb3 hcl HBB HBL2 HGB HB3 HB1 HBX1 HBT HR0 HR1 HRL HC2) | fail)
 go_loopw [33] (fun v33 wr => ∃ x : Nat, x ≤ x0 ∧ v33 = .int .i64 x ∧ Hid (SS w gw gt gb A0 A1 A2 (some ⟨bL, oL, none⟩) c0 c1 c2 t nx mk bel L wr)) (fun v33 _ => nx.length - (intOf v33).toNat)
 case atStart => exact ⟨0, by omega, rfl, HS0⟩
 case round =>
  clear HS0 hw0
  obtain ⟨x, hx, rfl, HS⟩ := hrel
  by_cases hlt0 : x < x0
  ·have hlt : x < nx.length := by omega
   obtain ⟨b0, o0, rfl, _, hcn⟩ := ints_at HS.out.r0 (by omega)
   clear hcn
   go_wp2_with (first | ((with_reducible refine gate_dst (N := 21) rfl ?_); refine box_event ?hg (N := 21) ?hd (cs := #[.int .i64 0]) (t := 3) ?hr ?_; (case hd => rfl); (case hg => rfl); (case hr => kernel_rfl); intro gx hgx wd hbw hbb; have HGX := Lib.hid (Nat.le_of_eq hgx.symm); have HBB := Lib.hid hbb; have HBX := Lib.hid hbw; clear hgx hbw hbb) | ((with_reducible refine gate_op (op := .store 3 (.tmp 21) (.tmp 35)) rfl ?_); refine whole_store_event rfl rfl 3 (.tmp 21) (.tmp 35) rfl (g := gx) (cur := #[.int .i64 0]) (.int .i64 (x : Int)) [.int .i64 (x : Int)] rfl rfl rfl info3s rfl (by simp [Value.oneCell']) HBX.out ?_; intro w5 hw5 hk5 hb5; have HS5 := Lib.hid (HS.out.step (hb5 _ _ HBB.out HGX.out)); have HX5 := Lib.hid hw5; clear hw5 hk5 hb5 HBB HBX HGX HS) | fail)
   obtain ⟨b0', o0', e0', _, hcn⟩ := ints_at HS5.out.r0 (by omega)
   obtain ⟨rfl, rfl⟩ : b0 = b0' ∧ o0 = o0' := by injection e0' with e0'; injection e0' with e1 e2; exact ⟨e1, e2⟩
   clear e0'
   have q0 := HS5.out.reads.1
   have q1 := HS5.out.reads.2.1
   have q2 := hcn s hs
   have q3 : w5.cell? ⟨gx, 0, none⟩ = some (.int .i64 (x : Int)) := (blk_cell HX5.out 0).trans rfl
   have hx62 : x ≤ 62 := by omega
   have hgd := HNO.out x hlt0
   unfold goodX at hgd
   rw [shr_at _ (show x ≤ 64 by omega)] at hgd
   clear hcn
   cases hq : (bits .and .i64 (rd nx (s : Int) / 2 ^ x) 1 == 0) with
   | true =>
    clear hgd
    go_quiet (fail)
    go_wp2_with fail
    go_roundw
    case rel => exact ⟨x + 1, by omega, by go_num, Lib.hid (HS5.out.step (pwd (Below.refl _ _) _))⟩
    case measure => simp [intOf]; omega
   | false =>
    rw [hq] at hgd
    have hwn : (whereTo (meets nx bel t x) nx.length != 0) = true := by
     simp only [Bool.not_false, Bool.true_and] at hgd
     rw [bne, hgd]
     rfl
    have HWN := Lib.hid hwn
    clear hgd hwn
    have HS6 := Lib.hid (HS5.out.step (bd1 (Below.refl w5.heap.size w5)))
    have q4 : w5.drew.cell? ⟨gx, 0, none⟩ = some (.int .i64 (x : Int)) := by simpa using q3
    refine start_ (n := 15) (S := fun w' => w'.cell? ⟨gw, 0, none⟩ = some (.slice (some ⟨b0, o0, none⟩) nx.length c0) ∧ w'.cell? ⟨gw, 1, none⟩ = some (.slice A1 mk.length c1) ∧ w'.cell? ⟨b0, o0 + s, none⟩ = some (.int .i64 (rd nx (s : Int))) ∧ w'.cell? ⟨gx, 0, none⟩ = some (.int .i64 (x : Int))) (ds := []) Mq91 (by kernel_rfl) rfl rfl ⟨by simpa using q0, by simpa using q1, by simpa using q2, by simpa using q3⟩ (fun hHeld => ?_)
    clear q0 q1 q2 q3 HS5 HX5
    generalize w5.drew = wd at HS6 q4 hHeld ⊢
    refine px (v := ?_) (a' := ?_) 0 (some 36) Mq92 ?_ ?_ ?_
    rotate_left;(intro w';go_simp;first | done | with_reducible rfl);rotate_left;(simp only [Act.put, sq];rfl)
    refine take_ (i := 1) (N := (some 37)) (v := ?_) (a' := ?_) Mq93 rfl rfl (by kernel_rfl) (fun _ _ _ h => h) (Or.inl ⟨by rfl, ?_⟩) hHeld ?_ ?_
    rotate_left
    ·rintro w' ⟨s0, s1, s2, s3⟩; go_simp; first | done | with_reducible rfl
    rotate_left
    ·simp only [Act.put, sq]; rfl
    refine px (v := ?_) (a' := ?_) 2 (some 38) Mq94 ?_ ?_ ?_
    rotate_left;(intro w';go_simp;first | done | with_reducible rfl);rotate_left;(simp only [Act.put, sq];rfl)
    refine px (v := ?_) (a' := ?_) 3 (some 39) Mq95 ?_ ?_ ?_
    rotate_left;(intro w';go_simp;first | done | with_reducible rfl);rotate_left;(simp only [Act.put, sq];rfl)
    refine take_ (i := 4) (N := (some 40)) (v := ?_) (a' := ?_) Mq96 rfl rfl (by kernel_rfl) (fun _ _ _ h => h) (Or.inl ⟨by rfl, ?_⟩) hHeld ?_ ?_
    rotate_left
    ·rintro w' ⟨s0, s1, s2, s3⟩; go_simp; first | done | with_reducible rfl
    rotate_left
    ·simp only [Act.put, sq]; rfl
    refine take_ (i := 5) (N := (some 41)) (v := ?_) (a' := ?_) Mq97 rfl rfl (by kernel_rfl) (fun _ _ _ h => h) (Or.inl ⟨by rfl, ?_⟩) hHeld ?_ ?_
    rotate_left
    ·rintro w' ⟨s0, s1, s2, s3⟩; go_simp; first | done | with_reducible rfl
    rotate_left
    ·simp only [Act.put, sq]; rfl
    refine px (v := ?_) (a' := ?_) 6 (some 42) Mq98 ?_ ?_ ?_
    rotate_left;(intro w';go_simp;first | done | with_reducible rfl);rotate_left;(simp only [Act.put, sq];rfl)
    refine px (v := ?_) (a' := ?_) 7 (some 43) Mq99 ?_ ?_ ?_
    rotate_left;(intro w';go_simp;first | done | with_reducible rfl);rotate_left;(simp only [Act.put, sq];rfl)
    refine px (v := ?_) (a' := ?_) 8 (some 44) Mq100 ?_ ?_ ?_
    rotate_left;(intro w';go_simp;first | done | with_reducible rfl);rotate_left;(simp only [Act.put, sq];rfl)
    refine px (v := ?_) (a' := ?_) 9 (some 45) Mq101 ?_ ?_ ?_
    rotate_left;(intro w';go_simp;first | done | with_reducible rfl);rotate_left;(simp only [Act.put, sq];rfl)
    refine take_ (i := 10) (N := (some 46)) (v := ?_) (a' := ?_) Mq102 rfl rfl (by kernel_rfl) (fun _ _ _ h => h) (Or.inl ⟨by rfl, ?_⟩) hHeld ?_ ?_
    rotate_left
    ·rintro w' ⟨s0, s1, s2, s3⟩; go_simp; first | done | with_reducible rfl
    rotate_left
    ·simp only [Act.put, sq]; rfl
    refine px (v := ?_) (a' := ?_) 11 (some 47) Mq103 ?_ ?_ ?_
    rotate_left;(intro w';go_simp;first | done | with_reducible rfl);rotate_left;(simp only [Act.put, sq];rfl)
    refine one_ (i := 12) (N := (some 48)) Mq104 rfl rfl (by kernel_rfl) (by decide) (fun K hK => ?_)
    refine goes_ Try.func55 (by kernel_rfl) rfl #[.agg #[.slice (some ⟨b0, o0, none⟩) nx.length c0, .slice A1 mk.length c1], .func (.func 91) #[] #[.pointer (some ⟨gw, 0, none⟩), .pointer (some ⟨gt, 0, none⟩), .pointer (some ⟨gb, 0, none⟩), .pointer (some ⟨gx, 0, none⟩)]] (by rfl) rfl rfl (by (try simp only [sm]); first | done | rfl) ?_
    refine (where_calls 91 _ EG.out (meets nx bel t x) (some ⟨b0, o0, none⟩) nx.length c0 A1 mk.length c1 wd (by omega) (pred_meets wd gw gt gb gx c0 c2 t x (some ⟨b0, o0, none⟩) A2 nx bel HS6.out.r0 HS6.out.r2 HBL.out HS6.out.reads.1 HS6.out.reads.2.2.1 HS6.out.reads.2.2.2 q4 ht hlt h61)).mono ?_
    rintro e w6 ⟨rfl, hb⟩
    have HS7 := Lib.hid (HS6.out.step hb)
    have k0 := pwc hb hHeld.1
    have k1 := pwc hb hHeld.2.1
    have k2 := pwc hb hHeld.2.2.1
    have k3 := pwc hb hHeld.2.2.2
    refine ⟨_, rfl, ?_⟩
    refine hK.out _ _ ⟨k0, k1, k2, k3⟩ (fun hHeld => ?_)
    clear hK K
    refine norm_ (a' := ?_) ?_ ?_
    rotate_left
    ·show Act.put _ (some 48) _ = _; simp only [Act.put, sq]; rfl
    clear k0 k1 k2 k3 hb HS6 q4
    have hwn := HWN.out
    refine px (v := ?_) (a' := ?_) 13 (some 49) Mq105 ?_ ?_ ?_
    rotate_left;(intro w';go_simp;first | done | with_reducible rfl);rotate_left;(simp only [Act.put, sq];rfl)
    refine px (v := ?_) (a' := ?_) 14 (some 50) Mq106 ?_ ?_ ?_
    rotate_left;(intro w';go_simp;first | done | with_reducible rfl);rotate_left;(simp only [Act.put, sq];rfl)
    refine done_ (by kernel_rfl) ?_
    clear hHeld
    go_wp2_with fail
    go_roundw
    case rel => exact ⟨x + 1, by omega, by go_num, HS7⟩
    case measure => simp [intOf]; omega
  ·obtain rfl : x = x0 := by omega
   have hlt := hx0
   obtain ⟨b0, o0, rfl, _, hcn⟩ := ints_at HS.out.r0 (by omega)
   clear hcn
   go_wp2_with (first | ((with_reducible refine gate_dst (N := 21) rfl ?_); refine box_event ?hg (N := 21) ?hd (cs := #[.int .i64 0]) (t := 3) ?hr ?_; (case hd => rfl); (case hg => rfl); (case hr => kernel_rfl); intro gx hgx wd hbw hbb; have HGX := Lib.hid (Nat.le_of_eq hgx.symm); have HBB := Lib.hid hbb; have HBX := Lib.hid hbw; clear hgx hbw hbb) | ((with_reducible refine gate_op (op := .store 3 (.tmp 21) (.tmp 35)) rfl ?_); refine whole_store_event rfl rfl 3 (.tmp 21) (.tmp 35) rfl (g := gx) (cur := #[.int .i64 0]) (.int .i64 (x : Int)) [.int .i64 (x : Int)] rfl rfl rfl info3s rfl (by simp [Value.oneCell']) HBX.out ?_; intro w5 hw5 hk5 hb5; have HS5 := Lib.hid (HS.out.step (hb5 _ _ HBB.out HGX.out)); have HX5 := Lib.hid hw5; clear hw5 hk5 hb5 HBB HBX HGX HS) | fail)
   obtain ⟨b0', o0', e0', _, hcn⟩ := ints_at HS5.out.r0 (by omega)
   obtain ⟨rfl, rfl⟩ : b0 = b0' ∧ o0 = o0' := by injection e0' with e0'; injection e0' with e1 e2; exact ⟨e1, e2⟩
   clear e0'
   have q0 := HS5.out.reads.1
   have q1 := HS5.out.reads.2.1
   have q2 := hcn s hs
   have q3 : w5.cell? ⟨gx, 0, none⟩ = some (.int .i64 (x : Int)) := (blk_cell HX5.out 0).trans rfl
   have hx62 : x ≤ 62 := by omega
   have hgd := HYES.out
   unfold goodX at hgd
   rw [shr_at _ (show x ≤ 64 by omega), Bool.and_eq_true, Bool.not_eq_true'] at hgd
   obtain ⟨hq, hwz⟩ := hgd
   have hwn : (whereTo (meets nx bel t x) nx.length != 0) = false := by rw [bne, hwz]; rfl
   have HWN := Lib.hid hwn
   clear hcn hwz hwn
   have HS6 := Lib.hid (HS5.out.step (bd1 (Below.refl w5.heap.size w5)))
   have q4 : w5.drew.cell? ⟨gx, 0, none⟩ = some (.int .i64 (x : Int)) := by simpa using q3
   refine start_ (n := 15) (S := fun w' => w'.cell? ⟨gw, 0, none⟩ = some (.slice (some ⟨b0, o0, none⟩) nx.length c0) ∧ w'.cell? ⟨gw, 1, none⟩ = some (.slice A1 mk.length c1) ∧ w'.cell? ⟨b0, o0 + s, none⟩ = some (.int .i64 (rd nx (s : Int))) ∧ w'.cell? ⟨gx, 0, none⟩ = some (.int .i64 (x : Int))) (ds := []) Mq91 (by kernel_rfl) rfl rfl ⟨by simpa using q0, by simpa using q1, by simpa using q2, by simpa using q3⟩ (fun hHeld => ?_)
   have HX6 := Lib.hid (show w5.drew.heap[gx]? = some (.cells #[.int .i64 (x : Int)] 3 (0, 0)) from HX5.out)
   clear q0 q1 q2 q3 HS5 HX5
   generalize w5.drew = wd at HS6 HX6 q4 hHeld ⊢
   refine px (v := ?_) (a' := ?_) 0 (some 36) Mq92 ?_ ?_ ?_
   rotate_left;(intro w';go_simp;first | done | with_reducible rfl);rotate_left;(simp only [Act.put, sq];rfl)
   refine take_ (i := 1) (N := (some 37)) (v := ?_) (a' := ?_) Mq93 rfl rfl (by kernel_rfl) (fun _ _ _ h => h) (Or.inl ⟨by rfl, ?_⟩) hHeld ?_ ?_
   rotate_left
   ·rintro w' ⟨s0, s1, s2, s3⟩; go_simp; first | done | with_reducible rfl
   rotate_left
   ·simp only [Act.put, sq]; rfl
   refine px (v := ?_) (a' := ?_) 2 (some 38) Mq94 ?_ ?_ ?_
   rotate_left;(intro w';go_simp;first | done | with_reducible rfl);rotate_left;(simp only [Act.put, sq];rfl)
   refine px (v := ?_) (a' := ?_) 3 (some 39) Mq95 ?_ ?_ ?_
   rotate_left;(intro w';go_simp;first | done | with_reducible rfl);rotate_left;(simp only [Act.put, sq];rfl)
   refine take_ (i := 4) (N := (some 40)) (v := ?_) (a' := ?_) Mq96 rfl rfl (by kernel_rfl) (fun _ _ _ h => h) (Or.inl ⟨by rfl, ?_⟩) hHeld ?_ ?_
   rotate_left
   ·rintro w' ⟨s0, s1, s2, s3⟩; go_simp; first | done | with_reducible rfl
   rotate_left
   ·simp only [Act.put, sq]; rfl
   refine take_ (i := 5) (N := (some 41)) (v := ?_) (a' := ?_) Mq97 rfl rfl (by kernel_rfl) (fun _ _ _ h => h) (Or.inl ⟨by rfl, ?_⟩) hHeld ?_ ?_
   rotate_left
   ·rintro w' ⟨s0, s1, s2, s3⟩; go_simp; first | done | with_reducible rfl
   rotate_left
   ·simp only [Act.put, sq]; rfl
   refine px (v := ?_) (a' := ?_) 6 (some 42) Mq98 ?_ ?_ ?_
   rotate_left;(intro w';go_simp;first | done | with_reducible rfl);rotate_left;(simp only [Act.put, sq];rfl)
   refine px (v := ?_) (a' := ?_) 7 (some 43) Mq99 ?_ ?_ ?_
   rotate_left;(intro w';go_simp;first | done | with_reducible rfl);rotate_left;(simp only [Act.put, sq];rfl)
   refine px (v := ?_) (a' := ?_) 8 (some 44) Mq100 ?_ ?_ ?_
   rotate_left;(intro w';go_simp;first | done | with_reducible rfl);rotate_left;(simp only [Act.put, sq];rfl)
   refine px (v := ?_) (a' := ?_) 9 (some 45) Mq101 ?_ ?_ ?_
   rotate_left;(intro w';go_simp;first | done | with_reducible rfl);rotate_left;(simp only [Act.put, sq];rfl)
   refine take_ (i := 10) (N := (some 46)) (v := ?_) (a' := ?_) Mq102 rfl rfl (by kernel_rfl) (fun _ _ _ h => h) (Or.inl ⟨by rfl, ?_⟩) hHeld ?_ ?_
   rotate_left
   ·rintro w' ⟨s0, s1, s2, s3⟩; go_simp; first | done | with_reducible rfl
   rotate_left
   ·simp only [Act.put, sq]; rfl
   refine px (v := ?_) (a' := ?_) 11 (some 47) Mq103 ?_ ?_ ?_
   rotate_left;(intro w';go_simp;first | done | with_reducible rfl);rotate_left;(simp only [Act.put, sq];rfl)
   refine one_ (i := 12) (N := (some 48)) Mq104 rfl rfl (by kernel_rfl) (by decide) (fun K hK => ?_)
   refine goes_ Try.func55 (by kernel_rfl) rfl #[.agg #[.slice (some ⟨b0, o0, none⟩) nx.length c0, .slice A1 mk.length c1], .func (.func 91) #[] #[.pointer (some ⟨gw, 0, none⟩), .pointer (some ⟨gt, 0, none⟩), .pointer (some ⟨gb, 0, none⟩), .pointer (some ⟨gx, 0, none⟩)]] (by rfl) rfl rfl (by (try simp only [sm]); first | done | rfl) ?_
   refine (where_calls 91 _ EG.out (meets nx bel t x) (some ⟨b0, o0, none⟩) nx.length c0 A1 mk.length c1 wd (by omega) (pred_meets wd gw gt gb gx c0 c2 t x (some ⟨b0, o0, none⟩) A2 nx bel HS6.out.r0 HS6.out.r2 HBL.out HS6.out.reads.1 HS6.out.reads.2.2.1 HS6.out.reads.2.2.2 q4 ht hlt h61)).mono ?_
   rintro e w6 ⟨rfl, hb⟩
   have HS7 := Lib.hid (HS6.out.step hb)
   have HX7 := Lib.hid (blk_below HX6.out hb)
   have k0 := pwc hb hHeld.1
   have k1 := pwc hb hHeld.2.1
   have k2 := pwc hb hHeld.2.2.1
   have k3 := pwc hb hHeld.2.2.2
   refine ⟨_, rfl, ?_⟩
   refine hK.out _ _ ⟨k0, k1, k2, k3⟩ (fun hHeld => ?_)
   clear hK K
   refine norm_ (a' := ?_) ?_ ?_
   rotate_left
   ·show Act.put _ (some 48) _ = _; simp only [Act.put, sq]; rfl
   clear k0 k1 k2 k3 hb HS6 HX6 q4
   have hwn := HWN.out
   refine px (v := ?_) (a' := ?_) 13 (some 49) Mq105 ?_ ?_ ?_
   rotate_left;(intro w';go_simp;first | done | with_reducible rfl);rotate_left;(simp only [Act.put, sq];rfl)
   refine px (v := ?_) (a' := ?_) 14 (some 50) Mq106 ?_ ?_ ?_
   rotate_left;(intro w';go_simp;first | done | with_reducible rfl);rotate_left;(simp only [Act.put, sq];rfl)
   refine done_ (by kernel_rfl) ?_
   clear hHeld
   have q0 := HS7.out.reads.1
   go_wp2_with fail
   clear q0 hq hwn
   obtain ⟨wo, rfl⟩ : ∃ wo : World, wo = w6 := ⟨_, rfl⟩
   go_loopw [22, 55] (fun v22 v55 wr => ∃ (y : Nat) (out : ByteArray), y ≤ nx.length ∧ v55 = .int .i64 y ∧ v22 = .string out ∧ Hid (foldY T nx d t x turned jb ob y = some out) ∧ Hid (SS w gw gt gb (some ⟨b0, o0, none⟩) A1 A2 (some ⟨bL, oL, none⟩) c0 c1 c2 t nx mk bel L wr) ∧ Hid (wr.heap[gx]? = some (.cells #[.int .i64 (x : Int)] 3 (0, 0)))) (fun _ v55 _ => nx.length - (intOf v55).toNat)
   case atStart => exact ⟨0, ob, by omega, rfl, rfl, Lib.hid rfl, HS7, HX7⟩
   case round =>
    clear HS7 HX7
    obtain ⟨y, out, hy, rfl, rfl, HF, HSI, HXI⟩ := hrel
    by_cases hyl : y < nx.length
    ·obtain ⟨o2, ho2⟩ := foldY_prefix _ _ HFOLD.out (y + 1) (by omega)
     have HN := Lib.hid ho2
     rw [foldY, HF.out, Option.bind_some, shr_at _ (show y ≤ 64 by omega)] at ho2
     have r0 := HSI.out.reads.1
     have r1 := HSI.out.reads.2.1
     have r2 := HSI.out.reads.2.2.1
     obtain ⟨b0', o0', e0', _, hcn⟩ := ints_at HSI.out.r0 (by omega)
     obtain ⟨rfl, rfl⟩ : b0 = b0' ∧ o0 = o0' := by injection e0' with e0'; injection e0' with e1 e2; exact ⟨e1, e2⟩
     clear e0'
     have r3 := hcn t ht
     have r4 : wr.cell? ⟨gx, 0, none⟩ = some (.int .i64 (x : Int)) := (blk_cell HXI.out 0).trans rfl
     have hy62 : y ≤ 62 := by omega
     clear hcn
     by_cases hbz : bits .and .i64 (rd nx (t : Int) / 2 ^ y) 1 = 0
     ·rw [if_pos hbz] at ho2
      injection ho2 with ho2
      subst ho2
      have e1 : (bits .and .i64 (rd nx (t : Int) / 2 ^ y) 1 == 0) = true := beq_iff_eq.2 hbz
      clear hbz
      go_wp2_with fail
      go_roundw
      case rel => exact ⟨y + 1, out, by omega, by go_num, rfl, HN, HSI, HXI⟩
      case measure => simp [intOf]; omega
     ·rw [if_neg hbz] at ho2
      have e0 : (bits .and .i64 (rd nx (t : Int) / 2 ^ y) 1 == 0) = false := beq_eq_false_iff_ne.2 hbz
      clear hbz
      obtain ⟨kid, hk1, hk2⟩ := Option.bind_eq_some_iff.mp ho2
      clear ho2
      cases turned with
      | false =>
       have hkid : T d x y = some kid := by simpa using hk1
       have HKID := Lib.hid hkid
       clear hkid
       go_wp2_with fail
       refine (HIH.out d x y kid HKID.out (some ⟨b0, o0, none⟩) c0 A1 c1 (some ⟨bL, oL, none⟩) cL wr HSI.out.r0 hc0 HSI.out.r1 hc1 HSI.out.rL hcL).mono ?_
       rintro e w8 ⟨rfl, hb⟩
       have HS8 := Lib.hid (HSI.out.step hb)
       have HX8 := Lib.hid (blk_below HXI.out hb)
       clear hb r0 r1 r2 r3 r4 HSI HXI HKID
       by_cases ho : out.toList = ob.toList
       ·rw [if_pos ho] at hk2
        injection hk2 with hk2
        subst hk2
        have e1 : (out.toList == ob.toList) = true := beq_iff_eq.mpr ho
        have HO := Lib.hid ho
        clear ho
        go_wp2_with fail
        go_roundw
        case rel => exact ⟨y + 1, kid, by omega, by go_num, rfl, HN, HS8, HX8⟩
        case measure => simp [intOf]; omega
       ·rw [if_neg ho] at hk2
        have e1 : (out.toList == ob.toList) = false := beq_eq_false_iff_ne.mpr ho
        have hsz : out.size ≤ 1000000 ∧ kid.size ≤ 1000000 := by
         by_cases q : out.size ≤ 1000000 ∧ kid.size ≤ 1000000
         ·exact q
         ·rw [if_neg q] at hk2; cases hk2
        rw [if_pos hsz] at hk2
        injection hk2 with hk2
        have z1 : (9223372036854775807 < jb.size + out.size) = False := eq_false (by omega)
        have z2 : (9223372036854775807 < jb.size + out.size + kid.size) = False := eq_false (by omega)
        have z3 : (9223372036854775807 < (jb ++ out).size + kid.size) = False := eq_false (by rw [ByteArray.size_append]; omega)
        have HO2 := Lib.hid hk2
        clear ho hk2 hsz
        go_wp2_with fail
        go_roundw
        case rel => exact ⟨y + 1, jb ++ out ++ kid, by omega, by go_num, rfl, Lib.hid (by rw [HN.out, HO2.out]), HS8, HX8⟩
        case measure => simp [intOf]; omega
      | true =>
       have hkid : T d y x = some kid := by simpa using hk1
       have HKID := Lib.hid hkid
       clear hkid
       go_wp2_with fail
       refine (HIH.out d y x kid HKID.out (some ⟨b0, o0, none⟩) c0 A1 c1 (some ⟨bL, oL, none⟩) cL wr HSI.out.r0 hc0 HSI.out.r1 hc1 HSI.out.rL hcL).mono ?_
       rintro e w8 ⟨rfl, hb⟩
       have HS8 := Lib.hid (HSI.out.step hb)
       have HX8 := Lib.hid (blk_below HXI.out hb)
       clear hb r0 r1 r2 r3 r4 HSI HXI HKID
       by_cases ho : out.toList = ob.toList
       ·rw [if_pos ho] at hk2
        injection hk2 with hk2
        subst hk2
        have e1 : (out.toList == ob.toList) = true := beq_iff_eq.mpr ho
        have HO := Lib.hid ho
        clear ho
        go_wp2_with fail
        go_roundw
        case rel => exact ⟨y + 1, kid, by omega, by go_num, rfl, HN, HS8, HX8⟩
        case measure => simp [intOf]; omega
       ·rw [if_neg ho] at hk2
        have e1 : (out.toList == ob.toList) = false := beq_eq_false_iff_ne.mpr ho
        have hsz : out.size ≤ 1000000 ∧ kid.size ≤ 1000000 := by
         by_cases q : out.size ≤ 1000000 ∧ kid.size ≤ 1000000
         ·exact q
         ·rw [if_neg q] at hk2; cases hk2
        rw [if_pos hsz] at hk2
        injection hk2 with hk2
        have z1 : (9223372036854775807 < jb.size + out.size) = False := eq_false (by omega)
        have z2 : (9223372036854775807 < jb.size + out.size + kid.size) = False := eq_false (by omega)
        have z3 : (9223372036854775807 < (jb ++ out).size + kid.size) = False := eq_false (by rw [ByteArray.size_append]; omega)
        have HO2 := Lib.hid hk2
        clear ho hk2 hsz
        go_wp2_with fail
        go_roundw
        case rel => exact ⟨y + 1, jb ++ out ++ kid, by omega, by go_num, rfl, Lib.hid (by rw [HN.out, HO2.out]), HS8, HX8⟩
        case measure => simp [intOf]; omega
    ·obtain rfl : y = nx.length := by omega
     have hor : out = res := by
      have := HF.out
      rw [HFOLD.out] at this
      injection this with this
      exact this.symm
     subst hor
     have z1 : (9223372036854775807 < nb.size + out.size) = False := eq_false (by omega)
     go_wp2_with fail
     go_ret2
     exact ⟨rfl, HSI.out.below⟩
end Go.Proofs.Ytjffhhalmicodaa.X
end

section
set_option linter.unusedVariables false
set_option linter.unusedSimpArgs false
namespace Go.Proofs.Ytjffhhalmicodaa.X
open Go.RowKit Go.Proofs.G.PrintWords Go.Proofs.G.PrintLast Go.Proofs.G.PrintMore
theorem some_calls {nx mk : List Int} {L : List (List Int)} {T : Nat → Nat → Nat → Option ByteArray} (IH : TellC nx mk L T) (e s t : Nat) (nb jb ob : ByteArray) (turned : Bool) (r : ByteArray) (ok : Bool) (h : someF T nx L (e + 1) s t nb jb ob turned = some (r, ok)) (A0 : Option Addr) (c0 : Nat) (A1 : Option Addr) (c1 : Nat) (AL : Option Addr) (cL : Nat) (w : World) (hr0 : Kd.C (Kd.int .i64) w A0 nx.length nx) (hc0 : nx.length ≤ c0) (hr1 : Kd.C (Kd.int .i64) w A1 mk.length mk) (hc1 : mk.length ≤ c1) (hrL : Kd.C (Kd.slice 3 (Kd.int .i64)) w AL L.length L) (hcL : L.length ≤ cL) :
    Calls Try.prog 84 #[.agg #[.slice A0 nx.length c0, .slice A1 mk.length c1], .slice AL L.length cL, .int .i64 ((e : Int) + 1), .int .i64 s, .int .i64 t, .string nb, .string jb, .string ob, .bool turned] w fun e w' => e = .returned (.tuple #[.string r, .bool ok]) ∧ Below w.heap.size w w' := by
  unfold someF at h
  split at h
  · rename_i hc
    obtain ⟨⟨_, h1⟩, h2, h3, h4, h5, h6, h7, h8⟩ := hc
    rw [Nat.add_sub_cancel] at h2 h
    rcases firstG_spec (goodX nx (L.getD e []) s t) nx.length with ⟨g1, g2⟩ | ⟨x, g1, g2, g3, g4⟩
    · rw [g1] at h
      simp only [Option.some.injEq, Prod.mk.injEq] at h
      obtain ⟨rfl, rfl⟩ := h
      exact some_no nx mk L e s t nb jb ob turned A0 c0 A1 c1 AL cL w hr0 hc0 hr1 hc1 hrL hcL (by omega) h2 h3 h4 h5 h8 g2
    · rw [g1] at h
      obtain ⟨out, ho, h⟩ := Option.bind_eq_some_iff.mp h
      split at h
      · rename_i hs
        simp only [Option.some.injEq, Prod.mk.injEq] at h
        obtain ⟨rfl, rfl⟩ := h
        exact some_yes nx mk L e s t nb jb ob turned A0 c0 A1 c1 AL cL w hr0 hc0 hr1 hc1 hrL hcL (by omega) h2 h3 h4 h5 h8 T IH x g2 g3 g4 out ho h6 h7 hs
      · cases h
  · cases h
def decTo (L : List (List Int)) (s t : Nat) : Nat → Nat
  | 0 => 0
  | d + 1 => if rd (L.getD d []) (s : Int) = rd (L.getD d []) (t : Int) then d + 1 else decTo L s t d
theorem decTo_le (L : List (List Int)) (s t : Nat) : ∀ d, decTo L s t d ≤ d
 | 0 => Nat.le_refl _
 | d + 1 => by
  rw [decTo]
  split
  ·exact Nat.le_refl _
  ·have := decTo_le L s t d
   omega
def bitAt (mk : List Int) (s k : Nat) : Int := bits .and .i64 (rd mk (s : Int) / 2 ^ k) 1
def markF (mk : List Int) (s t : Nat) : Option ByteArray := match firstG (fun k => bitAt mk s k != bitAt mk t k) 4 with
  | none => none
  | some k => if bitAt mk t k < bitAt mk s k then some ⟨#[UInt8.ofNat (48 + k)]⟩ else some (⟨#[45]⟩ ++ ⟨#[UInt8.ofNat (48 + k)]⟩)
def tellF (nx mk : List Int) (L : List (List Int)) (T : Nat → Nat → Nat → Option ByteArray) (d s t : Nat) : Option ByteArray :=
  if (d < L.length) ∧ (∀ j, j < L.length → (L.getD j []).length = nx.length) ∧ s < nx.length ∧ t < nx.length ∧ nx.length ≤ 61 ∧ L.length ≤ 1000 ∧ nx.length ≤ mk.length then
    match decTo L s t d with
    | 0 => markF mk s t
    | e + 1 => (someF T nx L (e + 1) s t ⟨#[60]⟩ ⟨#[38]⟩ ⟨#[116]⟩ false).bind fun p => if p.2 = true then some p.1 else (someF T nx L (e + 1) t s ⟨#[91]⟩ ⟨#[124]⟩ ⟨#[102]⟩ true).bind fun q => some q.1
  else none
def tellK (nx mk : List Int) (L : List (List Int)) : Nat → Nat → Nat → Nat → Option ByteArray
  | 0 => fun _ _ _ => none
  | k + 1 => tellF nx mk L (tellK nx mk L k)
theorem dig_eq {k : Nat} (h : k < 4) : Go.Utf8.encode (48 + (k : Int)) = ⟨#[UInt8.ofNat (48 + k)]⟩ := by
  have : k = 0 ∨ k = 1 ∨ k = 2 ∨ k = 3 := by omega
  rcases this with rfl | rfl | rfl | rfl <;> first | rfl | decide
structure TS (w : World) (gw : Nat) (A0 A1 AL : Option Addr) (c0 c1 : Nat) (nx mk : List Int) (L : List (List Int)) (wr : World) : Prop where
  below : Below w.heap.size w wr
  box : wr.heap[gw]? = some (.cells #[.slice A0 nx.length c0, .slice A1 mk.length c1] 28 (0, 0))
  r0 : Kd.C (Kd.int .i64) wr A0 nx.length nx
  r1 : Kd.C (Kd.int .i64) wr A1 mk.length mk
  rL : Kd.C (Kd.slice 3 (Kd.int .i64)) wr AL L.length L
theorem TS.step {w : World} {gw : Nat} {A0 A1 AL : Option Addr} {c0 c1 : Nat} {nx mk : List Int} {L : List (List Int)} {wr w2 : World} (h : TS w gw A0 A1 AL c0 c1 nx mk L wr) (hb : Below wr.heap.size wr w2) : TS w gw A0 A1 AL c0 c1 nx mk L w2 :=
  ⟨bst h.below hb, blk_below h.box hb, Kd.C_below h.r0 hb, Kd.C_below h.r1 hb, Kd.C_below h.rL hb⟩
theorem TS.reads {w : World} {gw : Nat} {A0 A1 AL : Option Addr} {c0 c1 : Nat} {nx mk : List Int} {L : List (List Int)} {wr : World} (h : TS w gw A0 A1 AL c0 c1 nx mk L wr) : wr.cell? ⟨gw, 0, none⟩ = some (.slice A0 nx.length c0) ∧ wr.cell? ⟨gw, 1, none⟩ = some (.slice A1 mk.length c1) :=
  ⟨(blk_cell h.box 0).trans rfl, (blk_cell h.box 1).trans rfl⟩
set_option maxRecDepth 100000 in
set_option maxHeartbeats 4000000 in
theorem tell_mark (nx mk : List Int) (L : List (List Int)) (d s t : Nat) (r : ByteArray) (A0 : Option Addr) (c0 : Nat) (A1 : Option Addr) (c1 : Nat) (AL : Option Addr) (cL : Nat) (w : World) (hr0 : Kd.C (Kd.int .i64) w A0 nx.length nx) (hc0 : nx.length ≤ c0) (hr1 : Kd.C (Kd.int .i64) w A1 mk.length mk) (hc1 : mk.length ≤ c1) (hrL : Kd.C (Kd.slice 3 (Kd.int .i64)) w AL L.length L) (hcL : L.length ≤ cL)
    (hdL : d < L.length) (hbl : ∀ j, j < L.length → (L.getD j []).length = nx.length) (hs : s < nx.length) (ht : t < nx.length) (h61 : nx.length ≤ 61) (hL : L.length ≤ 1000) (hnm : nx.length ≤ mk.length) (hdec : decTo L s t d = 0) (hmf : markF mk s t = some r) :
    Calls Try.prog 67 #[.agg #[.slice A0 nx.length c0, .slice A1 mk.length c1], .slice AL L.length cL, .int .i64 d, .int .i64 s, .int .i64 t] w fun e w' => e = .returned (.string r) ∧ Below w.heap.size w w' := by
  have hu := Try.underlying28
  obtain ⟨bL, oL, rfl, _⟩ := rows_at hrL (by omega)
  have HBL := Lib.hid hbl
  have HDEC := Lib.hid hdec
  have HMF := Lib.hid hmf
  have HR0 := Lib.hid hr0
  have HR1 := Lib.hid hr1
  have HRL := Lib.hid hrL
  clear hr0 hr1 hrL hbl hdec hmf
  go_enter Try.func67, Try.ntmps67
  go_wp2_with (first | ((with_reducible refine gate_dst (N := 5) rfl ?_); refine box_event ?hg (N := 5) ?hd (cs := #[.slice A0 nx.length c0, .slice A1 mk.length c1]) (t := 28) ?hr ?_; (case hd => rfl); (case hg => rfl); (case hr => first | (go_simp; done) | (go_simp; rfl)); intro gw hgw wa hbw hbb; have HT0 := Lib.hid (show TS w gw A0 A1 (some ⟨bL, oL, none⟩) c0 c1 nx mk L wa from ⟨bst (Below.refl w.heap.size w) hbb, hbw, Kd.C_below HR0.out hbb, Kd.C_below HR1.out hbb, Kd.C_below HRL.out hbb⟩); clear hgw hbw hbb HR0 HR1 HRL) | fail)
  go_loopw [2] (fun v2 wr => ∃ d' : Nat, d' ≤ d ∧ v2 = .int .i64 d' ∧ Hid (decTo L s t d' = decTo L s t d) ∧ Hid (TS w gw A0 A1 (some ⟨bL, oL, none⟩) c0 c1 nx mk L wr)) (fun v2 _ => (intOf v2).toNat)
  case atStart => exact ⟨d, Nat.le_refl _, rfl, Lib.hid rfl, HT0⟩
  case round =>
    clear HT0
    obtain ⟨d', hd', rfl, HD, HT⟩ := hrel
    cases d' with
    | zero =>
      go_wp2_with fail
      go_quiet (fail)
      go_wp2_with fail
      have hm := HMF.out
      unfold markF at hm
      rcases firstG_spec (fun k => bitAt mk s k != bitAt mk t k) 4 with ⟨g1, g2⟩ | ⟨k0, g1, g2, g3, g4⟩
      · rw [g1] at hm
        cases hm
      · rw [g1] at hm
        have HM := Lib.hid (show (if bitAt mk t k0 < bitAt mk s k0 then some (⟨#[UInt8.ofNat (48 + k0)]⟩ : ByteArray) else some (⟨#[45]⟩ ++ ⟨#[UInt8.ofNat (48 + k0)]⟩)) = some r from hm)
        have G3 := Lib.hid (show bitAt mk s k0 ≠ bitAt mk t k0 by simpa using g3)
        have G4 := Lib.hid (show ∀ y, y < k0 → bitAt mk s y = bitAt mk t y from fun y hy => by simpa using g4 y hy)
        clear hm g1 g3 g4 HD
        obtain ⟨wo, rfl⟩ : ∃ wo : World, wo = wr := ⟨_, rfl⟩
        go_loopw [44] (fun v44 wr => ∃ k : Nat, k ≤ k0 ∧ v44 = .int .i64 k ∧ Hid (TS w gw A0 A1 (some ⟨bL, oL, none⟩) c0 c1 nx mk L wr)) (fun v44 _ => 4 - (intOf v44).toNat)
        case atStart => exact ⟨0, by omega, rfl, Lib.hid (HT.out.step (pwd (Below.refl _ _) _))⟩
        case round =>
          clear HT
          obtain ⟨k, hk, rfl, HT⟩ := hrel
          have hk4 : k < 4 := by omega
          obtain ⟨b1, o1, rfl, _, hmc⟩ := ints_at HT.out.r1 (by omega)
          have r0 := HT.out.reads.2
          have r1 := hmc s (by omega)
          have r2 := hmc t (by omega)
          have hsm : (s : Int) < (mk.length : Int) := by omega
          have htm : (t : Int) < (mk.length : Int) := by omega
          clear hmc
          by_cases hk0 : k < k0
          · have he : bits .and .i64 (rd mk (s : Int) / 2 ^ k) 1 = bits .and .i64 (rd mk (t : Int) / 2 ^ k) 1 := G4.out k hk0
            have e1 : decide (bits .and .i64 (rd mk (t : Int) / 2 ^ k) 1 < bits .and .i64 (rd mk (s : Int) / 2 ^ k) 1) = false := decide_eq_false (by omega)
            have e2 : decide (bits .and .i64 (rd mk (s : Int) / 2 ^ k) 1 < bits .and .i64 (rd mk (t : Int) / 2 ^ k) 1) = false := decide_eq_false (by omega)
            clear he
            go_wp2_with fail
            go_quiet (fail)
            go_wp2_with fail
            go_roundw
            case rel => exact ⟨k + 1, by omega, by go_num, Lib.hid (HT.out.step (pwd (Below.refl _ _) _))⟩
            case measure => simp [intOf]; omega
          · obtain rfl : k = k0 := by omega
            by_cases hgt : bitAt mk t k < bitAt mk s k
            · have hm := HM.out
              rw [if_pos hgt] at hm
              injection hm with hm
              subst hm
              have e1 : decide (bits .and .i64 (rd mk (t : Int) / 2 ^ k) 1 < bits .and .i64 (rd mk (s : Int) / 2 ^ k) 1) = true := decide_eq_true hgt
              clear hgt HM
              go_wp2_with fail
              go_quiet (fail)
              go_wp2_with fail
              go_ret
              exact ⟨ret_str (dig_eq hk4), (HT.out.step (pwd (Below.refl _ _) _)).below⟩
            · have hm := HM.out
              rw [if_neg hgt] at hm
              injection hm with hm
              subst hm
              have hlt : bitAt mk s k < bitAt mk t k := by have := G3.out; omega
              have e1 : decide (bits .and .i64 (rd mk (t : Int) / 2 ^ k) 1 < bits .and .i64 (rd mk (s : Int) / 2 ^ k) 1) = false := decide_eq_false hgt
              have e2 : decide (bits .and .i64 (rd mk (s : Int) / 2 ^ k) 1 < bits .and .i64 (rd mk (t : Int) / 2 ^ k) 1) = true := decide_eq_true hlt
              clear hgt hlt HM
              go_wp2_with fail
              go_quiet (fail)
              generalize hD : Go.Utf8.encode (48 + (k : Int)) = D
              have hD2 : D = ⟨#[UInt8.ofNat (48 + k)]⟩ := hD.symm.trans (dig_eq hk4)
              have z1 : (9223372036854775807 < 1 + D.size) = False := eq_false (by rw [hD2, show (⟨#[UInt8.ofNat (48 + k)]⟩ : ByteArray).size = 1 from rfl]; decide)
              have HD2 := Lib.hid hD2
              clear hD hD2
              go_wp2_with fail
              go_ret
              exact ⟨ret_str (by rw [HD2.out]), (HT.out.step (pwd (Below.refl _ _) _)).below⟩
    | succ e =>
      obtain ⟨b', o', e', hLc⟩ := rows_at HT.out.rL (by omega)
      obtain ⟨rfl, rfl⟩ : bL = b' ∧ oL = o' := by injection e' with e'; injection e' with e1 e2; exact ⟨e1, e2⟩
      obtain ⟨A2, c2, q1, q2, q3⟩ := hLc e (by omega)
      have hbe := HBL.out e (by omega)
      have HE := Lib.hid (show rd (L.getD e []) (s : Int) = rd (L.getD e []) (t : Int) → False from fun q => by
        have := HD.out
        rw [decTo, if_pos q] at this
        have h2 := HDEC.out
        omega)
      have HD2 := Lib.hid (show decTo L s t e = decTo L s t d from by
        have := HD.out
        rw [decTo, if_neg HE.out] at this
        exact this)
      generalize L.getD e [] = row at q1 q2 q3 hbe HE
      obtain ⟨b2, o2, rfl, _, hrc⟩ := ints_at q3 (by omega)
      have p1 := hrc s (by omega)
      have p2 := hrc t (by omega)
      have hsr : (s : Int) < (row.length : Int) := by omega
      have htr : (t : Int) < (row.length : Int) := by omega
      have hne : (rd row (s : Int) != rd row (t : Int)) = true := by rw [bne_iff_ne]; exact HE.out
      have hd1 : ((e : Int) + 1 - 1) = (e : Int) := by omega
      clear hrc q3 e' hLc hbe
      go_wp2_with fail
      go_quiet (fail)
      go_wp2_with fail
      go_roundw
      case rel => exact ⟨e, by omega, rfl, HD2, Lib.hid (HT.out.step (pwd (Below.refl _ _) _))⟩
      case measure => simp [intOf]
end Go.Proofs.Ytjffhhalmicodaa.X
end
