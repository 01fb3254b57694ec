/- Texts of this claim, merged by a program (wip/tools/shake.py); what nothing names is left out. -/
import Derived.Test.YtjffhhalmicodaaProg
import Derived.Below
import Derived.Deep.Draws
import Derived.Deep.AppendLies
import Derived.Maps.AppendAt
import Derived.OwnWalk
import Derived.Laws.BytesArg
import Derived.Laws.MakeOwn
import Derived.Laws.OwnMore
import Derived.Deep.OwnRows
import Derived.Tactics
import Derived.Lib.ConvBytes
import Derived.Laws.Slices
import Derived.WalkKit
import Derived.KernelRfl
import Derived.RowKit3
import Derived.Deep.LoopGhost
import Derived.Deep.QuietTactic
import Derived.BigQuiet
import Derived.WideLaws
import Derived.Deep.DeepCutAuto
import Derived.Deep.CutBlock
import Derived.Deep.RegionHeld3
import Derived.Laws.Rows
import Derived.Lib.AppendStr
import Derived.ArgAppend
import Derived.Laws.IdiomCopy
import Derived.OrdersHeld
import Derived.Laws.BitsLemmas
import Derived.RowKit
import Derived.Lib.Hide
import Derived.Outline
import Derived.MapKept
import Derived.Shelf.Small.Strs
import Derived.Shelf.Strings.Search1
import Derived.WalkSpells
import Derived.Test.YtjffhhalmicodaaSdb
namespace Go.Proofs.Ytjffhhalmicodaa
abbrev Mq0 : Array Bool := #[false, false, false, false, false, false, false, false, false, false, false, false, false, false, false, false, false, false, false, false, false, false, false, false, false, false, false, false, false, false, false, false, false, false, false, false, false, false, false, false]
abbrev Mq1 : Array Bool := #[true, false, false, false, false, false, false, false, false, false, false, false, false, false, false, false, false, false, false, false, false, false, false, false, false, false, false, false, false, false, false, false, false, false, false, false, false, false, false, false]
abbrev Mq2 : Array Bool := #[true, true, false, false, false, false, false, false, false, false, false, false, false, false, false, false, false, false, false, false, false, false, false, false, false, false, false, false, false, false, false, false, false, false, false, false, false, false, false, false]
abbrev Mq3 : Array Bool := #[true, true, true, false, false, false, false, false, false, false, false, false, false, false, false, false, false, false, false, false, false, false, false, false, false, false, false, false, false, false, false, false, false, false, false, false, false, false, false, false]
abbrev Mq4 : Array Bool := #[true, true, true, true, false, false, false, false, false, false, false, false, false, false, false, false, false, false, false, false, false, false, false, false, false, false, false, false, false, false, false, false, false, false, false, false, false, false, false, false]
abbrev Mq5 : Array Bool := #[true, true, true, true, true, false, false, false, false, false, false, false, false, false, false, false, false, false, false, false, false, false, false, false, false, false, false, false, false, false, false, false, false, false, false, false, false, false, false, false]
abbrev Mq6 : Array Bool := #[true, true, true, true, true, true, false, false, false, false, false, false, false, false, false, false, false, false, false, false, false, false, false, false, false, false, false, false, false, false, false, false, false, false, false, false, false, false, false, false]
abbrev Mq7 : Array Bool := #[true, true, true, true, true, true, true, false, false, false, false, false, false, false, false, false, false, false, false, false, false, false, false, false, false, false, false, false, false, false, false, false, false, false, false, false, false, false, false, false]
abbrev Mq8 : Array Bool := #[true, true, true, true, true, true, true, true, false, false, false, false, false, false, false, false, false, false, false, false, false, false, false, false, false, false, false, false, false, false, false, false, false, false, false, false, false, false, false, false]
abbrev Mq9 : Array Bool := #[true, true, true, true, true, true, true, true, false, false, true, false, false, false, false, false, false, false, false, false, false, false, false, false, false, false, false, false, false, false, false, false, false, false, false, false, false, false, false, false]
abbrev Mq10 : Array Bool := #[true, true, true, true, true, true, true, true, true, false, true, false, false, false, false, false, false, false, false, false, false, false, false, false, false, false, false, false, false, false, false, false, false, false, false, false, false, false, false, false]
abbrev Mq11 : Array Bool := #[true, true, true, true, true, true, true, true, true, true, true, false, false, false, false, false, false, false, false, false, false, false, false, false, false, false, false, false, false, false, false, false, false, false, false, false, false, false, false, false]
abbrev Mq12 : Array Bool := #[true, true, true, true, true, true, true, true, true, true, true, true, false, false, false, false, false, false, false, false, false, false, false, false, false, false, false, false, false, false, false, false, false, false, false, false, false, false, false, false]
abbrev Mq13 : Array Bool := #[true, true, true, true, true, true, true, true, true, true, true, true, true, false, false, false, false, false, false, false, false, false, false, false, false, false, false, false, false, false, false, false, false, false, false, false, false, false, false, false]
abbrev Mq14 : Array Bool := #[true, true, true, true, true, true, true, true, true, true, true, true, true, true, false, false, false, false, false, false, false, false, false, false, false, false, false, false, false, false, false, false, false, false, false, false, false, false, false, false]
abbrev Mq15 : Array Bool := #[true, true, true, true, true, true, true, true, true, true, true, true, true, true, true, false, false, false, false, false, false, false, false, false, false, false, false, false, false, false, false, false, false, false, false, false, false, false, false, false]
abbrev Mq16 : Array Bool := #[true, true, true, true, true, true, true, true, true, true, true, true, true, true, true, true, false, false, false, false, false, false, false, false, false, false, false, false, false, false, false, false, false, false, false, false, false, false, false, false]
abbrev Mq17 : Array Bool := #[true, true, true, true, true, true, true, true, true, true, true, true, true, true, true, true, true, false, false, false, false, false, false, false, false, false, false, false, false, false, false, false, false, false, false, false, false, false, false, false]
abbrev Mq18 : Array Bool := #[true, true, true, true, true, true, true, true, true, true, true, true, true, true, true, true, true, true, false, false, false, false, false, false, false, false, false, false, false, false, false, false, false, false, false, false, false, false, false, false]
abbrev Mq19 : Array Bool := #[true, true, true, true, true, true, true, true, true, true, true, true, true, true, true, true, true, true, true, false, false, false, false, false, false, false, false, false, false, false, false, false, false, false, false, false, false, false, false, false]
abbrev Mq20 : Array Bool := #[true, true, true, true, true, true, true, true, true, true, true, true, true, true, true, true, true, true, true, true, false, false, false, false, false, false, false, false, false, false, false, false, false, false, false, false, false, false, false, false]
abbrev Mq21 : Array Bool := #[true, true, true, true, true, true, true, true, true, true, true, true, true, true, true, true, true, true, true, true, true, false, false, false, false, false, false, false, false, false, false, false, false, false, false, false, false, false, false, false]
abbrev Mq22 : Array Bool := #[true, true, true, true, true, true, true, true, true, true, true, true, true, true, true, true, true, true, true, true, true, false, false, true, false, false, false, false, false, false, false, false, false, false, false, false, false, false, false, false]
abbrev Mq23 : Array Bool := #[true, true, true, true, true, true, true, true, true, true, true, true, true, true, true, true, true, true, true, true, true, false, false, true, true, false, false, false, false, false, false, false, false, false, false, false, false, false, false, false]
abbrev Mq24 : Array Bool := #[true, true, true, true, true, true, true, true, true, true, true, true, true, true, true, true, true, true, true, true, true, true, false, true, true, false, false, false, false, false, false, false, false, false, false, false, false, false, false, false]
abbrev Mq25 : Array Bool := #[true, true, true, true, true, true, true, true, true, true, true, true, true, true, true, true, true, true, true, true, true, true, true, true, true, false, false, false, false, false, false, false, false, false, false, false, false, false, false, false]
abbrev Mq26 : Array Bool := #[true, true, true, true, true, true, true, true, true, true, true, true, true, true, true, true, true, true, true, true, true, true, true, true, true, true, false, false, false, false, false, false, false, false, false, false, false, false, false, false]
abbrev Mq27 : Array Bool := #[true, true, true, true, true, true, true, true, true, true, true, true, true, true, true, true, true, true, true, true, true, true, true, true, true, true, true, false, false, false, false, false, false, false, false, false, false, false, false, false]
abbrev Mq28 : Array Bool := #[true, true, true, true, true, true, true, true, true, true, true, true, true, true, true, true, true, true, true, true, true, true, true, true, true, true, true, true, false, false, false, false, false, false, false, false, false, false, false, false]
abbrev Mq29 : Array Bool := #[true, true, true, true, true, true, true, true, true, true, true, true, true, true, true, true, true, true, true, true, true, true, true, true, true, true, true, true, true, false, false, false, false, false, false, false, false, false, false, false]
abbrev Mq30 : Array Bool := #[true, true, true, true, true, true, true, true, true, true, true, true, true, true, true, true, true, true, true, true, true, true, true, true, true, true, true, true, true, true, false, false, false, false, false, false, false, false, false, false]
abbrev Mq31 : Array Bool := #[true, true, true, true, true, true, true, true, true, true, true, true, true, true, true, true, true, true, true, true, true, true, true, true, true, true, true, true, true, true, true, false, false, false, false, false, false, false, false, false]
abbrev Mq32 : Array Bool := #[true, true, true, true, true, true, true, true, true, true, true, true, true, true, true, true, true, true, true, true, true, true, true, true, true, true, true, true, true, true, true, true, false, false, false, false, false, false, false, false]
abbrev Mq33 : Array Bool := #[true, true, true, true, true, true, true, true, true, true, true, true, true, true, true, true, true, true, true, true, true, true, true, true, true, true, true, true, true, true, true, true, true, false, false, false, false, false, false, false]
abbrev Mq34 : Array Bool := #[true, true, true, true, true, true, true, true, true, true, true, true, true, true, true, true, true, true, true, true, true, true, true, true, true, true, true, true, true, true, true, true, true, true, false, false, false, false, false, false]
abbrev Mq35 : Array Bool := #[true, true, true, true, true, true, true, true, true, true, true, true, true, true, true, true, true, true, true, true, true, true, true, true, true, true, true, true, true, true, true, true, true, true, true, false, false, false, false, false]
abbrev Mq36 : Array Bool := #[true, true, true, true, true, true, true, true, true, true, true, true, true, true, true, true, true, true, true, true, true, true, true, true, true, true, true, true, true, true, true, true, true, true, true, true, false, false, false, false]
abbrev Mq37 : Array Bool := #[true, true, true, true, true, true, true, true, true, true, true, true, true, true, true, true, true, true, true, true, true, true, true, true, true, true, true, true, true, true, true, true, true, true, true, true, true, false, false, false]
abbrev Mq38 : Array Bool := #[true, true, true, true, true, true, true, true, true, true, true, true, true, true, true, true, true, true, true, true, true, true, true, true, true, true, true, true, true, true, true, true, true, true, true, true, true, true, false, false]
abbrev Mq39 : Array Bool := #[true, true, true, true, true, true, true, true, true, true, true, true, true, true, true, true, true, true, true, true, true, true, true, true, true, true, true, true, true, true, true, true, true, true, true, true, true, true, true, false]
abbrev Mq40 : Array Bool := #[true, true, true, true, true, true, true, true, true, true, true, true, true, true, true, true, true, true, true, true, true, true, true, true, true, true, true, true, true, true, true, true, true, true, true, true, true, true, true, true]
abbrev Mq41 : Array Bool := #[true, true, true, true, true, true, true, true, true, true, true, true, true, true, true, true, true, true, true, true, true, true, false, false, false, false, false, false, false, false, false, false, false, false, false, false, false, false, false, false]
abbrev Mq42 : Array Bool := #[true, true, true, true, true, true, true, true, true, true, true, true, true, true, true, true, true, true, true, true, true, true, true, false, false, false, false, false, false, false, false, false, false, false, false, false, false, false, false, false]
abbrev Mq43 : Array Bool := #[true, true, true, true, true, true, true, true, true, true, true, true, true, true, true, true, true, true, true, true, true, true, true, true, false, false, false, false, false, false, false, false, false, false, false, false, false, false, false, false]
abbrev Mq44 : Array Bool := #[true, true, true, true, true, true, true, true, true, false, false, false, false, false, false, false, false, false, false, false, false, false, false, false, false, false, false, false, false, false, false, false, false, false, false, false, false, false, false, false]
abbrev Mq45 : Array Bool := #[true, true, true, true, true, true, true, true, true, true, false, false, false, false, false, false, false, false, false, false, false, false, false, false, false, false, false, false, false, false, false, false, false, false, false, false, false, false, false, false]
end Go.Proofs.Ytjffhhalmicodaa
section
namespace Go.Proofs.Ytjffhhalmicodaa.X
open Go.RowKit Go.Proofs.G.PrintWords Go.Proofs.G.PrintLast Go.Proofs.G.PrintMore
def errW : Option Int → Value
  | none => .nilIface
  | some c => .iface 0 (.int .i64 c)
theorem errW_none : errW none = .nilIface := rfl
theorem errW_some (c : Int) : errW (some c) = .iface 0 (.int .i64 c) := rfl
theorem ints_at {k : IntKind} {w : World} {A : Option Addr} {n : Nat} {xs : List Int} (h : (Kd.int k).C w A n xs) (hn : 0 < n) :
    ∃ b off, A = some ⟨b, off, none⟩ ∧ b < w.heap.size ∧ ∀ i, i < n → w.cell? ⟨b, off + i, none⟩ = some (.int k (rd xs i)) := by
  obtain ⟨ad, e, hc⟩ := Kd.at_int h 0 (by omega) (by omega)
  have hsp : ad.spot = none := by
    cases hs : ad.spot with
    | none => rfl
    | some q =>
      have : w.cell? ad = some (.int k (rd xs 0)) := by simpa [Addr.add] using hc
      unfold World.cell? at this
      split at this <;> simp [hs] at this
  have hlt := World.block_lt_of_cell? w _ hc
  refine ⟨ad.block, ad.off, ?_, by simpa [Addr.add] using hlt, fun i hi => ?_⟩
  · rw [e, ← hsp]
  · obtain ⟨ad1, e1, h1⟩ := Kd.at_int h i (by omega) (by omega)
    obtain rfl : ad = ad1 := by rw [e] at e1; injection e1
    have : ad.add i = ⟨ad.block, ad.off + i, none⟩ := by
      unfold Addr.add
      split
      · rename_i h0; subst h0; rw [← hsp]; simp
      · rfl
    rw [← this]
    simpa using h1
theorem skip_step {P : Program} {ops : Array Oper} {oi : Oper} {a : Act} {Q : Exit → Act → World → Prop} {K : Act → World → Prop} {W w1 : World} (hw : Region.wanted oi (yielded ops a.tmps) = true) (hrun : (execOp a.eval oi).run P W = .ok .skip w1) (h : K (a.put oi.dst undef) w1) :
    if Region.wanted oi (yielded ops a.tmps) = true then Oper.wp P oi a W K Q else K (a.put none undef) W := by
  rw [if_pos hw]
  unfold Oper.wp
  rw [hrun]
  exact h
theorem alloc_step {P : Program} {ops : Array Oper} {oi : Oper} {N : Option Tmp} {a : Act} {Q : Exit → Act → World → Prop} {K : Act → World → Prop} {W : World} {cs : Array Value} {t : TypeId} (hw : Region.wanted oi (yielded ops a.tmps) = true) (hN : oi.dst = N)
    (hrun : (execOp a.eval oi).run P W = .ok (.value (.pointer (some ⟨W.heap.size, 0, none⟩))) (W.alloc (.cells cs t (0, 0))))
    (h : ∀ g, g = W.heap.size → ∀ w1, w1.heap[g]? = some (.cells cs t (0, 0)) → Below W.heap.size W w1 → K (a.put N (.pointer (some ⟨g, 0, none⟩))) w1) :
    if Region.wanted oi (yielded ops a.tmps) = true then Oper.wp P oi a W K Q else K (a.put N undef) W := by
  subst hN
  rw [if_pos hw]
  unfold Oper.wp
  rw [hrun]
  exact h _ rfl _ (blk_new W _) (below_alloc (Below.refl _ _) _)
theorem cell_set_self {w : World} {p : Addr} {u : Value} (v : Value) (h : w.cell? p = some u) : (w.setCell p v).cell? p = some v := by
 unfold World.cell? at h ⊢
 simp only [World.setCell, Array.getElem?_modify]
 split at h
 ·rename_i c e f hb
  simp only [hb, if_true, Option.map_some]
  split at h
  ·simp at h
  ·rename_i hs
   rw [if_neg hs]
   rw [if_neg hs]
   have := (Array.getElem?_eq_some_iff.1 h).1
   rw [Array.getElem?_setIfInBounds_self_of_lt this]
 ·simp at h
theorem cell_set_other {w : World} {p q : Addr} (v : Value) (hne : q.block ≠ p.block) : (w.setCell p v).cell? q = w.cell? q :=
  World.cell?_of_block (Below.heap_setCell w p v q.block hne)
theorem ret_int {k : IntKind} {a b : Int} (h : a = b) : Ending.returned (.int k a) = .returned (.int k b) := by rw [h]
theorem ret_bool {a b : Bool} (h : a = b) : Ending.returned (.bool a) = .returned (.bool b) := by rw [h]
theorem ret_str {a b : ByteArray} (h : a = b) : Ending.returned (.string a) = .returned (.string b) := by rw [h]
end Go.Proofs.Ytjffhhalmicodaa.X
end

section
set_option linter.unusedVariables false
set_option linter.unusedSimpArgs false
set_option linter.unusedSectionVars false
namespace Go.Proofs.Ytjffhhalmicodaa.X
open Go.RowKit Go.Proofs.G.PrintWords Go.Proofs.G.PrintLast Go.Proofs.G.PrintMore
section
variable {α β : Type} [DecidableEq α]
def findL (l : List (α × β)) (k : α) : Option β := match l with
  | [] => none
  | p :: r => if p.1 = k then some p.2 else findL r k
def putL (l : List (α × β)) (k : α) (v : β) : List (α × β) := match l with
  | [] => [(k, v)]
  | p :: r => if p.1 = k then (k, v) :: r else p :: putL r k v
theorem findL_putL (l : List (α × β)) (k k' : α) (v : β) : findL (putL l k v) k' = if k = k' then some v else findL l k' := by
 induction l with
 | nil => simp [putL, findL]
 | cons p r ih =>
  unfold putL
  split
  ·rename_i h
   subst h
   unfold findL
   simp only
   split <;> rfl
  ·rename_i h
   unfold findL
   split
   ·rename_i h2
    subst h2
    rw [if_neg (fun e => h e.symm)]
   ·exact ih
structure KeyOk (P : Program) (K : TypeId) (enc : α → Value) : Prop where
  inj : ∀ a b, enc a = enc b → a = b
  check : ∀ b k w, (Instr.checkKey b 10000 K (enc k)).run P w = .ok () w
  find : ∀ (k : α) (es : List MapEntry) (l : List α) w, es.map (·.key) = l.map enc → (Instr.findKey K (enc k) es).run P w = .ok ((es[l.findIdx (· = k)]?).map fun e => (l.findIdx (· = k), e.val)) w
  stays : ∀ k w, (Instr.keyThatStays (enc k) (enc k)).run P w = .ok (enc k) w
def IsM (enc : α → Value) (encv : β → Value) (w : World) (r : Nat) (l : List (α × β)) : Prop :=
  ∃ es clock, w.heap[r]? = some (.map es clock) ∧ es.toList.map (fun e => (e.key, e.val)) = l.map fun p => (enc p.1, encv p.2)
def putObj (w : World) (r : Nat) (o : Obj) : World := { w with heap := w.heap.setIfInBounds r o }
theorem putObj_keep (w : World) (r : Nat) (o : Obj) : KeepBut w (putObj w r o) r none :=
  ⟨by simp [putObj], fun i _ hne _ => by simp only [putObj]; exact Array.getElem?_setIfInBounds_ne (Ne.symm hne)⟩
theorem putObj_below {B : Nat} {a w : World} (h : Below B a w) {r : Nat} (hr : B ≤ r) (o : Obj) : Below B a (putObj w r o) :=
  h.trans ⟨rfl, rfl, rfl, by simp [putObj], fun k hk => by simp only [putObj]; exact Array.getElem?_setIfInBounds_ne (by omega)⟩
theorem putObj_at {w : World} {r : Nat} {o o' : Obj} (h : w.heap[r]? = some o') : (putObj w r o).heap[r]? = some o := by
  simp only [putObj]
  exact Array.getElem?_setIfInBounds_self_of_lt (Array.getElem?_eq_some_iff.1 h).1
theorem findIdx_none {l : List (α × β)} {k : α} (h : findL l k = none) : (l.map (·.1)).findIdx (· = k) = l.length := by
 induction l with
 | nil => rfl
 | cons p r ih =>
  unfold findL at h
  split at h
  ·cases h
  ·rename_i hne
   simp only [List.map_cons, List.findIdx_cons, decide_eq_true_eq, hne, decide_false, cond_false, List.length_cons, ih h]
theorem findIdx_some {l : List (α × β)} {k : α} {v : β} (h : findL l k = some v) : l[(l.map (·.1)).findIdx (· = k)]? = some (k, v) ∧ putL l k v = l := by
 induction l with
 | nil => cases h
 | cons p r ih =>
  unfold findL at h
  split at h
  ·rename_i he
   injection h with h
   subst he
   subst h
   simp [List.findIdx_cons, putL]
  ·rename_i hne
   obtain ⟨h1, h2⟩ := ih h
   simp only [List.map_cons, List.findIdx_cons, hne, decide_false, cond_false, List.getElem?_cons_succ, putL, if_false, h1, h2, and_self]
theorem putL_none {l : List (α × β)} {k : α} {v : β} (h : findL l k = none) : putL l k v = l ++ [(k, v)] := by
 induction l with
 | nil => rfl
 | cons p r ih =>
  unfold findL at h
  split at h
  ·cases h
  ·rename_i hne
   simp [putL, hne, ih h]
theorem putL_some {l : List (α × β)} {k : α} {u v : β} (h : findL l k = some u) : putL l k v = l.set ((l.map (·.1)).findIdx (· = k)) (k, v) := by
 induction l with
 | nil => cases h
 | cons p r ih =>
  unfold findL at h
  split at h
  ·rename_i he
   subst he
   simp [putL, List.findIdx_cons]
  ·rename_i hne
   simp [putL, hne, List.findIdx_cons, ih h]
theorem IsM.new (enc : α → Value) (encv : β → Value) (w : World) : IsM enc encv (w.alloc (.map #[] 0)) w.heap.size [] :=
  ⟨#[], 0, (Go.MapKept.heap_alloc w _).1, rfl⟩
theorem IsM.of_heap {enc : α → Value} {encv : β → Value} {w w' : World} {r : Nat} {l : List (α × β)} (h : IsM enc encv w r l) (he : w'.heap[r]? = w.heap[r]?) : IsM enc encv w' r l := by
  obtain ⟨es, clock, hb, hl⟩ := h
  exact ⟨es, clock, he.trans hb, hl⟩
theorem IsM.lt {enc : α → Value} {encv : β → Value} {w : World} {r : Nat} {l : List (α × β)} (h : IsM enc encv w r l) : r < w.heap.size := by
  obtain ⟨es, clock, hb, hl⟩ := h
  exact (Array.getElem?_eq_some_iff.1 hb).1
theorem IsM.below {enc : α → Value} {encv : β → Value} {w w' : World} {r : Nat} {l : List (α × β)} (h : IsM enc encv w r l) (hb : Below w.heap.size w w') : IsM enc encv w' r l :=
  h.of_heap (hb.block r h.lt)
theorem IsM.setCell {enc : α → Value} {encv : β → Value} {w : World} {r : Nat} {l : List (α × β)} (h : IsM enc encv w r l) (p : Addr) (u : Value) : IsM enc encv (w.setCell p u) r l := by
 obtain ⟨es, clock, hb, hl⟩ := h
 refine ⟨es, clock, ?_, hl⟩
 simp only [World.setCell, Array.getElem?_modify]
 split
 ·rename_i e
  subst e
  simp [hb]
 ·exact hb
theorem run_findKey_is {P : Program} {K : TypeId} {enc : α → Value} {encv : β → Value} (hK : KeyOk P K enc) {es : Array MapEntry} {l : List (α × β)} (hl : es.toList.map (fun e => (e.key, e.val)) = l.map fun p => (enc p.1, encv p.2)) (k : α) (w : World) :
    (Instr.findKey K (enc k) es.toList).run P w = .ok ((findL l k).map fun v => ((l.map (·.1)).findIdx (· = k), encv v)) w := by
  have hk : es.toList.map (·.key) = (l.map (·.1)).map enc := by
    have := congrArg (List.map Prod.fst) hl
    simpa [List.map_map, Function.comp_def] using this
  have hv : es.toList.map (·.val) = l.map fun p => encv p.2 := by
    have := congrArg (List.map Prod.snd) hl
    simpa [List.map_map, Function.comp_def] using this
  rw [hK.find k es.toList (l.map (·.1)) w hk]
  congr 1
  cases hf : findL l k with
  | none =>
    have hlen : es.toList.length = l.length := by simpa using congrArg List.length hl
    rw [findIdx_none hf, List.getElem?_eq_none (by omega)]
    rfl
  | some v =>
    obtain ⟨h1, _⟩ := findIdx_some hf
    have h2 : (es.toList.map (·.val))[(l.map (·.1)).findIdx (· = k)]? = some (encv v) := by
      rw [hv, List.getElem?_map, h1]
      rfl
    rw [List.getElem?_map] at h2
    cases he : es.toList[(l.map (·.1)).findIdx (· = k)]? with
    | none => rw [he] at h2; cases h2
    | some e =>
      rw [he] at h2
      simp only [Option.map_some, Option.some.injEq] at h2 ⊢
      rw [h2]
theorem run_lookup_is {P : Program} {t K E : TypeId} {enc : α → Value} {encv : β → Value} (hu : P.underlying t = some (.map K E)) {z : β} (hz : ∀ w, (zeroValue E).run P w = .ok (encv z) w) (hK : KeyOk P K enc) {w : World} {r : Nat} {l : List (α × β)} (h : IsM enc encv w r l) (k : α) (b : Bool) :
    (Instr.lookup t (.map (some r)) (enc k) b).run P w = .ok (if b then .tuple #[encv ((findL l k).getD z), .bool (findL l k).isSome] else encv ((findL l k).getD z)) w := by
  obtain ⟨es, clock, hb, hl⟩ := h
  unfold Instr.lookup
  simp only [Sem.run_bind, run_underlying hu, Result.andThen, getObj, Sem.run, hb, Sem.run_pure, hK.check, run_findKey_is hK hl]
  cases hf : findL l k with
  | none => simp [hz, Result.andThen]
  | some v => simp [Result.andThen]
theorem run_update_is {P : Program} {t K E : TypeId} {enc : α → Value} {encv : β → Value} (hu : P.underlying t = some (.map K E)) (hK : KeyOk P K enc) {w : World} {r : Nat} {l : List (α × β)} (h : IsM enc encv w r l) (k : α) (v : β) :
    ∃ o, (Instr.mapUpdate t (.map (some r)) (enc k) (encv v)).run P w = .ok () (putObj w r o) ∧ IsM enc encv (putObj w r o) r (putL l k v) := by
  obtain ⟨es, clock, hb, hl⟩ := h
  have hlen : es.toList.length = l.length := by simpa using congrArg List.length hl
  cases hf : findL l k with
  | none =>
    refine ⟨.map (es.push { key := enc k, val := encv v, born := clock }) (clock + 1), ?_, _, _, putObj_at hb, ?_⟩
    · unfold Instr.mapUpdate
      simp only [Sem.run_bind, run_underlying hu, Result.andThen, getObj, Sem.run, hb, Sem.run_pure, hK.check, run_findKey_is hK hl, hf, Option.map_none]
      exact Go.MapKept.run_setObj_map _ hb
    · rw [putL_none hf]
      simp [hl]
  | some u =>
    obtain ⟨h1, _⟩ := findIdx_some hf
    have hidx : (l.map (·.1)).findIdx (· = k) < es.size := by
      have := (List.getElem?_eq_some_iff.1 h1).1
      have h2 : es.size = es.toList.length := rfl
      omega
    have hkey : ((es[(l.map (·.1)).findIdx (· = k)]?).map (·.key)).getD (enc k) = enc k := by
      have h3 : (es.toList.map fun e => (e.key, e.val))[(l.map (·.1)).findIdx (· = k)]? = some (enc k, encv u) := by
        rw [hl, List.getElem?_map, h1]
        rfl
      rw [List.getElem?_map] at h3
      rw [← Array.getElem?_toList]
      cases he : es.toList[(l.map (·.1)).findIdx (· = k)]? with
      | none => rw [he] at h3; cases h3
      | some e =>
        rw [he] at h3
        simp only [Option.map_some, Option.some.injEq, Prod.mk.injEq] at h3
        simp [h3.1]
    refine ⟨.map (es.modify ((l.map (·.1)).findIdx (· = k)) fun e => { e with key := enc k, val := encv v }) clock, ?_, _, _, putObj_at hb, ?_⟩
    · unfold Instr.mapUpdate
      simp only [Sem.run_bind, run_underlying hu, Result.andThen, getObj, Sem.run, hb, Sem.run_pure, hK.check, run_findKey_is hK hl, hf, Option.map_some, hkey, hK.stays]
      exact Go.MapKept.run_setObj_map _ hb
    · rw [putL_some hf, List.map_set, ← hl]
      clear hkey hlen hl h1
      generalize (l.map (·.1)).findIdx (· = k) = ix at hidx ⊢
      simp only [Array.toList_modify]
      apply List.ext_getElem?
      intro j
      simp only [List.getElem?_map, List.getElem?_modify, List.getElem?_set]
      by_cases hj : ix = j
      · subst hj
        have : es.toList[ix]? = some (es.toList[ix]'(by simpa using hidx)) := List.getElem?_eq_getElem _
        rw [this]
        simp [hidx]
      · simp [hj]
omit [DecidableEq α] in
theorem IsM.mk' {enc : α → Value} {encv : β → Value} {w : World} {r : Nat} {l : List (α × β)} {es clock} (hb : w.heap[r]? = some (.map es clock)) (hl : es.toList.map (fun e => (e.key, e.val)) = l.map fun p => (enc p.1, encv p.2)) : IsM enc encv w r l := ⟨es, clock, hb, hl⟩
end
theorem findNow_of {d : TypeDesc} {α : Type} [DecidableEq α] {enc : α → Value} (hs : ∀ a b, Instr.sameNow d (enc a) (enc b) = some (decide (a = b))) (k : α) : ∀ (es : List MapEntry) (l : List α) (i : Nat), es.map (·.key) = l.map enc →
    Instr.findNow d (enc k) es i = some ((es[l.findIdx (· = k)]?).map fun e => (i + l.findIdx (· = k), e.val))
  | [], [], i, _ => rfl
  | [], _ :: _, _, h => by simp at h
  | _ :: _, [], _, h => by simp at h
  | e :: es, a :: l, i, h => by
    simp only [List.map_cons, List.cons.injEq] at h
    unfold Instr.findNow
    rw [h.1, hs]
    by_cases hk : k = a
    · subst hk
      simp [List.findIdx_cons]
    · have hk' : ¬ a = k := fun e => hk e.symm
      simp only [hk, decide_false, List.findIdx_cons, hk', cond_false, List.getElem?_cons_succ]
      rw [findNow_of hs k es l (i + 1) h.2]
      congr 2
      funext e
      congr 1
      omega
theorem keyOk_int {P : Program} {K : TypeId} {kd : IntKind} (hu : P.underlying K = some (.int kd)) : KeyOk P K (Value.int kd) where
 inj := fun a b h => by injection h
 check := fun b k w => Go.MapKept.run_checkKey hu (show Go.MapKept.IsKey (.int kd) (.int kd k) from rfl) b 9999
 find := fun k es l w h => by
  have := Go.MapKept.run_findKey (P := P) (w := w) hu (findNow_of (d := .int kd) (enc := Value.int kd) (fun a b => by simp only [Instr.sameNow, if_true]; congr 1) k es l 0 h)
  simpa using this
 stays := fun k w => by simp [Instr.keyThatStays, Instr.sameBits]
section
variable {P : Program} {ops : Array Oper} {rest : List Oper} {o : Oper} {a : Act} {Q : Exit → Act → World → Prop} {W : World} {α β : Type} [DecidableEq α] {enc : α → Value} {encv : β → Value}
theorem gate_op {op : Op} (_ho : o.op = op) (h : wpList P ops Q (o :: rest) a W) : wpList P ops Q (o :: rest) a W := h
theorem map_make_event (hgd : o.guard = none) (t : TypeId) (ho : o.op = .makeMap t none)
    (h : ∀ r w1, r = W.heap.size → w1.heap[r]? = some (.map #[] 0) → Below W.heap.size W w1 → wpList P ops Q rest (a.put o.dst (.map (some r))) w1) : wpList P ops Q (o :: rest) a W := by
  refine Kd.event_run hgd (w1 := W.alloc (.map #[] 0)) (v := .map (some W.heap.size)) ?_ (h _ _ rfl (Go.MapKept.heap_alloc W _).1 (below_alloc (Below.refl _ _) _))
  unfold execOp
  simp only [ho, Option.map_none]
  rfl
theorem map_put_event (hgd : o.guard = none) (t : TypeId) (m k x : Operand) (ho : o.op = .insert t m k x ∨ o.op = .mapUpdate t m k x) {K E : TypeId} (hu : P.underlying t = some (.map K E)) (hK : KeyOk P K enc) {r : Nat} {l : List (α × β)} (kk : α) (xx : β)
    (hm : a.eval m = .map (some r)) (hk : a.eval k = enc kk) (hx : a.eval x = encv xx) (hM : IsM enc encv W r l)
    (h : ∀ w1, IsM enc encv w1 r (putL l kk xx) → KeepBut W w1 r none → (∀ B u, Below B u W → B ≤ r → Below B u w1) → wpList P ops Q rest (a.put o.dst undef) w1) : wpList P ops Q (o :: rest) a W := by
  obtain ⟨ob, h1, h2⟩ := run_update_is hu hK hM kk xx
  refine wpList_plain hgd fun Kc hKc => ?_
  have hrun : (execOp a.eval o).run P W = .ok .skip (putObj W r ob) := by
    unfold execOp
    rcases ho with ho | ho <;> simp [ho, hm, hk, hx, h1, Result.andThen]
  unfold Oper.wp
  rw [hrun]
  exact hKc _ _ (h _ h2 (putObj_keep W r ob) (fun B u hb hr => putObj_below hb hr ob))
theorem map_get_event (hgd : o.guard = none) (t : TypeId) (m k : Operand) (b : Bool) (ho : o.op = .lookup t m k b) {K E : TypeId} (hu : P.underlying t = some (.map K E)) {z : β} (hz : ∀ w, (zeroValue E).run P w = .ok (encv z) w) (hK : KeyOk P K enc) {r : Nat} {l : List (α × β)} (kk : α)
    (hm : a.eval m = .map (some r)) (hk : a.eval k = enc kk) (hM : IsM enc encv W r l)
    (h : wpList P ops Q rest (a.put o.dst (if b then .tuple #[encv ((findL l kk).getD z), .bool (findL l kk).isSome] else encv ((findL l kk).getD z))) W) : wpList P ops Q (o :: rest) a W := by
  refine Kd.event_run hgd ?_ h
  unfold execOp
  simp [ho, hm, hk, run_lookup_is hu hz hK hM kk b, Result.andThen]
end
end Go.Proofs.Ytjffhhalmicodaa.X
end

section
namespace Go.Proofs.Ytjffhhalmicodaa.X
open Go.Shelf
def Try.lays137_ren : Go.Shelf.Ren := ⟨fun | 137 => 88 | 217 => 92 | 266 => 93 | n => n, fun | 9 => 9 | 5 => 5 | 3 => 3 | n => n, fun | n => n⟩
theorem Try.lays137 : Go.Proofs.Lays.n137 Try.prog Try.lays137_ren := {
 mixed := by kernel_rfl
 f137 := Try.func88.trans (congrArg some (by kernel_rfl))
 f217 := Try.func92.trans (congrArg some (by kernel_rfl))
 f266 := Try.func93.trans (congrArg some (by kernel_rfl))
 t3 := Try.underlying3
 a3 := Try.isAgg3
 z3 := Try.sizeOf3
 v3 := Try.zeroValue3
 t5 := Try.underlying5
 a5 := Try.isAgg5
 z5 := Try.sizeOf5
 v5 := Try.zeroValue5
 t9 := Try.underlying9
 a9 := Try.isAgg9
 z9 := Try.sizeOf9
 v9 := Try.zeroValue9 }
open Go.RowKit in
theorem Try.strings_IndexByte (s : ByteArray) (c : Int) (w : World) :
    Calls Try.prog 88 #[.string s, .int .u8 c] w fun e w' => e = .returned (.int .i64 (Lib.indexByte s.data.toList c.toNat.toUInt8)) ∧ w' = w := Any.strings_IndexByte Try.lays137 s c w
end Go.Proofs.Ytjffhhalmicodaa.X
end

section
namespace Go.Proofs.Ytjffhhalmicodaa.X
open Go.RowKit Go.Proofs.G.PrintWords Go.Proofs.G.PrintLast Go.Proofs.G.PrintMore
attribute [local go_sem] max2_int min2_int max_two min_two
def minTo (l : List Int) : Nat → Int
  | 0 => rd l 0
  | n + 1 => mn (minTo l n) (rd l ((n : Int) + 1))
def maxTo (l : List Int) : Nat → Int
  | 0 => rd l 0
  | n + 1 => mx (maxTo l n) (rd l ((n : Int) + 1))
set_option maxHeartbeats 1000000 in
theorem Min_calls (A : Option Addr) (c : Nat) (l : List Int) (w : World) (hr : Kd.C (Kd.int .i64) w A l.length l) (hl : 0 < l.length) :
    Calls Try.prog 77 #[.slice A l.length c] w fun e w' => e = .returned (.int .i64 (minTo l (l.length - 1))) ∧ w' = w := by
  have hlen := hr.2.1
  obtain ⟨b, off, rfl, hlt, hc⟩ := ints_at hr hl
  have h0 := hc 0 hl
  simp only [Nat.add_zero, Int.natCast_zero] at h0
  have hd : decide ((l.length : Int) < 1) = false := decide_eq_false (by omega)
  have hd' : decide (l.length < 1) = false := decide_eq_false (by omega)
  have HC := Lib.hid hc; clear hc hr
  go_enter Try.func77, Try.ntmps77
  go_wp2_with fail
  go_loop [3, 4] (fun v i => ∃ k : Nat, k < l.length ∧ i = .int .i64 ((k : Int) + 1) ∧ v = .int .i64 (minTo l k)) (fun _ i => l.length - (intOf i).toNat)
  case atStart => exact ⟨0, by omega, rfl, rfl⟩
  case round =>
    obtain ⟨k, hk, rfl, rfl⟩ := hrel
    by_cases hlt : k + 1 < l.length
    · have h1 := HC.out (k + 1) hlt
      clear h0
      go_wp2
      all_goals
        go_round
        case rel => exact ⟨k + 1, by omega, by go_num, by first | (simp only [minTo, mn]; done) | (simp only [minTo, mn]; split <;> first | rfl | omega)⟩
        case measure => simp [intOf]; omega
    · go_wp2
      go_ret
      exact ⟨ret_int (by rw [show l.length - 1 = k by omega]), rfl⟩
set_option maxHeartbeats 1000000 in
theorem Max_calls (A : Option Addr) (c : Nat) (l : List Int) (w : World) (hr : Kd.C (Kd.int .i64) w A l.length l) (hl : 0 < l.length) :
    Calls Try.prog 63 #[.slice A l.length c] w fun e w' => e = .returned (.int .i64 (maxTo l (l.length - 1))) ∧ w' = w := by
  have hlen := hr.2.1
  obtain ⟨b, off, rfl, hlt, hc⟩ := ints_at hr hl
  have h0 := hc 0 hl
  simp only [Nat.add_zero, Int.natCast_zero] at h0
  have hd : decide ((l.length : Int) < 1) = false := decide_eq_false (by omega)
  have hd' : decide (l.length < 1) = false := decide_eq_false (by omega)
  have HC := Lib.hid hc; clear hc hr
  go_enter Try.func63, Try.ntmps63
  go_wp2_with fail
  go_loop [3, 4] (fun v i => ∃ k : Nat, k < l.length ∧ i = .int .i64 ((k : Int) + 1) ∧ v = .int .i64 (maxTo l k)) (fun _ i => l.length - (intOf i).toNat)
  case atStart => exact ⟨0, by omega, rfl, rfl⟩
  case round =>
    obtain ⟨k, hk, rfl, rfl⟩ := hrel
    by_cases hlt : k + 1 < l.length
    · have h1 := HC.out (k + 1) hlt
      clear h0
      go_wp2
      all_goals
        go_round
        case rel => exact ⟨k + 1, by omega, by go_num, by first | (simp only [maxTo, mx]; done) | (simp only [maxTo, mx]; split <;> first | rfl | omega)⟩
        case measure => simp [intOf]; omega
    · go_wp2
      go_ret
      exact ⟨ret_int (by rw [show l.length - 1 = k by omega]), rfl⟩
def slices_Min.f (l : List Int) : Option Int := if 0 < l.length then some (minTo l (l.length - 1)) else none
theorem slices_Min.calls (A0 : Option Addr) (c0 : Nat) (l0 : List Int) (r : Int) (w : World) (hr0 : Kd.C (Kd.int .i64) w A0 l0.length l0) (_hc0 : l0.length ≤ c0) (h : slices_Min.f l0 = some r) :
    Calls Try.prog 77 #[.slice A0 l0.length c0] w fun e w' => e = .returned (.int .i64 r) ∧ Drawn0 w w' := by
  unfold slices_Min.f at h
  split at h
  · rename_i hl
    obtain rfl := Option.some.inj h
    exact (Min_calls A0 c0 l0 w hr0 hl).mono fun _ _ ⟨a, b⟩ => ⟨a, b ▸ Drawn0.refl _⟩
  · simp at h
def slices_Max.f (l : List Int) : Option Int := if 0 < l.length then some (maxTo l (l.length - 1)) else none
theorem slices_Max.calls (A0 : Option Addr) (c0 : Nat) (l0 : List Int) (r : Int) (w : World) (hr0 : Kd.C (Kd.int .i64) w A0 l0.length l0) (_hc0 : l0.length ≤ c0) (h : slices_Max.f l0 = some r) :
    Calls Try.prog 63 #[.slice A0 l0.length c0] w fun e w' => e = .returned (.int .i64 r) ∧ Drawn0 w w' := by
  unfold slices_Max.f at h
  split at h
  · rename_i hl
    obtain rfl := Option.some.inj h
    exact (Max_calls A0 c0 l0 w hr0 hl).mono fun _ _ ⟨a, b⟩ => ⟨a, b ▸ Drawn0.refl _⟩
  · simp at h
end Go.Proofs.Ytjffhhalmicodaa.X
end

section
namespace Go.Proofs.Ytjffhhalmicodaa.X
open Go.RowKit Go.Proofs.G.PrintWords Go.Proofs.G.PrintLast Go.Proofs.G.PrintMore
theorem info3 : (Try.prog.info? 3).map (fun i => (i.zero, i.size, i.bytes)) = some (some (.int .i64 0), 1, 8) := by kernel_rfl
theorem R_none_lit (w : World) : Kd.R (Kd.int .i64) 3 (w.alloc (.cells #[] 3)) w.heap.size (fun _ => True) (.slice (some ⟨w.heap.size, 0, none⟩) 0 0) [] :=
  ⟨fun _ _ => trivial, OwnRow.lit (ps := ([] : List Int)) (inner := []) w w.heap.size (Reps.none _ _) (Nat.le_refl _) (by simp)⟩
def slices_Clone.f (l : List Int) : Option (List Int) := if l.length < 17592186044416 then some l else none
set_option maxHeartbeats 1000000 in
theorem slices_Clone.calls (A0 : Option Addr) (c0 : Nat) (l0 : List Int) (r : List Int) (w : World) (hr0 : Kd.C (Kd.int .i64) w A0 l0.length l0) (_hc0 : l0.length ≤ c0) (h : slices_Clone.f l0 = some r) :
    Calls Try.prog 74 #[.slice A0 l0.length c0] w fun e w' => ∃ v0_ : Value, e = .returned (v0_) ∧ Kd.R (Kd.int .i64) 3 w' w.heap.size (fun _ => True) v0_ r ∧ Below w.heap.size w w' := by
  unfold slices_Clone.f at h
  split at h
  · rename_i hl
    obtain rfl := Option.some.inj h
    clear h
    cases A0 with
    | none =>
      have hn : l0 = [] := by
        cases l0 with
        | nil => rfl
        | cons a l =>
          obtain ⟨ad, e, _⟩ := Kd.at_int hr0 0 (by omega) (by simp)
          cases e
      subst hn
      have hx := fun w : World => Lib.run_eql_slice_nil (P := Try.prog) w 22 3 none 0 c0 0 0 Try.underlying22
      clear hr0
      go_enter Try.func74, Try.ntmps74
      go_wp2
      go_ret
      exact ⟨_, rfl, Kd.R_nil _ _ _ _ _, Below.refl _ _⟩
    | some ad =>
      have hx := fun w : World => Lib.run_eql_slice_nil (P := Try.prog) w 22 3 (some ad) l0.length c0 0 0 Try.underlying22
      have HR := Lib.hid hr0; clear hr0
      go_enter Try.func74, Try.ntmps74
      go_wp2_with (first | (at_builtin; refine Kd.R_append_row (Value.int .i64) 0 (h1 := fun _ => rfl) (w0 := w) w.heap.size rfl (.tmp 5) (.tmp 6) 22 3 (.int .i64 0) 8 rfl Try.underlying22 info3 rfl (by decide) (.slice (some ⟨w.heap.size, 0, none⟩) 0 0) [] l0 (some ad) l0.length c0 (fun _ => True) rfl rfl (fun _ _ => trivial) (R_none_lit w) (Kd.C_below HR.out (below_alloc (Below.refl _ _) _)) (below_alloc (Below.refl _ _) _) (by simp) (by simp; omega) ?_; intro v1 w1 hv hb hg _; have HV := Lib.hid hv; clear hv))
      go_ret
      exact ⟨_, rfl, HV.out, hb⟩
  · simp at h
end Go.Proofs.Ytjffhhalmicodaa.X
end

section
namespace Go.Proofs.Ytjffhhalmicodaa.PA
open Go.RowKit Go.Proofs.G.PrintWords Go.Proofs.G.PrintLast Go.Proofs.G.PrintMore
attribute [local go_sem] max2_int min2_int max_two min_two max_three min_three max_four min_four
set_option linter.unusedVariables false
set_option linter.unusedSimpArgs false
def errW : Option Int → Value
  | none => .nilIface
  | some c => .iface 0 (.int .i64 c)
theorem errW_none : errW none = .nilIface := rfl
theorem errW_some (c : Int) : errW (some c) = .iface 0 (.int .i64 c) := rfl
theorem info3 : (Try.prog.info? 3).map (fun i => (i.zero, i.size, i.bytes)) = some (some (.int .i64 0), 1, 8) := by kernel_rfl
end Go.Proofs.Ytjffhhalmicodaa.PA
end

section
namespace Go.Proofs.Ytjffhhalmicodaa.PA
open Go.RowKit Go.Proofs.G.PrintWords Go.Proofs.G.PrintLast Go.Proofs.G.PrintMore
attribute [local go_sem] max2_int min2_int max_two min_two max_three min_three max_four min_four
set_option linter.unusedVariables false
set_option linter.unusedSimpArgs false
def fixes_Works_valid.f (l0_0 : List Int) (l0_1 : List Int) : Option (Bool) := if (l0_0.length : Int) ≥ 1 then (if (l0_0.length : Int) ≤ 6 then (if (l0_1.length : Int) = (l0_0.length : Int) then ((X.slices_Min.f l0_0).bind fun t102 => (if t102 ≥ 0 then ((X.slices_Max.f l0_0).bind fun t103 => (if t103 < (shl .i64 1 (l0_0.length : Int)) then ((X.slices_Min.f l0_1).bind fun t104 => (if t104 ≥ 0 then ((X.slices_Max.f l0_1).bind fun t105 => (some (decide (t105 < 16)))) else (some false))) else (some false))) else (some false))) else (some false)) else (some false)) else (some false)
def fixes_Works_valid.T2 : Bool × List (List Nat × List Nat) := (true, [([], []), ([0], [0]), ([1], [1]), ([2], [2]), ([3, 2], [2, 3]), ([2, 4], [2, 4]), ([5, 2], [5]), ([6], [6]), ([7, 6], [6, 7]), ([8, 6], [6, 8]), ([6], [6]), ([9, 10, 6], [6, 9, 10]), ([6, 11], [6, 11]), ([12, 6], [12]), ([13], [13]), ([14, 13], [13, 14]), ([15, 13, 13], [13, 15]), ([16, 13], [13, 16]), ([13, 17], [13, 17]), ([18, 16], [18]), ([19], [19]), ([20, 19], [19, 20]), ([21, 19, 19], [19, 21]), ([19], [19]), ([23, 19], [19, 23]), ([22, 24, 19], [19, 22, 24]), ([19, 25], [19, 25]), ([26, 22], [26]), ([27], [27]), ([28, 27], [27, 28]), ([29, 27, 27], [27, 29]), ([30, 27], [27, 30]), ([27, 31], [27, 31]), ([32, 30], [32]), ([33], [33]), ([34, 33], [33, 34]), ([35, 33, 33], [33, 35]), ([36, 33], [33, 36]), ([33, 37], [33, 37]), ([38, 36, 0, 1, 2, 3, 4, 5, 6, 7, 8, 9, 10, 11, 12, 13, 14, 15, 16, 17, 18, 19, 20, 21, 22, 23, 24, 25, 26, 27, 28, 29, 30, 31, 32, 33, 34, 35, 36, 37, 38], [38])])
def fixes_Works_valid.B2 : List Nat := [0, 1, 3, 7, 15, 31, 63, 127, 255, 511, 127, 2047, 4095, 8191, 16383, 32767, 65535, 131071, 262143, 524287, 1048575, 2097151, 4194303, 1048575, 9437183, 33554431, 67108863, 134217727, 268435455, 536870911, 1073741823, 2147483647, 4294967295, 8589934591, 17179869183, 34359738367, 68719476735, 137438953471, 274877906943, 549755813887]
theorem fixes_Works_valid.tab2 : rtab .any (opsOf Try.f61 2) = fixes_Works_valid.T2 := by kernel_rfl
theorem fixes_Works_valid.bits2 : waitsOk fixes_Works_valid.T2.2 fixes_Works_valid.B2 = true := by kernel_rfl
set_option maxHeartbeats 8000000 in
set_option maxRecDepth 100000 in
theorem fixes_Works_valid.calls (A0_0 : Option Addr) (c0_0 : Nat) (l0_0 : List Int) (A0_1 : Option Addr) (c0_1 : Nat) (l0_1 : List Int) (r : Bool) (w : World) (hr0_0 : Kd.C (Kd.int .i64) w A0_0 l0_0.length l0_0) (hc0_0 : l0_0.length ≤ c0_0) (hr0_1 : Kd.C (Kd.int .i64) w A0_1 l0_1.length l0_1) (hc0_1 : l0_1.length ≤ c0_1) (h : fixes_Works_valid.f l0_0 l0_1 = some r) :
  Calls Try.prog 61 #[.agg #[.slice A0_0 l0_0.length c0_0, .slice A0_1 l0_1.length c0_1]] w fun e w' => e = .returned (.bool r) ∧ Below w.heap.size w w' := by
 have hu28 := Try.underlying28
 have HR0_0 := As0.mk hr0_0
 have HC0_0 := As0.mk hc0_0
 clear hr0_0 hc0_0
 have HR0_1 := As0.mk hr0_1
 have HC0_1 := As0.mk hc0_1
 clear hr0_1 hc0_1
 have HB := As0.mk (Below.refl w.heap.size w)
 have H : (if (l0_0.length : Int) ≥ 1 then (if (l0_0.length : Int) ≤ 6 then (if (l0_1.length : Int) = (l0_0.length : Int) then ((X.slices_Min.f l0_0).bind fun t102 => (if t102 ≥ 0 then ((X.slices_Max.f l0_0).bind fun t103 => (if t103 < (shl .i64 1 (l0_0.length : Int)) then ((X.slices_Min.f l0_1).bind fun t104 => (if t104 ≥ 0 then ((X.slices_Max.f l0_1).bind fun t105 => (some (decide (t105 < 16)))) else (some false))) else (some false))) else (some false))) else (some false)) else (some false)) else (some false)) = some r := h
 clear h
 by_cases c2 : (l0_0.length : Int) ≥ 1
 ·rw [if_pos c2] at H
  have c2b0 : decide (1 ≤ (l0_0.length : Int)) = true := decide_eq_true c2
  have c2b1 : decide (1 ≤ l0_0.length) = true := decide_eq_true (by omega)
  clear c2
  by_cases c3 : (l0_0.length : Int) ≤ 6
  ·rw [if_pos c3] at H
   have c3b0 : decide ((l0_0.length : Int) ≤ 6) = true := decide_eq_true c3
   have c3b1 : decide (l0_0.length ≤ 6) = true := decide_eq_true (by omega)
   clear c3
   by_cases c4 : (l0_1.length : Int) = (l0_0.length : Int)
   ·rw [if_pos c4] at H
    have c4b0 : ((l0_1.length : Int) == (l0_0.length : Int)) = true := beq_iff_eq.mpr c4
    have c4b1 : ((l0_1.length : Int) != (l0_0.length : Int)) = false := bne_eq_false_iff_eq.mpr c4
    have c4b2 : (l0_1.length == l0_0.length) = true := by first | simpa using c4 | (simp at c4 ⊢; omega)
    clear c4
    replace H := Option.bind_eq_some_iff.mp H
    obtain ⟨t102, A50, H⟩ := H
    replace H : (if t102 ≥ 0 then ((X.slices_Max.f l0_0).bind fun t103 => (if t103 < (shl .i64 1 (l0_0.length : Int)) then ((X.slices_Min.f l0_1).bind fun t104 => (if t104 ≥ 0 then ((X.slices_Max.f l0_1).bind fun t105 => (some (decide (t105 < 16)))) else (some false))) else (some false))) else (some false)) = some r := H
    have A5 := As0.mk A50
    clear A50
    by_cases c6 : t102 ≥ 0
    ·rw [if_pos c6] at H
     have c6b0 : decide (0 ≤ t102) = true := decide_eq_true c6
     clear c6
     replace H := Option.bind_eq_some_iff.mp H
     obtain ⟨t103, A70, H⟩ := H
     replace H : (if t103 < (shl .i64 1 (l0_0.length : Int)) then ((X.slices_Min.f l0_1).bind fun t104 => (if t104 ≥ 0 then ((X.slices_Max.f l0_1).bind fun t105 => (some (decide (t105 < 16)))) else (some false))) else (some false)) = some r := H
     have A7 := As0.mk A70
     clear A70
     obtain ⟨ji8, hji8⟩ : ∃ j_ : Int, (shl .i64 1 (l0_0.length : Int)) = j_ := ⟨_, rfl⟩
     replace H : (if t103 < (ji8) then ((X.slices_Min.f l0_1).bind fun t104 => (if t104 ≥ 0 then ((X.slices_Max.f l0_1).bind fun t105 => (some (decide (t105 < 16)))) else (some false))) else (some false)) = some r := by first | (rw [hji8] at H; exact H) | (simp only [hji8] at H ⊢; exact H)
     (try rw [hji8] at A5)
     (try rw [hji8] at A7)
     have hji8_ : (IntKind.i64.wrap (1 * 2 ^ min (l0_0.length : Int).toNat 64)) = ji8 := hji8
     have hji8z : (l0_0.length : Int) ≤ 64 → (IntKind.i64.wrap (1 * 2 ^ (l0_0.length : Int).toNat)) = ji8 := shl_small hji8
     have hji8p : (IntKind.i64.wrap (1 * 2 ^ min l0_0.length 64)) = ji8 := hji8_
     have hji8q : (l0_0.length : Int) ≤ 64 → (IntKind.i64.wrap (1 * 2 ^ l0_0.length)) = ji8 := hji8z
     have hji8r : (IntKind.i64.wrap (2 ^ min l0_0.length 64)) = ji8 := by have h_ := hji8p; rw [Int.one_mul] at h_; exact h_
     have hji8s : (l0_0.length : Int) ≤ 64 → (IntKind.i64.wrap (2 ^ l0_0.length)) = ji8 := fun hle_ => by have h_ := hji8q hle_; rw [Int.one_mul] at h_; exact h_
     have hji8u : (IntKind.i64.wrap (2 ^ min (l0_0.length : Int).toNat 64)) = ji8 := by have h_ := hji8_; rw [Int.one_mul] at h_; exact h_
     have hji8v : (l0_0.length : Int) ≤ 64 → (IntKind.i64.wrap (2 ^ (l0_0.length : Int).toNat)) = ji8 := fun hle_ => by have h_ := hji8z hle_; rw [Int.one_mul] at h_; exact h_
     have hji8y : (wrap64 (1 * 2 ^ min (l0_0.length : Int).toNat 64)) = ji8 := (i64_w _).symm.trans hji8_
     have hji8x : (l0_0.length : Int) ≤ 64 → (wrap64 (1 * 2 ^ (l0_0.length : Int).toNat)) = ji8 := fun h_ => (i64_w _).symm.trans (hji8z h_)
     by_cases c9 : t103 < (ji8)
     ·rw [if_pos c9] at H
      have c9b0 : decide (t103 < (ji8)) = true := decide_eq_true c9
      clear c9
      replace H := Option.bind_eq_some_iff.mp H
      obtain ⟨t104, A100, H⟩ := H
      replace H : (if t104 ≥ 0 then ((X.slices_Max.f l0_1).bind fun t105 => (some (decide (t105 < 16)))) else (some false)) = some r := H
      have A10 := As0.mk A100
      clear A100
      by_cases c11 : t104 ≥ 0
      ·rw [if_pos c11] at H
       have c11b0 : decide (0 ≤ t104) = true := decide_eq_true c11
       clear c11
       replace H := Option.bind_eq_some_iff.mp H
       obtain ⟨t105, A120, H⟩ := H
       replace H : (some (decide (t105 < 16))) = some r := H
       have A12 := As0.mk A120
       clear A120
       obtain rfl := Option.some.inj H
       go_enter Try.func61, Try.ntmps61
       try go_wp2_with (first | ((with_reducible refine gate_dst (N := 1) rfl ?_); (try (refine gate_guard (by rfl) ?_; dsimp only)); refine box_event ?hg (N := 1) ?hd (cs := #[.slice A0_0 l0_0.length c0_0, .slice A0_1 l0_1.length c0_1]) (t := 28) ?hr ?_; (case hd => rfl); (case hg => rfl); (case hr => first | (go_simp; done) | (go_simp; rfl)); intro gb101 hg w13 hbox hb; have n0_ := As0.mk (bst (by repeat (first | (with_reducible first | exact HB.out | apply below_alloc | apply pwd | apply bd1) | exact HB.out)) hb); have n1_ := As0.mk (hbox); have n2_ := As0.mk ((by rw [hg]; exact (below_size (by repeat (first | (with_reducible first | exact HB.out | apply below_alloc | apply pwd | apply bd1) | exact HB.out))) : w.heap.size ≤ gb101)); have n3_ := As0.mk ((by rw [hg]; exact (below_size (by repeat (first | (with_reducible first | exact HB.out | apply below_alloc | apply pwd | apply bd1) | exact HB.out))) : w.heap.size ≤ gb101)); clear HB; have HB := n0_; have BK101 := n1_; have GW101 := n2_; have GE101 := n3_; clear n0_ n1_ n2_ n3_; clear hb hbox hg; have hcz14_0 : w13.cell? ⟨gb101, 0, none⟩ = some (.slice A0_0 l0_0.length c0_0) := (blk_cell BK101.out 0).trans rfl; have hcz14_1 : w13.cell? ⟨gb101, 1, none⟩ = some (.slice A0_1 l0_1.length c0_1) := (blk_cell BK101.out 1).trans rfl; have hfz14_0 := blk_frozen BK101.out 0; have hfz14_1 := blk_frozen BK101.out 1))
       have n0_ := As0.mk (blk_drew BK101.out)
       have n1_ := As0.mk (bd1 HB.out)
       clear BK101
       clear HB
       have BK101 := n0_
       have HB := n1_
       clear n0_ n1_
       refine start_ (n := 40) (S := fun w' => w'.cell? ⟨gb101, 0, none⟩ = some (.slice A0_0 l0_0.length c0_0) ∧ w'.cell? ⟨gb101, 1, none⟩ = some (.slice A0_1 l0_1.length c0_1)) (ds := []) Mq0 (by kernel_rfl) rfl rfl ⟨(blk_cell BK101.out 0).trans rfl, (blk_cell BK101.out 1).trans rfl⟩ (fun hHeld => ?_); refine with_tabW fixes_Works_valid.tab2 fixes_Works_valid.bits2 (fun HT_ HW_ => ?_)
       generalize w13.drew = w15 at BK101 HB hHeld ⊢
       refine pw (v := ?_) (a' := ?_) 0 (some 7) Mq1 HT_.out ?_ ?_ ?_
       rotate_left;(intro w';go_simp;with_reducible rfl);rotate_left;(simp only [Act.put, sq];rfl)
       refine pw (v := ?_) (a' := ?_) 1 (some 8) Mq2 HT_.out ?_ ?_ ?_
       rotate_left;(intro w';go_simp;with_reducible rfl);rotate_left;(simp only [Act.put, sq];rfl)
       refine pw (v := ?_) (a' := ?_) 2 (some 9) Mq3 HT_.out ?_ ?_ ?_
       rotate_left;(intro w';go_simp;with_reducible rfl);rotate_left;(simp only [Act.put, sq];rfl)
       refine pw (v := ?_) (a' := ?_) 3 (some 10) Mq4 HT_.out ?_ ?_ ?_
       rotate_left;(intro w';go_simp;with_reducible rfl);rotate_left;(simp only [Act.put, sq];rfl)
       refine pw (v := ?_) (a' := ?_) 4 (some 11) Mq5 HT_.out ?_ ?_ ?_
       rotate_left;(intro w';go_simp;with_reducible rfl);rotate_left;(simp only [Act.put, sq];rfl)
       refine pw (v := ?_) (a' := ?_) 5 (some 12) Mq6 HT_.out ?_ ?_ ?_
       rotate_left;(intro w';go_simp;with_reducible rfl);rotate_left;(simp only [Act.put, sq];rfl)
       refine pw (v := ?_) (a' := ?_) 6 (some 13) Mq7 HT_.out ?_ ?_ ?_
       rotate_left;(intro w';go_simp;with_reducible rfl);rotate_left;(simp only [Act.put, sq];rfl)
       refine pw (v := ?_) (a' := ?_) 7 (some 14) Mq8 HT_.out ?_ ?_ ?_
       rotate_left;(intro w';go_simp;with_reducible rfl);rotate_left;(simp only [Act.put, sq];rfl)
       refine pw (v := ?_) (a' := ?_) 10 (some 17) Mq9 HT_.out ?_ ?_ ?_
       rotate_left;(intro w';go_simp;with_reducible rfl);rotate_left;(simp only [Act.put, sq];rfl)
       refine tw (v := ?_) (a' := ?_) 8 (some 15) Mq10 HT_.out HW_.out ?_ hHeld ?_ ?_
       rotate_left
       ·rintro w' ⟨s0, s1⟩
        go_simp
        with_reducible rfl
       rotate_left
       ·simp only [Act.put, sq]
        rfl
       refine pw (v := ?_) (a' := ?_) 9 (some 16) Mq11 HT_.out ?_ ?_ ?_
       rotate_left;(intro w';go_simp;with_reducible rfl);rotate_left;(simp only [Act.put, sq];rfl)
       refine pw (v := ?_) (a' := ?_) 11 (some 18) Mq12 HT_.out ?_ ?_ ?_
       rotate_left;(intro w';go_simp;with_reducible rfl);rotate_left;(simp only [Act.put, sq];rfl)
       refine pw (v := ?_) (a' := ?_) 12 (some 19) Mq13 HT_.out ?_ ?_ ?_
       rotate_left;(intro w';go_simp;with_reducible rfl);rotate_left;(simp only [Act.put, sq];rfl)
       refine pw (v := ?_) (a' := ?_) 13 (some 20) Mq14 HT_.out ?_ ?_ ?_
       rotate_left;(intro w';go_simp;with_reducible rfl);rotate_left;(simp only [Act.put, sq];rfl)
       refine pw (v := ?_) (a' := ?_) 14 (some 21) Mq15 HT_.out ?_ ?_ ?_
       rotate_left;(intro w';go_simp;with_reducible rfl);rotate_left;(simp only [Act.put, sq];rfl)
       refine tw (v := ?_) (a' := ?_) 15 (some 22) Mq16 HT_.out HW_.out ?_ hHeld ?_ ?_
       rotate_left
       ·rintro w' ⟨s0, s1⟩
        go_simp
        with_reducible rfl
       rotate_left
       ·simp only [Act.put, sq]
        rfl
       refine one_ (i := 16) (N := some 23) Mq17 rfl rfl (one_of HT_.out (by kernel_rfl)) (by decide) (fun K hK => ?_)
       refine goes_ Try.func77 (by kernel_rfl) rfl #[.slice A0_0 l0_0.length c0_0] (by rfl) rfl rfl (by (try simp only [sm]); first | done | rfl | (simp only [List.length_drop, List.length_take]; rfl)) ?_
       with_reducible refine (X.slices_Min.calls _ _ l0_0 t102 _ ?side1 ?side2 A5.out).mono ?_
       (case side1 => repeat (first | exact (Kd.C_below HR0_0.out HB.out) | (with_reducible refine Kd.C_alloc ?_ _) | (with_reducible refine Kd.C_drewN ?_ _) | (with_reducible refine Kd.C_drew ?_)))
       (case side2 => exact HC0_0.out)
       rintro e w' ⟨rfl, ⟨nd, rfl⟩⟩
       refine ⟨_, rfl, ?_⟩
       refine hK.out _ _ ⟨(blk_cell BK101.out 0).trans rfl, (blk_cell BK101.out 1).trans rfl⟩ (fun hHeld => ?_)
       clear hK K
       refine norm_ (a' := ?_) ?_ ?_
       rotate_left
       ·show Act.put _ (some 23) _ = _
        simp only [Act.put, sq]
        rfl
       refine pw (v := ?_) (a' := ?_) 17 (some 24) Mq18 HT_.out ?_ ?_ ?_
       rotate_left;(intro w';go_simp;with_reducible rfl);rotate_left;(simp only [Act.put, sq];rfl)
       refine pw (v := ?_) (a' := ?_) 18 (some 25) Mq19 HT_.out ?_ ?_ ?_
       rotate_left;(intro w';go_simp;with_reducible rfl);rotate_left;(simp only [Act.put, sq];rfl)
       refine pw (v := ?_) (a' := ?_) 19 (some 26) Mq20 HT_.out ?_ ?_ ?_
       rotate_left;(intro w';go_simp;with_reducible rfl);rotate_left;(simp only [Act.put, sq];rfl)
       refine pw (v := ?_) (a' := ?_) 20 (some 27) Mq21 HT_.out ?_ ?_ ?_
       rotate_left;(intro w';go_simp;with_reducible rfl);rotate_left;(simp only [Act.put, sq];rfl)
       refine pw (v := ?_) (a' := ?_) 23 (some 30) Mq22 HT_.out ?_ ?_ ?_
       rotate_left;(intro w';go_simp;with_reducible rfl);rotate_left;(simp only [Act.put, sq];rfl)
       refine pw (v := ?_) (a' := ?_) 24 (some 31) Mq23 HT_.out ?_ ?_ ?_
       rotate_left;(intro w';go_simp;with_reducible rfl);rotate_left;(simp only [Act.put, sq];rfl)
       refine tw (v := ?_) (a' := ?_) 21 (some 28) Mq24 HT_.out HW_.out ?_ hHeld ?_ ?_
       rotate_left
       ·rintro w' ⟨s0, s1⟩
        go_simp
        with_reducible rfl
       rotate_left
       ·simp only [Act.put, sq]
        rfl
       refine one_ (i := 22) (N := some 29) Mq25 rfl rfl (one_of HT_.out (by kernel_rfl)) (by decide) (fun K hK => ?_)
       refine goes_ Try.func63 (by kernel_rfl) rfl #[.slice A0_0 l0_0.length c0_0] (by rfl) rfl rfl (by (try simp only [sm]); first | done | rfl | (simp only [List.length_drop, List.length_take]; rfl)) ?_
       with_reducible refine (X.slices_Max.calls _ _ l0_0 t103 _ ?side1 ?side2 A7.out).mono ?_
       (case side1 => repeat (first | exact (Kd.C_below HR0_0.out (by repeat (first | (with_reducible first | exact HB.out | apply below_alloc | apply pwd | apply bd1 | refine below_set ?_ GE101.out) | exact HB.out))) | (with_reducible refine Kd.C_alloc ?_ _) | (with_reducible refine Kd.C_drewN ?_ _) | (with_reducible refine Kd.C_drew ?_)))
       (case side2 => exact HC0_0.out)
       rintro e w' ⟨rfl, ⟨nd, rfl⟩⟩
       refine ⟨_, rfl, ?_⟩
       refine hK.out _ _ ⟨(blk_cell BK101.out 0).trans rfl, (blk_cell BK101.out 1).trans rfl⟩ (fun hHeld => ?_)
       clear hK K
       refine norm_ (a' := ?_) ?_ ?_
       rotate_left
       ·show Act.put _ (some 29) _ = _
        simp only [Act.put, sq]
        rfl
       refine pw (v := ?_) (a' := ?_) 25 (some 32) Mq26 HT_.out ?_ ?_ ?_
       rotate_left;(intro w';go_simp;with_reducible rfl);rotate_left;(simp only [Act.put, sq];rfl)
       refine pw (v := ?_) (a' := ?_) 26 (some 33) Mq27 HT_.out ?_ ?_ ?_
       rotate_left;(intro w';go_simp;with_reducible rfl);rotate_left;(simp only [Act.put, sq];rfl)
       refine pw (v := ?_) (a' := ?_) 27 (some 34) Mq28 HT_.out ?_ ?_ ?_
       rotate_left;(intro w';go_simp;with_reducible rfl);rotate_left;(simp only [Act.put, sq];rfl)
       refine pw (v := ?_) (a' := ?_) 28 (some 35) Mq29 HT_.out ?_ ?_ ?_
       rotate_left;(intro w';go_simp;with_reducible rfl);rotate_left;(simp only [Act.put, sq];rfl)
       refine tw (v := ?_) (a' := ?_) 29 (some 36) Mq30 HT_.out HW_.out ?_ hHeld ?_ ?_
       rotate_left
       ·rintro w' ⟨s0, s1⟩
        go_simp
        with_reducible rfl
       rotate_left
       ·simp only [Act.put, sq]
        rfl
       refine one_ (i := 30) (N := some 37) Mq31 rfl rfl (one_of HT_.out (by kernel_rfl)) (by decide) (fun K hK => ?_)
       refine goes_ Try.func77 (by kernel_rfl) rfl #[.slice A0_1 l0_1.length c0_1] (by rfl) rfl rfl (by (try simp only [sm]); first | done | rfl | (simp only [List.length_drop, List.length_take]; rfl)) ?_
       with_reducible refine (X.slices_Min.calls _ _ l0_1 t104 _ ?side1 ?side2 A10.out).mono ?_
       (case side1 => repeat (first | exact (Kd.C_below HR0_1.out (by repeat (first | (with_reducible first | exact HB.out | apply below_alloc | apply pwd | apply bd1 | refine below_set ?_ GE101.out) | exact HB.out))) | (with_reducible refine Kd.C_alloc ?_ _) | (with_reducible refine Kd.C_drewN ?_ _) | (with_reducible refine Kd.C_drew ?_)))
       (case side2 => exact HC0_1.out)
       rintro e w' ⟨rfl, ⟨nd, rfl⟩⟩
       refine ⟨_, rfl, ?_⟩
       refine hK.out _ _ ⟨(blk_cell BK101.out 0).trans rfl, (blk_cell BK101.out 1).trans rfl⟩ (fun hHeld => ?_)
       clear hK K
       refine norm_ (a' := ?_) ?_ ?_
       rotate_left
       ·show Act.put _ (some 37) _ = _
        simp only [Act.put, sq]
        rfl
       refine pw (v := ?_) (a' := ?_) 31 (some 38) Mq32 HT_.out ?_ ?_ ?_
       rotate_left;(intro w';go_simp;with_reducible rfl);rotate_left;(simp only [Act.put, sq];rfl)
       refine pw (v := ?_) (a' := ?_) 32 (some 39) Mq33 HT_.out ?_ ?_ ?_
       rotate_left;(intro w';go_simp;with_reducible rfl);rotate_left;(simp only [Act.put, sq];rfl)
       refine pw (v := ?_) (a' := ?_) 33 (some 40) Mq34 HT_.out ?_ ?_ ?_
       rotate_left;(intro w';go_simp;with_reducible rfl);rotate_left;(simp only [Act.put, sq];rfl)
       refine pw (v := ?_) (a' := ?_) 34 (some 41) Mq35 HT_.out ?_ ?_ ?_
       rotate_left;(intro w';go_simp;with_reducible rfl);rotate_left;(simp only [Act.put, sq];rfl)
       refine tw (v := ?_) (a' := ?_) 35 (some 42) Mq36 HT_.out HW_.out ?_ hHeld ?_ ?_
       rotate_left
       ·rintro w' ⟨s0, s1⟩
        go_simp
        with_reducible rfl
       rotate_left
       ·simp only [Act.put, sq]
        rfl
       refine one_ (i := 36) (N := some 43) Mq37 rfl rfl (one_of HT_.out (by kernel_rfl)) (by decide) (fun K hK => ?_)
       refine goes_ Try.func63 (by kernel_rfl) rfl #[.slice A0_1 l0_1.length c0_1] (by rfl) rfl rfl (by (try simp only [sm]); first | done | rfl | (simp only [List.length_drop, List.length_take]; rfl)) ?_
       with_reducible refine (X.slices_Max.calls _ _ l0_1 t105 _ ?side1 ?side2 A12.out).mono ?_
       (case side1 => repeat (first | exact (Kd.C_below HR0_1.out (by repeat (first | (with_reducible first | exact HB.out | apply below_alloc | apply pwd | apply bd1 | refine below_set ?_ GE101.out) | exact HB.out))) | (with_reducible refine Kd.C_alloc ?_ _) | (with_reducible refine Kd.C_drewN ?_ _) | (with_reducible refine Kd.C_drew ?_)))
       (case side2 => exact HC0_1.out)
       rintro e w' ⟨rfl, ⟨nd, rfl⟩⟩
       refine ⟨_, rfl, ?_⟩
       refine hK.out _ _ ⟨(blk_cell BK101.out 0).trans rfl, (blk_cell BK101.out 1).trans rfl⟩ (fun hHeld => ?_)
       clear hK K
       refine norm_ (a' := ?_) ?_ ?_
       rotate_left
       ·show Act.put _ (some 43) _ = _
        simp only [Act.put, sq]
        rfl
       refine pw (v := ?_) (a' := ?_) 37 (some 44) Mq38 HT_.out ?_ ?_ ?_
       rotate_left;(intro w';go_simp;with_reducible rfl);rotate_left;(simp only [Act.put, sq];rfl)
       refine pw (v := ?_) (a' := ?_) 38 (some 45) Mq39 HT_.out ?_ ?_ ?_
       rotate_left;(intro w';go_simp;with_reducible rfl);rotate_left;(simp only [Act.put, sq];rfl)
       refine pw (v := ?_) (a' := ?_) 39 (some 2) Mq40 HT_.out ?_ ?_ ?_
       rotate_left;(intro w';go_simp;with_reducible rfl);rotate_left;(simp only [Act.put, sq];rfl)
       refine done_ (done_of HT_.out (by kernel_rfl)) ?_
       try go_wp2
       go_ret
       exact ⟨by first | rfl | (simp [errW_none, errW_some] <;> rfl) | (simp only [← hji8]; first | rfl | (simp [errW_none, errW_some] <;> rfl)) | (simp [*, errW_none, errW_some] <;> rfl), by repeat (first | (with_reducible first | exact HB.out | apply below_alloc | apply pwd | apply bd1 | refine below_set ?_ GE101.out) | exact HB.out)⟩
      ·rw [if_neg c11] at H
       have c11b0 : decide (0 ≤ t104) = false := decide_eq_false c11
       clear c11
       obtain rfl := Option.some.inj H
       go_enter Try.func61, Try.ntmps61
       try go_wp2_with (first | ((with_reducible refine gate_dst (N := 1) rfl ?_); (try (refine gate_guard (by rfl) ?_; dsimp only)); refine box_event ?hg (N := 1) ?hd (cs := #[.slice A0_0 l0_0.length c0_0, .slice A0_1 l0_1.length c0_1]) (t := 28) ?hr ?_; (case hd => rfl); (case hg => rfl); (case hr => first | (go_simp; done) | (go_simp; rfl)); intro gb101 hg w16 hbox hb; have n0_ := As0.mk (bst (by repeat (first | (with_reducible first | exact HB.out | apply below_alloc | apply pwd | apply bd1) | exact HB.out)) hb); have n1_ := As0.mk (hbox); have n2_ := As0.mk ((by rw [hg]; exact (below_size (by repeat (first | (with_reducible first | exact HB.out | apply below_alloc | apply pwd | apply bd1) | exact HB.out))) : w.heap.size ≤ gb101)); have n3_ := As0.mk ((by rw [hg]; exact (below_size (by repeat (first | (with_reducible first | exact HB.out | apply below_alloc | apply pwd | apply bd1) | exact HB.out))) : w.heap.size ≤ gb101)); clear HB; have HB := n0_; have BK101 := n1_; have GW101 := n2_; have GE101 := n3_; clear n0_ n1_ n2_ n3_; clear hb hbox hg; have hcz17_0 : w16.cell? ⟨gb101, 0, none⟩ = some (.slice A0_0 l0_0.length c0_0) := (blk_cell BK101.out 0).trans rfl; have hcz17_1 : w16.cell? ⟨gb101, 1, none⟩ = some (.slice A0_1 l0_1.length c0_1) := (blk_cell BK101.out 1).trans rfl; have hfz17_0 := blk_frozen BK101.out 0; have hfz17_1 := blk_frozen BK101.out 1))
       have n0_ := As0.mk (blk_drew BK101.out)
       have n1_ := As0.mk (bd1 HB.out)
       clear BK101
       clear HB
       have BK101 := n0_
       have HB := n1_
       clear n0_ n1_
       refine start_ (n := 40) (S := fun w' => w'.cell? ⟨gb101, 0, none⟩ = some (.slice A0_0 l0_0.length c0_0) ∧ w'.cell? ⟨gb101, 1, none⟩ = some (.slice A0_1 l0_1.length c0_1)) (ds := []) Mq0 (by kernel_rfl) rfl rfl ⟨(blk_cell BK101.out 0).trans rfl, (blk_cell BK101.out 1).trans rfl⟩ (fun hHeld => ?_); refine with_tabW fixes_Works_valid.tab2 fixes_Works_valid.bits2 (fun HT_ HW_ => ?_)
       generalize w16.drew = w18 at BK101 HB hHeld ⊢
       refine pw (v := ?_) (a' := ?_) 0 (some 7) Mq1 HT_.out ?_ ?_ ?_
       rotate_left;(intro w';go_simp;with_reducible rfl);rotate_left;(simp only [Act.put, sq];rfl)
       refine pw (v := ?_) (a' := ?_) 1 (some 8) Mq2 HT_.out ?_ ?_ ?_
       rotate_left;(intro w';go_simp;with_reducible rfl);rotate_left;(simp only [Act.put, sq];rfl)
       refine pw (v := ?_) (a' := ?_) 2 (some 9) Mq3 HT_.out ?_ ?_ ?_
       rotate_left;(intro w';go_simp;with_reducible rfl);rotate_left;(simp only [Act.put, sq];rfl)
       refine pw (v := ?_) (a' := ?_) 3 (some 10) Mq4 HT_.out ?_ ?_ ?_
       rotate_left;(intro w';go_simp;with_reducible rfl);rotate_left;(simp only [Act.put, sq];rfl)
       refine pw (v := ?_) (a' := ?_) 4 (some 11) Mq5 HT_.out ?_ ?_ ?_
       rotate_left;(intro w';go_simp;with_reducible rfl);rotate_left;(simp only [Act.put, sq];rfl)
       refine pw (v := ?_) (a' := ?_) 5 (some 12) Mq6 HT_.out ?_ ?_ ?_
       rotate_left;(intro w';go_simp;with_reducible rfl);rotate_left;(simp only [Act.put, sq];rfl)
       refine pw (v := ?_) (a' := ?_) 6 (some 13) Mq7 HT_.out ?_ ?_ ?_
       rotate_left;(intro w';go_simp;with_reducible rfl);rotate_left;(simp only [Act.put, sq];rfl)
       refine pw (v := ?_) (a' := ?_) 7 (some 14) Mq8 HT_.out ?_ ?_ ?_
       rotate_left;(intro w';go_simp;with_reducible rfl);rotate_left;(simp only [Act.put, sq];rfl)
       refine pw (v := ?_) (a' := ?_) 10 (some 17) Mq9 HT_.out ?_ ?_ ?_
       rotate_left;(intro w';go_simp;with_reducible rfl);rotate_left;(simp only [Act.put, sq];rfl)
       refine tw (v := ?_) (a' := ?_) 8 (some 15) Mq10 HT_.out HW_.out ?_ hHeld ?_ ?_
       rotate_left
       ·rintro w' ⟨s0, s1⟩
        go_simp
        with_reducible rfl
       rotate_left
       ·simp only [Act.put, sq]
        rfl
       refine pw (v := ?_) (a' := ?_) 9 (some 16) Mq11 HT_.out ?_ ?_ ?_
       rotate_left;(intro w';go_simp;with_reducible rfl);rotate_left;(simp only [Act.put, sq];rfl)
       refine pw (v := ?_) (a' := ?_) 11 (some 18) Mq12 HT_.out ?_ ?_ ?_
       rotate_left;(intro w';go_simp;with_reducible rfl);rotate_left;(simp only [Act.put, sq];rfl)
       refine pw (v := ?_) (a' := ?_) 12 (some 19) Mq13 HT_.out ?_ ?_ ?_
       rotate_left;(intro w';go_simp;with_reducible rfl);rotate_left;(simp only [Act.put, sq];rfl)
       refine pw (v := ?_) (a' := ?_) 13 (some 20) Mq14 HT_.out ?_ ?_ ?_
       rotate_left;(intro w';go_simp;with_reducible rfl);rotate_left;(simp only [Act.put, sq];rfl)
       refine pw (v := ?_) (a' := ?_) 14 (some 21) Mq15 HT_.out ?_ ?_ ?_
       rotate_left;(intro w';go_simp;with_reducible rfl);rotate_left;(simp only [Act.put, sq];rfl)
       refine tw (v := ?_) (a' := ?_) 15 (some 22) Mq16 HT_.out HW_.out ?_ hHeld ?_ ?_
       rotate_left
       ·rintro w' ⟨s0, s1⟩
        go_simp
        with_reducible rfl
       rotate_left
       ·simp only [Act.put, sq]
        rfl
       refine one_ (i := 16) (N := some 23) Mq17 rfl rfl (one_of HT_.out (by kernel_rfl)) (by decide) (fun K hK => ?_)
       refine goes_ Try.func77 (by kernel_rfl) rfl #[.slice A0_0 l0_0.length c0_0] (by rfl) rfl rfl (by (try simp only [sm]); first | done | rfl | (simp only [List.length_drop, List.length_take]; rfl)) ?_
       with_reducible refine (X.slices_Min.calls _ _ l0_0 t102 _ ?side1 ?side2 A5.out).mono ?_
       (case side1 => repeat (first | exact (Kd.C_below HR0_0.out HB.out) | (with_reducible refine Kd.C_alloc ?_ _) | (with_reducible refine Kd.C_drewN ?_ _) | (with_reducible refine Kd.C_drew ?_)))
       (case side2 => exact HC0_0.out)
       rintro e w' ⟨rfl, ⟨nd, rfl⟩⟩
       refine ⟨_, rfl, ?_⟩
       refine hK.out _ _ ⟨(blk_cell BK101.out 0).trans rfl, (blk_cell BK101.out 1).trans rfl⟩ (fun hHeld => ?_)
       clear hK K
       refine norm_ (a' := ?_) ?_ ?_
       rotate_left
       ·show Act.put _ (some 23) _ = _
        simp only [Act.put, sq]
        rfl
       refine pw (v := ?_) (a' := ?_) 17 (some 24) Mq18 HT_.out ?_ ?_ ?_
       rotate_left;(intro w';go_simp;with_reducible rfl);rotate_left;(simp only [Act.put, sq];rfl)
       refine pw (v := ?_) (a' := ?_) 18 (some 25) Mq19 HT_.out ?_ ?_ ?_
       rotate_left;(intro w';go_simp;with_reducible rfl);rotate_left;(simp only [Act.put, sq];rfl)
       refine pw (v := ?_) (a' := ?_) 19 (some 26) Mq20 HT_.out ?_ ?_ ?_
       rotate_left;(intro w';go_simp;with_reducible rfl);rotate_left;(simp only [Act.put, sq];rfl)
       refine pw (v := ?_) (a' := ?_) 20 (some 27) Mq21 HT_.out ?_ ?_ ?_
       rotate_left;(intro w';go_simp;with_reducible rfl);rotate_left;(simp only [Act.put, sq];rfl)
       refine pw (v := ?_) (a' := ?_) 23 (some 30) Mq22 HT_.out ?_ ?_ ?_
       rotate_left;(intro w';go_simp;with_reducible rfl);rotate_left;(simp only [Act.put, sq];rfl)
       refine pw (v := ?_) (a' := ?_) 24 (some 31) Mq23 HT_.out ?_ ?_ ?_
       rotate_left;(intro w';go_simp;with_reducible rfl);rotate_left;(simp only [Act.put, sq];rfl)
       refine tw (v := ?_) (a' := ?_) 21 (some 28) Mq24 HT_.out HW_.out ?_ hHeld ?_ ?_
       rotate_left
       ·rintro w' ⟨s0, s1⟩
        go_simp
        with_reducible rfl
       rotate_left
       ·simp only [Act.put, sq]
        rfl
       refine one_ (i := 22) (N := some 29) Mq25 rfl rfl (one_of HT_.out (by kernel_rfl)) (by decide) (fun K hK => ?_)
       refine goes_ Try.func63 (by kernel_rfl) rfl #[.slice A0_0 l0_0.length c0_0] (by rfl) rfl rfl (by (try simp only [sm]); first | done | rfl | (simp only [List.length_drop, List.length_take]; rfl)) ?_
       with_reducible refine (X.slices_Max.calls _ _ l0_0 t103 _ ?side1 ?side2 A7.out).mono ?_
       (case side1 => repeat (first | exact (Kd.C_below HR0_0.out (by repeat (first | (with_reducible first | exact HB.out | apply below_alloc | apply pwd | apply bd1 | refine below_set ?_ GE101.out) | exact HB.out))) | (with_reducible refine Kd.C_alloc ?_ _) | (with_reducible refine Kd.C_drewN ?_ _) | (with_reducible refine Kd.C_drew ?_)))
       (case side2 => exact HC0_0.out)
       rintro e w' ⟨rfl, ⟨nd, rfl⟩⟩
       refine ⟨_, rfl, ?_⟩
       refine hK.out _ _ ⟨(blk_cell BK101.out 0).trans rfl, (blk_cell BK101.out 1).trans rfl⟩ (fun hHeld => ?_)
       clear hK K
       refine norm_ (a' := ?_) ?_ ?_
       rotate_left
       ·show Act.put _ (some 29) _ = _
        simp only [Act.put, sq]
        rfl
       refine pw (v := ?_) (a' := ?_) 25 (some 32) Mq26 HT_.out ?_ ?_ ?_
       rotate_left;(intro w';go_simp;with_reducible rfl);rotate_left;(simp only [Act.put, sq];rfl)
       refine pw (v := ?_) (a' := ?_) 26 (some 33) Mq27 HT_.out ?_ ?_ ?_
       rotate_left;(intro w';go_simp;with_reducible rfl);rotate_left;(simp only [Act.put, sq];rfl)
       refine pw (v := ?_) (a' := ?_) 27 (some 34) Mq28 HT_.out ?_ ?_ ?_
       rotate_left;(intro w';go_simp;with_reducible rfl);rotate_left;(simp only [Act.put, sq];rfl)
       refine pw (v := ?_) (a' := ?_) 28 (some 35) Mq29 HT_.out ?_ ?_ ?_
       rotate_left;(intro w';go_simp;with_reducible rfl);rotate_left;(simp only [Act.put, sq];rfl)
       refine tw (v := ?_) (a' := ?_) 29 (some 36) Mq30 HT_.out HW_.out ?_ hHeld ?_ ?_
       rotate_left
       ·rintro w' ⟨s0, s1⟩
        go_simp
        with_reducible rfl
       rotate_left
       ·simp only [Act.put, sq]
        rfl
       refine one_ (i := 30) (N := some 37) Mq31 rfl rfl (one_of HT_.out (by kernel_rfl)) (by decide) (fun K hK => ?_)
       refine goes_ Try.func77 (by kernel_rfl) rfl #[.slice A0_1 l0_1.length c0_1] (by rfl) rfl rfl (by (try simp only [sm]); first | done | rfl | (simp only [List.length_drop, List.length_take]; rfl)) ?_
       with_reducible refine (X.slices_Min.calls _ _ l0_1 t104 _ ?side1 ?side2 A10.out).mono ?_
       (case side1 => repeat (first | exact (Kd.C_below HR0_1.out (by repeat (first | (with_reducible first | exact HB.out | apply below_alloc | apply pwd | apply bd1 | refine below_set ?_ GE101.out) | exact HB.out))) | (with_reducible refine Kd.C_alloc ?_ _) | (with_reducible refine Kd.C_drewN ?_ _) | (with_reducible refine Kd.C_drew ?_)))
       (case side2 => exact HC0_1.out)
       rintro e w' ⟨rfl, ⟨nd, rfl⟩⟩
       refine ⟨_, rfl, ?_⟩
       refine hK.out _ _ ⟨(blk_cell BK101.out 0).trans rfl, (blk_cell BK101.out 1).trans rfl⟩ (fun hHeld => ?_)
       clear hK K
       refine norm_ (a' := ?_) ?_ ?_
       rotate_left
       ·show Act.put _ (some 37) _ = _
        simp only [Act.put, sq]
        rfl
       refine pw (v := ?_) (a' := ?_) 31 (some 38) Mq32 HT_.out ?_ ?_ ?_
       rotate_left;(intro w';go_simp;with_reducible rfl);rotate_left;(simp only [Act.put, sq];rfl)
       refine pw (v := ?_) (a' := ?_) 32 (some 39) Mq33 HT_.out ?_ ?_ ?_
       rotate_left;(intro w';go_simp;with_reducible rfl);rotate_left;(simp only [Act.put, sq];rfl)
       refine pw (v := ?_) (a' := ?_) 33 (some 40) Mq34 HT_.out ?_ ?_ ?_
       rotate_left;(intro w';go_simp;with_reducible rfl);rotate_left;(simp only [Act.put, sq];rfl)
       refine pu (a' := ?_) 34 (some 41) Mq35 HT_.out ?_ ?_
       rotate_left
       ·simp only [Act.put, sq]
        rfl
       refine pu (a' := ?_) 35 (some 42) Mq36 HT_.out ?_ ?_
       rotate_left
       ·simp only [Act.put, sq]
        rfl
       refine pu (a' := ?_) 36 (some 43) Mq37 HT_.out ?_ ?_
       rotate_left
       ·simp only [Act.put, sq]
        rfl
       refine pu (a' := ?_) 37 (some 44) Mq38 HT_.out ?_ ?_
       rotate_left
       ·simp only [Act.put, sq]
        rfl
       refine pw (v := ?_) (a' := ?_) 38 (some 45) Mq39 HT_.out ?_ ?_ ?_
       rotate_left;(intro w';go_simp;with_reducible rfl);rotate_left;(simp only [Act.put, sq];rfl)
       refine pw (v := ?_) (a' := ?_) 39 (some 2) Mq40 HT_.out ?_ ?_ ?_
       rotate_left;(intro w';go_simp;with_reducible rfl);rotate_left;(simp only [Act.put, sq];rfl)
       refine done_ (done_of HT_.out (by kernel_rfl)) ?_
       try go_wp2
       go_ret
       exact ⟨by first | rfl | (simp [errW_none, errW_some] <;> rfl) | (simp only [← hji8]; first | rfl | (simp [errW_none, errW_some] <;> rfl)) | (simp [*, errW_none, errW_some] <;> rfl), by repeat (first | (with_reducible first | exact HB.out | apply below_alloc | apply pwd | apply bd1 | refine below_set ?_ GE101.out) | exact HB.out)⟩
     ·rw [if_neg c9] at H
      have c9b0 : decide (t103 < (ji8)) = false := decide_eq_false c9
      clear c9
      obtain rfl := Option.some.inj H
      go_enter Try.func61, Try.ntmps61
      try go_wp2_with (first | ((with_reducible refine gate_dst (N := 1) rfl ?_); (try (refine gate_guard (by rfl) ?_; dsimp only)); refine box_event ?hg (N := 1) ?hd (cs := #[.slice A0_0 l0_0.length c0_0, .slice A0_1 l0_1.length c0_1]) (t := 28) ?hr ?_; (case hd => rfl); (case hg => rfl); (case hr => first | (go_simp; done) | (go_simp; rfl)); intro gb101 hg w19 hbox hb; have n0_ := As0.mk (bst (by repeat (first | (with_reducible first | exact HB.out | apply below_alloc | apply pwd | apply bd1) | exact HB.out)) hb); have n1_ := As0.mk (hbox); have n2_ := As0.mk ((by rw [hg]; exact (below_size (by repeat (first | (with_reducible first | exact HB.out | apply below_alloc | apply pwd | apply bd1) | exact HB.out))) : w.heap.size ≤ gb101)); have n3_ := As0.mk ((by rw [hg]; exact (below_size (by repeat (first | (with_reducible first | exact HB.out | apply below_alloc | apply pwd | apply bd1) | exact HB.out))) : w.heap.size ≤ gb101)); clear HB; have HB := n0_; have BK101 := n1_; have GW101 := n2_; have GE101 := n3_; clear n0_ n1_ n2_ n3_; clear hb hbox hg; have hcz20_0 : w19.cell? ⟨gb101, 0, none⟩ = some (.slice A0_0 l0_0.length c0_0) := (blk_cell BK101.out 0).trans rfl; have hcz20_1 : w19.cell? ⟨gb101, 1, none⟩ = some (.slice A0_1 l0_1.length c0_1) := (blk_cell BK101.out 1).trans rfl; have hfz20_0 := blk_frozen BK101.out 0; have hfz20_1 := blk_frozen BK101.out 1))
      have n0_ := As0.mk (blk_drew BK101.out)
      have n1_ := As0.mk (bd1 HB.out)
      clear BK101
      clear HB
      have BK101 := n0_
      have HB := n1_
      clear n0_ n1_
      refine start_ (n := 40) (S := fun w' => w'.cell? ⟨gb101, 0, none⟩ = some (.slice A0_0 l0_0.length c0_0) ∧ w'.cell? ⟨gb101, 1, none⟩ = some (.slice A0_1 l0_1.length c0_1)) (ds := []) Mq0 (by kernel_rfl) rfl rfl ⟨(blk_cell BK101.out 0).trans rfl, (blk_cell BK101.out 1).trans rfl⟩ (fun hHeld => ?_); refine with_tabW fixes_Works_valid.tab2 fixes_Works_valid.bits2 (fun HT_ HW_ => ?_)
      generalize w19.drew = w21 at BK101 HB hHeld ⊢
      refine pw (v := ?_) (a' := ?_) 0 (some 7) Mq1 HT_.out ?_ ?_ ?_
      rotate_left;(intro w';go_simp;with_reducible rfl);rotate_left;(simp only [Act.put, sq];rfl)
      refine pw (v := ?_) (a' := ?_) 1 (some 8) Mq2 HT_.out ?_ ?_ ?_
      rotate_left;(intro w';go_simp;with_reducible rfl);rotate_left;(simp only [Act.put, sq];rfl)
      refine pw (v := ?_) (a' := ?_) 2 (some 9) Mq3 HT_.out ?_ ?_ ?_
      rotate_left;(intro w';go_simp;with_reducible rfl);rotate_left;(simp only [Act.put, sq];rfl)
      refine pw (v := ?_) (a' := ?_) 3 (some 10) Mq4 HT_.out ?_ ?_ ?_
      rotate_left;(intro w';go_simp;with_reducible rfl);rotate_left;(simp only [Act.put, sq];rfl)
      refine pw (v := ?_) (a' := ?_) 4 (some 11) Mq5 HT_.out ?_ ?_ ?_
      rotate_left;(intro w';go_simp;with_reducible rfl);rotate_left;(simp only [Act.put, sq];rfl)
      refine pw (v := ?_) (a' := ?_) 5 (some 12) Mq6 HT_.out ?_ ?_ ?_
      rotate_left;(intro w';go_simp;with_reducible rfl);rotate_left;(simp only [Act.put, sq];rfl)
      refine pw (v := ?_) (a' := ?_) 6 (some 13) Mq7 HT_.out ?_ ?_ ?_
      rotate_left;(intro w';go_simp;with_reducible rfl);rotate_left;(simp only [Act.put, sq];rfl)
      refine pw (v := ?_) (a' := ?_) 7 (some 14) Mq8 HT_.out ?_ ?_ ?_
      rotate_left;(intro w';go_simp;with_reducible rfl);rotate_left;(simp only [Act.put, sq];rfl)
      refine pw (v := ?_) (a' := ?_) 10 (some 17) Mq9 HT_.out ?_ ?_ ?_
      rotate_left;(intro w';go_simp;with_reducible rfl);rotate_left;(simp only [Act.put, sq];rfl)
      refine tw (v := ?_) (a' := ?_) 8 (some 15) Mq10 HT_.out HW_.out ?_ hHeld ?_ ?_
      rotate_left
      ·rintro w' ⟨s0, s1⟩
       go_simp
       with_reducible rfl
      rotate_left
      ·simp only [Act.put, sq]
       rfl
      refine pw (v := ?_) (a' := ?_) 9 (some 16) Mq11 HT_.out ?_ ?_ ?_
      rotate_left;(intro w';go_simp;with_reducible rfl);rotate_left;(simp only [Act.put, sq];rfl)
      refine pw (v := ?_) (a' := ?_) 11 (some 18) Mq12 HT_.out ?_ ?_ ?_
      rotate_left;(intro w';go_simp;with_reducible rfl);rotate_left;(simp only [Act.put, sq];rfl)
      refine pw (v := ?_) (a' := ?_) 12 (some 19) Mq13 HT_.out ?_ ?_ ?_
      rotate_left;(intro w';go_simp;with_reducible rfl);rotate_left;(simp only [Act.put, sq];rfl)
      refine pw (v := ?_) (a' := ?_) 13 (some 20) Mq14 HT_.out ?_ ?_ ?_
      rotate_left;(intro w';go_simp;with_reducible rfl);rotate_left;(simp only [Act.put, sq];rfl)
      refine pw (v := ?_) (a' := ?_) 14 (some 21) Mq15 HT_.out ?_ ?_ ?_
      rotate_left;(intro w';go_simp;with_reducible rfl);rotate_left;(simp only [Act.put, sq];rfl)
      refine tw (v := ?_) (a' := ?_) 15 (some 22) Mq16 HT_.out HW_.out ?_ hHeld ?_ ?_
      rotate_left
      ·rintro w' ⟨s0, s1⟩
       go_simp
       with_reducible rfl
      rotate_left
      ·simp only [Act.put, sq]
       rfl
      refine one_ (i := 16) (N := some 23) Mq17 rfl rfl (one_of HT_.out (by kernel_rfl)) (by decide) (fun K hK => ?_)
      refine goes_ Try.func77 (by kernel_rfl) rfl #[.slice A0_0 l0_0.length c0_0] (by rfl) rfl rfl (by (try simp only [sm]); first | done | rfl | (simp only [List.length_drop, List.length_take]; rfl)) ?_
      with_reducible refine (X.slices_Min.calls _ _ l0_0 t102 _ ?side1 ?side2 A5.out).mono ?_
      (case side1 => repeat (first | exact (Kd.C_below HR0_0.out HB.out) | (with_reducible refine Kd.C_alloc ?_ _) | (with_reducible refine Kd.C_drewN ?_ _) | (with_reducible refine Kd.C_drew ?_)))
      (case side2 => exact HC0_0.out)
      rintro e w' ⟨rfl, ⟨nd, rfl⟩⟩
      refine ⟨_, rfl, ?_⟩
      refine hK.out _ _ ⟨(blk_cell BK101.out 0).trans rfl, (blk_cell BK101.out 1).trans rfl⟩ (fun hHeld => ?_)
      clear hK K
      refine norm_ (a' := ?_) ?_ ?_
      rotate_left
      ·show Act.put _ (some 23) _ = _
       simp only [Act.put, sq]
       rfl
      refine pw (v := ?_) (a' := ?_) 17 (some 24) Mq18 HT_.out ?_ ?_ ?_
      rotate_left;(intro w';go_simp;with_reducible rfl);rotate_left;(simp only [Act.put, sq];rfl)
      refine pw (v := ?_) (a' := ?_) 18 (some 25) Mq19 HT_.out ?_ ?_ ?_
      rotate_left;(intro w';go_simp;with_reducible rfl);rotate_left;(simp only [Act.put, sq];rfl)
      refine pw (v := ?_) (a' := ?_) 19 (some 26) Mq20 HT_.out ?_ ?_ ?_
      rotate_left;(intro w';go_simp;with_reducible rfl);rotate_left;(simp only [Act.put, sq];rfl)
      refine pw (v := ?_) (a' := ?_) 20 (some 27) Mq21 HT_.out ?_ ?_ ?_
      rotate_left;(intro w';go_simp;with_reducible rfl);rotate_left;(simp only [Act.put, sq];rfl)
      refine pw (v := ?_) (a' := ?_) 23 (some 30) Mq22 HT_.out ?_ ?_ ?_
      rotate_left;(intro w';go_simp;with_reducible rfl);rotate_left;(simp only [Act.put, sq];rfl)
      refine pw (v := ?_) (a' := ?_) 24 (some 31) Mq23 HT_.out ?_ ?_ ?_
      rotate_left;(intro w';go_simp;with_reducible rfl);rotate_left;(simp only [Act.put, sq];rfl)
      refine tw (v := ?_) (a' := ?_) 21 (some 28) Mq24 HT_.out HW_.out ?_ hHeld ?_ ?_
      rotate_left
      ·rintro w' ⟨s0, s1⟩
       go_simp
       with_reducible rfl
      rotate_left
      ·simp only [Act.put, sq]
       rfl
      refine one_ (i := 22) (N := some 29) Mq25 rfl rfl (one_of HT_.out (by kernel_rfl)) (by decide) (fun K hK => ?_)
      refine goes_ Try.func63 (by kernel_rfl) rfl #[.slice A0_0 l0_0.length c0_0] (by rfl) rfl rfl (by (try simp only [sm]); first | done | rfl | (simp only [List.length_drop, List.length_take]; rfl)) ?_
      with_reducible refine (X.slices_Max.calls _ _ l0_0 t103 _ ?side1 ?side2 A7.out).mono ?_
      (case side1 => repeat (first | exact (Kd.C_below HR0_0.out (by repeat (first | (with_reducible first | exact HB.out | apply below_alloc | apply pwd | apply bd1 | refine below_set ?_ GE101.out) | exact HB.out))) | (with_reducible refine Kd.C_alloc ?_ _) | (with_reducible refine Kd.C_drewN ?_ _) | (with_reducible refine Kd.C_drew ?_)))
      (case side2 => exact HC0_0.out)
      rintro e w' ⟨rfl, ⟨nd, rfl⟩⟩
      refine ⟨_, rfl, ?_⟩
      refine hK.out _ _ ⟨(blk_cell BK101.out 0).trans rfl, (blk_cell BK101.out 1).trans rfl⟩ (fun hHeld => ?_)
      clear hK K
      refine norm_ (a' := ?_) ?_ ?_
      rotate_left
      ·show Act.put _ (some 29) _ = _
       simp only [Act.put, sq]
       rfl
      refine pw (v := ?_) (a' := ?_) 25 (some 32) Mq26 HT_.out ?_ ?_ ?_
      rotate_left;(intro w';go_simp;with_reducible rfl);rotate_left;(simp only [Act.put, sq];rfl)
      refine pw (v := ?_) (a' := ?_) 26 (some 33) Mq27 HT_.out ?_ ?_ ?_
      rotate_left;(intro w';go_simp;with_reducible rfl);rotate_left;(simp only [Act.put, sq];rfl)
      refine pw (v := ?_) (a' := ?_) 27 (some 34) Mq28 HT_.out ?_ ?_ ?_
      rotate_left;(intro w';go_simp;with_reducible rfl);rotate_left;(simp only [Act.put, sq];rfl)
      refine pu (a' := ?_) 28 (some 35) Mq29 HT_.out ?_ ?_
      rotate_left
      ·simp only [Act.put, sq]
       rfl
      refine pu (a' := ?_) 29 (some 36) Mq30 HT_.out ?_ ?_
      rotate_left
      ·simp only [Act.put, sq]
       rfl
      refine pu (a' := ?_) 30 (some 37) Mq31 HT_.out ?_ ?_
      rotate_left
      ·simp only [Act.put, sq]
       rfl
      refine pu (a' := ?_) 31 (some 38) Mq32 HT_.out ?_ ?_
      rotate_left
      ·simp only [Act.put, sq]
       rfl
      refine pw (v := ?_) (a' := ?_) 32 (some 39) Mq33 HT_.out ?_ ?_ ?_
      rotate_left;(intro w';go_simp;with_reducible rfl);rotate_left;(simp only [Act.put, sq];rfl)
      refine pw (v := ?_) (a' := ?_) 33 (some 40) Mq34 HT_.out ?_ ?_ ?_
      rotate_left;(intro w';go_simp;with_reducible rfl);rotate_left;(simp only [Act.put, sq];rfl)
      refine pu (a' := ?_) 34 (some 41) Mq35 HT_.out ?_ ?_
      rotate_left
      ·simp only [Act.put, sq]
       rfl
      refine pu (a' := ?_) 35 (some 42) Mq36 HT_.out ?_ ?_
      rotate_left
      ·simp only [Act.put, sq]
       rfl
      refine pu (a' := ?_) 36 (some 43) Mq37 HT_.out ?_ ?_
      rotate_left
      ·simp only [Act.put, sq]
       rfl
      refine pu (a' := ?_) 37 (some 44) Mq38 HT_.out ?_ ?_
      rotate_left
      ·simp only [Act.put, sq]
       rfl
      refine pw (v := ?_) (a' := ?_) 38 (some 45) Mq39 HT_.out ?_ ?_ ?_
      rotate_left;(intro w';go_simp;with_reducible rfl);rotate_left;(simp only [Act.put, sq];rfl)
      refine pw (v := ?_) (a' := ?_) 39 (some 2) Mq40 HT_.out ?_ ?_ ?_
      rotate_left;(intro w';go_simp;with_reducible rfl);rotate_left;(simp only [Act.put, sq];rfl)
      refine done_ (done_of HT_.out (by kernel_rfl)) ?_
      try go_wp2
      go_ret
      exact ⟨by first | rfl | (simp [errW_none, errW_some] <;> rfl) | (simp only [← hji8]; first | rfl | (simp [errW_none, errW_some] <;> rfl)) | (simp [*, errW_none, errW_some] <;> rfl), by repeat (first | (with_reducible first | exact HB.out | apply below_alloc | apply pwd | apply bd1 | refine below_set ?_ GE101.out) | exact HB.out)⟩
    ·rw [if_neg c6] at H
     have c6b0 : decide (0 ≤ t102) = false := decide_eq_false c6
     clear c6
     obtain rfl := Option.some.inj H
     go_enter Try.func61, Try.ntmps61
     try go_wp2_with (first | ((with_reducible refine gate_dst (N := 1) rfl ?_); (try (refine gate_guard (by rfl) ?_; dsimp only)); refine box_event ?hg (N := 1) ?hd (cs := #[.slice A0_0 l0_0.length c0_0, .slice A0_1 l0_1.length c0_1]) (t := 28) ?hr ?_; (case hd => rfl); (case hg => rfl); (case hr => first | (go_simp; done) | (go_simp; rfl)); intro gb101 hg w22 hbox hb; have n0_ := As0.mk (bst (by repeat (first | (with_reducible first | exact HB.out | apply below_alloc | apply pwd | apply bd1) | exact HB.out)) hb); have n1_ := As0.mk (hbox); have n2_ := As0.mk ((by rw [hg]; exact (below_size (by repeat (first | (with_reducible first | exact HB.out | apply below_alloc | apply pwd | apply bd1) | exact HB.out))) : w.heap.size ≤ gb101)); have n3_ := As0.mk ((by rw [hg]; exact (below_size (by repeat (first | (with_reducible first | exact HB.out | apply below_alloc | apply pwd | apply bd1) | exact HB.out))) : w.heap.size ≤ gb101)); clear HB; have HB := n0_; have BK101 := n1_; have GW101 := n2_; have GE101 := n3_; clear n0_ n1_ n2_ n3_; clear hb hbox hg; have hcz23_0 : w22.cell? ⟨gb101, 0, none⟩ = some (.slice A0_0 l0_0.length c0_0) := (blk_cell BK101.out 0).trans rfl; have hcz23_1 : w22.cell? ⟨gb101, 1, none⟩ = some (.slice A0_1 l0_1.length c0_1) := (blk_cell BK101.out 1).trans rfl; have hfz23_0 := blk_frozen BK101.out 0; have hfz23_1 := blk_frozen BK101.out 1))
     have n0_ := As0.mk (blk_drew BK101.out)
     have n1_ := As0.mk (bd1 HB.out)
     clear BK101
     clear HB
     have BK101 := n0_
     have HB := n1_
     clear n0_ n1_
     refine start_ (n := 40) (S := fun w' => w'.cell? ⟨gb101, 0, none⟩ = some (.slice A0_0 l0_0.length c0_0) ∧ w'.cell? ⟨gb101, 1, none⟩ = some (.slice A0_1 l0_1.length c0_1)) (ds := []) Mq0 (by kernel_rfl) rfl rfl ⟨(blk_cell BK101.out 0).trans rfl, (blk_cell BK101.out 1).trans rfl⟩ (fun hHeld => ?_); refine with_tabW fixes_Works_valid.tab2 fixes_Works_valid.bits2 (fun HT_ HW_ => ?_)
     generalize w22.drew = w24 at BK101 HB hHeld ⊢
     refine pw (v := ?_) (a' := ?_) 0 (some 7) Mq1 HT_.out ?_ ?_ ?_
     rotate_left;(intro w';go_simp;with_reducible rfl);rotate_left;(simp only [Act.put, sq];rfl)
     refine pw (v := ?_) (a' := ?_) 1 (some 8) Mq2 HT_.out ?_ ?_ ?_
     rotate_left;(intro w';go_simp;with_reducible rfl);rotate_left;(simp only [Act.put, sq];rfl)
     refine pw (v := ?_) (a' := ?_) 2 (some 9) Mq3 HT_.out ?_ ?_ ?_
     rotate_left;(intro w';go_simp;with_reducible rfl);rotate_left;(simp only [Act.put, sq];rfl)
     refine pw (v := ?_) (a' := ?_) 3 (some 10) Mq4 HT_.out ?_ ?_ ?_
     rotate_left;(intro w';go_simp;with_reducible rfl);rotate_left;(simp only [Act.put, sq];rfl)
     refine pw (v := ?_) (a' := ?_) 4 (some 11) Mq5 HT_.out ?_ ?_ ?_
     rotate_left;(intro w';go_simp;with_reducible rfl);rotate_left;(simp only [Act.put, sq];rfl)
     refine pw (v := ?_) (a' := ?_) 5 (some 12) Mq6 HT_.out ?_ ?_ ?_
     rotate_left;(intro w';go_simp;with_reducible rfl);rotate_left;(simp only [Act.put, sq];rfl)
     refine pw (v := ?_) (a' := ?_) 6 (some 13) Mq7 HT_.out ?_ ?_ ?_
     rotate_left;(intro w';go_simp;with_reducible rfl);rotate_left;(simp only [Act.put, sq];rfl)
     refine pw (v := ?_) (a' := ?_) 7 (some 14) Mq8 HT_.out ?_ ?_ ?_
     rotate_left;(intro w';go_simp;with_reducible rfl);rotate_left;(simp only [Act.put, sq];rfl)
     refine pw (v := ?_) (a' := ?_) 10 (some 17) Mq9 HT_.out ?_ ?_ ?_
     rotate_left;(intro w';go_simp;with_reducible rfl);rotate_left;(simp only [Act.put, sq];rfl)
     refine tw (v := ?_) (a' := ?_) 8 (some 15) Mq10 HT_.out HW_.out ?_ hHeld ?_ ?_
     rotate_left
     ·rintro w' ⟨s0, s1⟩
      go_simp
      with_reducible rfl
     rotate_left
     ·simp only [Act.put, sq]
      rfl
     refine pw (v := ?_) (a' := ?_) 9 (some 16) Mq11 HT_.out ?_ ?_ ?_
     rotate_left;(intro w';go_simp;with_reducible rfl);rotate_left;(simp only [Act.put, sq];rfl)
     refine pw (v := ?_) (a' := ?_) 11 (some 18) Mq12 HT_.out ?_ ?_ ?_
     rotate_left;(intro w';go_simp;with_reducible rfl);rotate_left;(simp only [Act.put, sq];rfl)
     refine pw (v := ?_) (a' := ?_) 12 (some 19) Mq13 HT_.out ?_ ?_ ?_
     rotate_left;(intro w';go_simp;with_reducible rfl);rotate_left;(simp only [Act.put, sq];rfl)
     refine pw (v := ?_) (a' := ?_) 13 (some 20) Mq14 HT_.out ?_ ?_ ?_
     rotate_left;(intro w';go_simp;with_reducible rfl);rotate_left;(simp only [Act.put, sq];rfl)
     refine pw (v := ?_) (a' := ?_) 14 (some 21) Mq15 HT_.out ?_ ?_ ?_
     rotate_left;(intro w';go_simp;with_reducible rfl);rotate_left;(simp only [Act.put, sq];rfl)
     refine tw (v := ?_) (a' := ?_) 15 (some 22) Mq16 HT_.out HW_.out ?_ hHeld ?_ ?_
     rotate_left
     ·rintro w' ⟨s0, s1⟩
      go_simp
      with_reducible rfl
     rotate_left
     ·simp only [Act.put, sq]
      rfl
     refine one_ (i := 16) (N := some 23) Mq17 rfl rfl (one_of HT_.out (by kernel_rfl)) (by decide) (fun K hK => ?_)
     refine goes_ Try.func77 (by kernel_rfl) rfl #[.slice A0_0 l0_0.length c0_0] (by rfl) rfl rfl (by (try simp only [sm]); first | done | rfl | (simp only [List.length_drop, List.length_take]; rfl)) ?_
     with_reducible refine (X.slices_Min.calls _ _ l0_0 t102 _ ?side1 ?side2 A5.out).mono ?_
     (case side1 => repeat (first | exact (Kd.C_below HR0_0.out HB.out) | (with_reducible refine Kd.C_alloc ?_ _) | (with_reducible refine Kd.C_drewN ?_ _) | (with_reducible refine Kd.C_drew ?_)))
     (case side2 => exact HC0_0.out)
     rintro e w' ⟨rfl, ⟨nd, rfl⟩⟩
     refine ⟨_, rfl, ?_⟩
     refine hK.out _ _ ⟨(blk_cell BK101.out 0).trans rfl, (blk_cell BK101.out 1).trans rfl⟩ (fun hHeld => ?_)
     clear hK K
     refine norm_ (a' := ?_) ?_ ?_
     rotate_left
     ·show Act.put _ (some 23) _ = _
      simp only [Act.put, sq]
      rfl
     refine pw (v := ?_) (a' := ?_) 17 (some 24) Mq18 HT_.out ?_ ?_ ?_
     rotate_left;(intro w';go_simp;with_reducible rfl);rotate_left;(simp only [Act.put, sq];rfl)
     refine pw (v := ?_) (a' := ?_) 18 (some 25) Mq19 HT_.out ?_ ?_ ?_
     rotate_left;(intro w';go_simp;with_reducible rfl);rotate_left;(simp only [Act.put, sq];rfl)
     refine pw (v := ?_) (a' := ?_) 19 (some 26) Mq20 HT_.out ?_ ?_ ?_
     rotate_left;(intro w';go_simp;with_reducible rfl);rotate_left;(simp only [Act.put, sq];rfl)
     refine pu (a' := ?_) 20 (some 27) Mq21 HT_.out ?_ ?_
     rotate_left
     ·simp only [Act.put, sq]
      rfl
     refine pu (a' := ?_) 21 (some 28) Mq41 HT_.out ?_ ?_
     rotate_left
     ·simp only [Act.put, sq]
      rfl
     refine pu (a' := ?_) 22 (some 29) Mq42 HT_.out ?_ ?_
     rotate_left
     ·simp only [Act.put, sq]
      rfl
     refine pu (a' := ?_) 23 (some 30) Mq43 HT_.out ?_ ?_
     rotate_left
     ·simp only [Act.put, sq]
      rfl
     refine pu (a' := ?_) 24 (some 31) Mq25 HT_.out ?_ ?_
     rotate_left
     ·simp only [Act.put, sq]
      rfl
     refine pu (a' := ?_) 25 (some 32) Mq26 HT_.out ?_ ?_
     rotate_left
     ·simp only [Act.put, sq]
      rfl
     refine pw (v := ?_) (a' := ?_) 26 (some 33) Mq27 HT_.out ?_ ?_ ?_
     rotate_left;(intro w';go_simp;with_reducible rfl);rotate_left;(simp only [Act.put, sq];rfl)
     refine pw (v := ?_) (a' := ?_) 27 (some 34) Mq28 HT_.out ?_ ?_ ?_
     rotate_left;(intro w';go_simp;with_reducible rfl);rotate_left;(simp only [Act.put, sq];rfl)
     refine pu (a' := ?_) 28 (some 35) Mq29 HT_.out ?_ ?_
     rotate_left
     ·simp only [Act.put, sq]
      rfl
     refine pu (a' := ?_) 29 (some 36) Mq30 HT_.out ?_ ?_
     rotate_left
     ·simp only [Act.put, sq]
      rfl
     refine pu (a' := ?_) 30 (some 37) Mq31 HT_.out ?_ ?_
     rotate_left
     ·simp only [Act.put, sq]
      rfl
     refine pu (a' := ?_) 31 (some 38) Mq32 HT_.out ?_ ?_
     rotate_left
     ·simp only [Act.put, sq]
      rfl
     refine pw (v := ?_) (a' := ?_) 32 (some 39) Mq33 HT_.out ?_ ?_ ?_
     rotate_left;(intro w';go_simp;with_reducible rfl);rotate_left;(simp only [Act.put, sq];rfl)
     refine pw (v := ?_) (a' := ?_) 33 (some 40) Mq34 HT_.out ?_ ?_ ?_
     rotate_left;(intro w';go_simp;with_reducible rfl);rotate_left;(simp only [Act.put, sq];rfl)
     refine pu (a' := ?_) 34 (some 41) Mq35 HT_.out ?_ ?_
     rotate_left
     ·simp only [Act.put, sq]
      rfl
     refine pu (a' := ?_) 35 (some 42) Mq36 HT_.out ?_ ?_
     rotate_left
     ·simp only [Act.put, sq]
      rfl
     refine pu (a' := ?_) 36 (some 43) Mq37 HT_.out ?_ ?_
     rotate_left
     ·simp only [Act.put, sq]
      rfl
     refine pu (a' := ?_) 37 (some 44) Mq38 HT_.out ?_ ?_
     rotate_left
     ·simp only [Act.put, sq]
      rfl
     refine pw (v := ?_) (a' := ?_) 38 (some 45) Mq39 HT_.out ?_ ?_ ?_
     rotate_left;(intro w';go_simp;with_reducible rfl);rotate_left;(simp only [Act.put, sq];rfl)
     refine pw (v := ?_) (a' := ?_) 39 (some 2) Mq40 HT_.out ?_ ?_ ?_
     rotate_left;(intro w';go_simp;with_reducible rfl);rotate_left;(simp only [Act.put, sq];rfl)
     refine done_ (done_of HT_.out (by kernel_rfl)) ?_
     try go_wp2
     go_ret
     exact ⟨by first | rfl | (simp [errW_none, errW_some] <;> rfl) | (simp [*, errW_none, errW_some] <;> rfl), by repeat (first | (with_reducible first | exact HB.out | apply below_alloc | apply pwd | apply bd1 | refine below_set ?_ GE101.out) | exact HB.out)⟩
   ·rw [if_neg c4] at H
    have c4b0 : ((l0_1.length : Int) == (l0_0.length : Int)) = false := beq_eq_false_iff_ne.mpr c4
    have c4b1 : ((l0_1.length : Int) != (l0_0.length : Int)) = true := bne_iff_ne.mpr c4
    have c4b2 : (l0_1.length == l0_0.length) = false := by first | simpa using c4 | (simp at c4 ⊢; omega)
    obtain rfl := Option.some.inj H
    go_enter Try.func61, Try.ntmps61
    try go_wp2_with (first | ((with_reducible refine gate_dst (N := 1) rfl ?_); (try (refine gate_guard (by rfl) ?_; dsimp only)); refine box_event ?hg (N := 1) ?hd (cs := #[.slice A0_0 l0_0.length c0_0, .slice A0_1 l0_1.length c0_1]) (t := 28) ?hr ?_; (case hd => rfl); (case hg => rfl); (case hr => first | (go_simp; done) | (go_simp; rfl)); intro gb101 hg w25 hbox hb; have n0_ := As0.mk (bst (by repeat (first | (with_reducible first | exact HB.out | apply below_alloc | apply pwd | apply bd1) | exact HB.out)) hb); have n1_ := As0.mk (hbox); have n2_ := As0.mk ((by rw [hg]; exact (below_size (by repeat (first | (with_reducible first | exact HB.out | apply below_alloc | apply pwd | apply bd1) | exact HB.out))) : w.heap.size ≤ gb101)); have n3_ := As0.mk ((by rw [hg]; exact (below_size (by repeat (first | (with_reducible first | exact HB.out | apply below_alloc | apply pwd | apply bd1) | exact HB.out))) : w.heap.size ≤ gb101)); clear HB; have HB := n0_; have BK101 := n1_; have GW101 := n2_; have GE101 := n3_; clear n0_ n1_ n2_ n3_; clear hb hbox hg; have hcz26_0 : w25.cell? ⟨gb101, 0, none⟩ = some (.slice A0_0 l0_0.length c0_0) := (blk_cell BK101.out 0).trans rfl; have hcz26_1 : w25.cell? ⟨gb101, 1, none⟩ = some (.slice A0_1 l0_1.length c0_1) := (blk_cell BK101.out 1).trans rfl; have hfz26_0 := blk_frozen BK101.out 0; have hfz26_1 := blk_frozen BK101.out 1))
    have n0_ := As0.mk (blk_drew BK101.out)
    have n1_ := As0.mk (bd1 HB.out)
    clear BK101
    clear HB
    have BK101 := n0_
    have HB := n1_
    clear n0_ n1_
    refine start_ (n := 40) (S := fun w' => w'.cell? ⟨gb101, 0, none⟩ = some (.slice A0_0 l0_0.length c0_0) ∧ w'.cell? ⟨gb101, 1, none⟩ = some (.slice A0_1 l0_1.length c0_1)) (ds := []) Mq0 (by kernel_rfl) rfl rfl ⟨(blk_cell BK101.out 0).trans rfl, (blk_cell BK101.out 1).trans rfl⟩ (fun hHeld => ?_); refine with_tabW fixes_Works_valid.tab2 fixes_Works_valid.bits2 (fun HT_ HW_ => ?_)
    generalize w25.drew = w27 at BK101 HB hHeld ⊢
    refine pw (v := ?_) (a' := ?_) 0 (some 7) Mq1 HT_.out ?_ ?_ ?_
    rotate_left;(intro w';go_simp;with_reducible rfl);rotate_left;(simp only [Act.put, sq];rfl)
    refine pw (v := ?_) (a' := ?_) 1 (some 8) Mq2 HT_.out ?_ ?_ ?_
    rotate_left;(intro w';go_simp;with_reducible rfl);rotate_left;(simp only [Act.put, sq];rfl)
    refine pw (v := ?_) (a' := ?_) 2 (some 9) Mq3 HT_.out ?_ ?_ ?_
    rotate_left;(intro w';go_simp;with_reducible rfl);rotate_left;(simp only [Act.put, sq];rfl)
    refine pw (v := ?_) (a' := ?_) 3 (some 10) Mq4 HT_.out ?_ ?_ ?_
    rotate_left;(intro w';go_simp;with_reducible rfl);rotate_left;(simp only [Act.put, sq];rfl)
    refine pw (v := ?_) (a' := ?_) 4 (some 11) Mq5 HT_.out ?_ ?_ ?_
    rotate_left;(intro w';go_simp;with_reducible rfl);rotate_left;(simp only [Act.put, sq];rfl)
    refine pw (v := ?_) (a' := ?_) 5 (some 12) Mq6 HT_.out ?_ ?_ ?_
    rotate_left;(intro w';go_simp;with_reducible rfl);rotate_left;(simp only [Act.put, sq];rfl)
    refine pw (v := ?_) (a' := ?_) 6 (some 13) Mq7 HT_.out ?_ ?_ ?_
    rotate_left;(intro w';go_simp;with_reducible rfl);rotate_left;(simp only [Act.put, sq];rfl)
    refine pw (v := ?_) (a' := ?_) 7 (some 14) Mq8 HT_.out ?_ ?_ ?_
    rotate_left;(intro w';go_simp;with_reducible rfl);rotate_left;(simp only [Act.put, sq];rfl)
    refine pw (v := ?_) (a' := ?_) 10 (some 17) Mq9 HT_.out ?_ ?_ ?_
    rotate_left;(intro w';go_simp;with_reducible rfl);rotate_left;(simp only [Act.put, sq];rfl)
    refine tw (v := ?_) (a' := ?_) 8 (some 15) Mq10 HT_.out HW_.out ?_ hHeld ?_ ?_
    rotate_left
    ·rintro w' ⟨s0, s1⟩
     go_simp
     with_reducible rfl
    rotate_left
    ·simp only [Act.put, sq]
     rfl
    refine pw (v := ?_) (a' := ?_) 9 (some 16) Mq11 HT_.out ?_ ?_ ?_
    rotate_left;(intro w';go_simp;with_reducible rfl);rotate_left;(simp only [Act.put, sq];rfl)
    refine pw (v := ?_) (a' := ?_) 11 (some 18) Mq12 HT_.out ?_ ?_ ?_
    rotate_left;(intro w';go_simp;with_reducible rfl);rotate_left;(simp only [Act.put, sq];rfl)
    refine pw (v := ?_) (a' := ?_) 12 (some 19) Mq13 HT_.out ?_ ?_ ?_
    rotate_left;(intro w';go_simp;with_reducible rfl);rotate_left;(simp only [Act.put, sq];rfl)
    refine pw (v := ?_) (a' := ?_) 13 (some 20) Mq14 HT_.out ?_ ?_ ?_
    rotate_left;(intro w';go_simp;with_reducible rfl);rotate_left;(simp only [Act.put, sq];rfl)
    refine pu (a' := ?_) 14 (some 21) Mq15 HT_.out ?_ ?_
    rotate_left
    ·simp only [Act.put, sq]
     rfl
    refine pu (a' := ?_) 15 (some 22) Mq16 HT_.out ?_ ?_
    rotate_left
    ·simp only [Act.put, sq]
     rfl
    refine pu (a' := ?_) 16 (some 23) Mq17 HT_.out ?_ ?_
    rotate_left
    ·simp only [Act.put, sq]
     rfl
    refine pu (a' := ?_) 17 (some 24) Mq18 HT_.out ?_ ?_
    rotate_left
    ·simp only [Act.put, sq]
     rfl
    refine pw (v := ?_) (a' := ?_) 18 (some 25) Mq19 HT_.out ?_ ?_ ?_
    rotate_left;(intro w';go_simp;with_reducible rfl);rotate_left;(simp only [Act.put, sq];rfl)
    refine pw (v := ?_) (a' := ?_) 19 (some 26) Mq20 HT_.out ?_ ?_ ?_
    rotate_left;(intro w';go_simp;with_reducible rfl);rotate_left;(simp only [Act.put, sq];rfl)
    refine pu (a' := ?_) 20 (some 27) Mq21 HT_.out ?_ ?_
    rotate_left
    ·simp only [Act.put, sq]
     rfl
    refine pu (a' := ?_) 21 (some 28) Mq41 HT_.out ?_ ?_
    rotate_left
    ·simp only [Act.put, sq]
     rfl
    refine pu (a' := ?_) 22 (some 29) Mq42 HT_.out ?_ ?_
    rotate_left
    ·simp only [Act.put, sq]
     rfl
    refine pu (a' := ?_) 23 (some 30) Mq43 HT_.out ?_ ?_
    rotate_left
    ·simp only [Act.put, sq]
     rfl
    refine pu (a' := ?_) 24 (some 31) Mq25 HT_.out ?_ ?_
    rotate_left
    ·simp only [Act.put, sq]
     rfl
    refine pu (a' := ?_) 25 (some 32) Mq26 HT_.out ?_ ?_
    rotate_left
    ·simp only [Act.put, sq]
     rfl
    refine pw (v := ?_) (a' := ?_) 26 (some 33) Mq27 HT_.out ?_ ?_ ?_
    rotate_left;(intro w';go_simp;with_reducible rfl);rotate_left;(simp only [Act.put, sq];rfl)
    refine pw (v := ?_) (a' := ?_) 27 (some 34) Mq28 HT_.out ?_ ?_ ?_
    rotate_left;(intro w';go_simp;with_reducible rfl);rotate_left;(simp only [Act.put, sq];rfl)
    refine pu (a' := ?_) 28 (some 35) Mq29 HT_.out ?_ ?_
    rotate_left
    ·simp only [Act.put, sq]
     rfl
    refine pu (a' := ?_) 29 (some 36) Mq30 HT_.out ?_ ?_
    rotate_left
    ·simp only [Act.put, sq]
     rfl
    refine pu (a' := ?_) 30 (some 37) Mq31 HT_.out ?_ ?_
    rotate_left
    ·simp only [Act.put, sq]
     rfl
    refine pu (a' := ?_) 31 (some 38) Mq32 HT_.out ?_ ?_
    rotate_left
    ·simp only [Act.put, sq]
     rfl
    refine pw (v := ?_) (a' := ?_) 32 (some 39) Mq33 HT_.out ?_ ?_ ?_
    rotate_left;(intro w';go_simp;with_reducible rfl);rotate_left;(simp only [Act.put, sq];rfl)
    refine pw (v := ?_) (a' := ?_) 33 (some 40) Mq34 HT_.out ?_ ?_ ?_
    rotate_left;(intro w';go_simp;with_reducible rfl);rotate_left;(simp only [Act.put, sq];rfl)
    refine pu (a' := ?_) 34 (some 41) Mq35 HT_.out ?_ ?_
    rotate_left
    ·simp only [Act.put, sq]
     rfl
    refine pu (a' := ?_) 35 (some 42) Mq36 HT_.out ?_ ?_
    rotate_left
    ·simp only [Act.put, sq]
     rfl
    refine pu (a' := ?_) 36 (some 43) Mq37 HT_.out ?_ ?_
    rotate_left
    ·simp only [Act.put, sq]
     rfl
    refine pu (a' := ?_) 37 (some 44) Mq38 HT_.out ?_ ?_
    rotate_left
    ·simp only [Act.put, sq]
     rfl
    refine pw (v := ?_) (a' := ?_) 38 (some 45) Mq39 HT_.out ?_ ?_ ?_
    rotate_left;(intro w';go_simp;with_reducible rfl);rotate_left;(simp only [Act.put, sq];rfl)
    refine pw (v := ?_) (a' := ?_) 39 (some 2) Mq40 HT_.out ?_ ?_ ?_
    rotate_left;(intro w';go_simp;with_reducible rfl);rotate_left;(simp only [Act.put, sq];rfl)
    refine done_ (done_of HT_.out (by kernel_rfl)) ?_
    try go_wp2
    go_ret
    exact ⟨by first | rfl | (simp [errW_none, errW_some] <;> rfl) | (simp [*, errW_none, errW_some] <;> rfl), by repeat (first | (with_reducible first | exact HB.out | apply below_alloc | apply pwd | apply bd1 | refine below_set ?_ GE101.out) | exact HB.out)⟩
  ·rw [if_neg c3] at H
   have c3b0 : decide ((l0_0.length : Int) ≤ 6) = false := decide_eq_false c3
   have c3b1 : decide (l0_0.length ≤ 6) = false := decide_eq_false (by omega)
   clear c3
   obtain rfl := Option.some.inj H
   go_enter Try.func61, Try.ntmps61
   try go_wp2_with (first | ((with_reducible refine gate_dst (N := 1) rfl ?_); (try (refine gate_guard (by rfl) ?_; dsimp only)); refine box_event ?hg (N := 1) ?hd (cs := #[.slice A0_0 l0_0.length c0_0, .slice A0_1 l0_1.length c0_1]) (t := 28) ?hr ?_; (case hd => rfl); (case hg => rfl); (case hr => first | (go_simp; done) | (go_simp; rfl)); intro gb101 hg w28 hbox hb; have n0_ := As0.mk (bst (by repeat (first | (with_reducible first | exact HB.out | apply below_alloc | apply pwd | apply bd1) | exact HB.out)) hb); have n1_ := As0.mk (hbox); have n2_ := As0.mk ((by rw [hg]; exact (below_size (by repeat (first | (with_reducible first | exact HB.out | apply below_alloc | apply pwd | apply bd1) | exact HB.out))) : w.heap.size ≤ gb101)); have n3_ := As0.mk ((by rw [hg]; exact (below_size (by repeat (first | (with_reducible first | exact HB.out | apply below_alloc | apply pwd | apply bd1) | exact HB.out))) : w.heap.size ≤ gb101)); clear HB; have HB := n0_; have BK101 := n1_; have GW101 := n2_; have GE101 := n3_; clear n0_ n1_ n2_ n3_; clear hb hbox hg; have hcz29_0 : w28.cell? ⟨gb101, 0, none⟩ = some (.slice A0_0 l0_0.length c0_0) := (blk_cell BK101.out 0).trans rfl; have hcz29_1 : w28.cell? ⟨gb101, 1, none⟩ = some (.slice A0_1 l0_1.length c0_1) := (blk_cell BK101.out 1).trans rfl; have hfz29_0 := blk_frozen BK101.out 0; have hfz29_1 := blk_frozen BK101.out 1))
   have n0_ := As0.mk (blk_drew BK101.out)
   have n1_ := As0.mk (bd1 HB.out)
   clear BK101
   clear HB
   have BK101 := n0_
   have HB := n1_
   clear n0_ n1_
   refine start_ (n := 40) (S := fun w' => True) (ds := []) Mq0 (by kernel_rfl) rfl rfl trivial (fun hHeld => ?_); refine with_tabW fixes_Works_valid.tab2 fixes_Works_valid.bits2 (fun HT_ HW_ => ?_)
   generalize w28.drew = w30 at BK101 HB hHeld ⊢
   refine pw (v := ?_) (a' := ?_) 0 (some 7) Mq1 HT_.out ?_ ?_ ?_
   rotate_left;(intro w';go_simp;with_reducible rfl);rotate_left;(simp only [Act.put, sq];rfl)
   refine pw (v := ?_) (a' := ?_) 1 (some 8) Mq2 HT_.out ?_ ?_ ?_
   rotate_left;(intro w';go_simp;with_reducible rfl);rotate_left;(simp only [Act.put, sq];rfl)
   refine pw (v := ?_) (a' := ?_) 2 (some 9) Mq3 HT_.out ?_ ?_ ?_
   rotate_left;(intro w';go_simp;with_reducible rfl);rotate_left;(simp only [Act.put, sq];rfl)
   refine pw (v := ?_) (a' := ?_) 3 (some 10) Mq4 HT_.out ?_ ?_ ?_
   rotate_left;(intro w';go_simp;with_reducible rfl);rotate_left;(simp only [Act.put, sq];rfl)
   refine pw (v := ?_) (a' := ?_) 4 (some 11) Mq5 HT_.out ?_ ?_ ?_
   rotate_left;(intro w';go_simp;with_reducible rfl);rotate_left;(simp only [Act.put, sq];rfl)
   refine pw (v := ?_) (a' := ?_) 5 (some 12) Mq6 HT_.out ?_ ?_ ?_
   rotate_left;(intro w';go_simp;with_reducible rfl);rotate_left;(simp only [Act.put, sq];rfl)
   refine pw (v := ?_) (a' := ?_) 6 (some 13) Mq7 HT_.out ?_ ?_ ?_
   rotate_left;(intro w';go_simp;with_reducible rfl);rotate_left;(simp only [Act.put, sq];rfl)
   refine pu (a' := ?_) 7 (some 14) Mq8 HT_.out ?_ ?_
   rotate_left
   ·simp only [Act.put, sq]
    rfl
   refine pu (a' := ?_) 8 (some 15) Mq44 HT_.out ?_ ?_
   rotate_left
   ·simp only [Act.put, sq]
    rfl
   refine pu (a' := ?_) 9 (some 16) Mq45 HT_.out ?_ ?_
   rotate_left
   ·simp only [Act.put, sq]
    rfl
   refine pu (a' := ?_) 10 (some 17) Mq11 HT_.out ?_ ?_
   rotate_left
   ·simp only [Act.put, sq]
    rfl
   refine pu (a' := ?_) 11 (some 18) Mq12 HT_.out ?_ ?_
   rotate_left
   ·simp only [Act.put, sq]
    rfl
   refine pw (v := ?_) (a' := ?_) 12 (some 19) Mq13 HT_.out ?_ ?_ ?_
   rotate_left;(intro w';go_simp;with_reducible rfl);rotate_left;(simp only [Act.put, sq];rfl)
   refine pw (v := ?_) (a' := ?_) 13 (some 20) Mq14 HT_.out ?_ ?_ ?_
   rotate_left;(intro w';go_simp;with_reducible rfl);rotate_left;(simp only [Act.put, sq];rfl)
   refine pu (a' := ?_) 14 (some 21) Mq15 HT_.out ?_ ?_
   rotate_left
   ·simp only [Act.put, sq]
    rfl
   refine pu (a' := ?_) 15 (some 22) Mq16 HT_.out ?_ ?_
   rotate_left
   ·simp only [Act.put, sq]
    rfl
   refine pu (a' := ?_) 16 (some 23) Mq17 HT_.out ?_ ?_
   rotate_left
   ·simp only [Act.put, sq]
    rfl
   refine pu (a' := ?_) 17 (some 24) Mq18 HT_.out ?_ ?_
   rotate_left
   ·simp only [Act.put, sq]
    rfl
   refine pw (v := ?_) (a' := ?_) 18 (some 25) Mq19 HT_.out ?_ ?_ ?_
   rotate_left;(intro w';go_simp;with_reducible rfl);rotate_left;(simp only [Act.put, sq];rfl)
   refine pw (v := ?_) (a' := ?_) 19 (some 26) Mq20 HT_.out ?_ ?_ ?_
   rotate_left;(intro w';go_simp;with_reducible rfl);rotate_left;(simp only [Act.put, sq];rfl)
   refine pu (a' := ?_) 20 (some 27) Mq21 HT_.out ?_ ?_
   rotate_left
   ·simp only [Act.put, sq]
    rfl
   refine pu (a' := ?_) 21 (some 28) Mq41 HT_.out ?_ ?_
   rotate_left
   ·simp only [Act.put, sq]
    rfl
   refine pu (a' := ?_) 22 (some 29) Mq42 HT_.out ?_ ?_
   rotate_left
   ·simp only [Act.put, sq]
    rfl
   refine pu (a' := ?_) 23 (some 30) Mq43 HT_.out ?_ ?_
   rotate_left
   ·simp only [Act.put, sq]
    rfl
   refine pu (a' := ?_) 24 (some 31) Mq25 HT_.out ?_ ?_
   rotate_left
   ·simp only [Act.put, sq]
    rfl
   refine pu (a' := ?_) 25 (some 32) Mq26 HT_.out ?_ ?_
   rotate_left
   ·simp only [Act.put, sq]
    rfl
   refine pw (v := ?_) (a' := ?_) 26 (some 33) Mq27 HT_.out ?_ ?_ ?_
   rotate_left;(intro w';go_simp;with_reducible rfl);rotate_left;(simp only [Act.put, sq];rfl)
   refine pw (v := ?_) (a' := ?_) 27 (some 34) Mq28 HT_.out ?_ ?_ ?_
   rotate_left;(intro w';go_simp;with_reducible rfl);rotate_left;(simp only [Act.put, sq];rfl)
   refine pu (a' := ?_) 28 (some 35) Mq29 HT_.out ?_ ?_
   rotate_left
   ·simp only [Act.put, sq]
    rfl
   refine pu (a' := ?_) 29 (some 36) Mq30 HT_.out ?_ ?_
   rotate_left
   ·simp only [Act.put, sq]
    rfl
   refine pu (a' := ?_) 30 (some 37) Mq31 HT_.out ?_ ?_
   rotate_left
   ·simp only [Act.put, sq]
    rfl
   refine pu (a' := ?_) 31 (some 38) Mq32 HT_.out ?_ ?_
   rotate_left
   ·simp only [Act.put, sq]
    rfl
   refine pw (v := ?_) (a' := ?_) 32 (some 39) Mq33 HT_.out ?_ ?_ ?_
   rotate_left;(intro w';go_simp;with_reducible rfl);rotate_left;(simp only [Act.put, sq];rfl)
   refine pw (v := ?_) (a' := ?_) 33 (some 40) Mq34 HT_.out ?_ ?_ ?_
   rotate_left;(intro w';go_simp;with_reducible rfl);rotate_left;(simp only [Act.put, sq];rfl)
   refine pu (a' := ?_) 34 (some 41) Mq35 HT_.out ?_ ?_
   rotate_left
   ·simp only [Act.put, sq]
    rfl
   refine pu (a' := ?_) 35 (some 42) Mq36 HT_.out ?_ ?_
   rotate_left
   ·simp only [Act.put, sq]
    rfl
   refine pu (a' := ?_) 36 (some 43) Mq37 HT_.out ?_ ?_
   rotate_left
   ·simp only [Act.put, sq]
    rfl
   refine pu (a' := ?_) 37 (some 44) Mq38 HT_.out ?_ ?_
   rotate_left
   ·simp only [Act.put, sq]
    rfl
   refine pw (v := ?_) (a' := ?_) 38 (some 45) Mq39 HT_.out ?_ ?_ ?_
   rotate_left;(intro w';go_simp;with_reducible rfl);rotate_left;(simp only [Act.put, sq];rfl)
   refine pw (v := ?_) (a' := ?_) 39 (some 2) Mq40 HT_.out ?_ ?_ ?_
   rotate_left;(intro w';go_simp;with_reducible rfl);rotate_left;(simp only [Act.put, sq];rfl)
   refine done_ (done_of HT_.out (by kernel_rfl)) ?_
   try go_wp2
   go_ret
   exact ⟨by first | rfl | (simp [errW_none, errW_some] <;> rfl) | (simp [*, errW_none, errW_some] <;> rfl), by repeat (first | (with_reducible first | exact HB.out | apply below_alloc | apply pwd | apply bd1 | refine below_set ?_ GE101.out) | exact HB.out)⟩
 ·rw [if_neg c2] at H
  have c2b0 : decide (1 ≤ (l0_0.length : Int)) = false := decide_eq_false c2
  have c2b1 : decide (1 ≤ l0_0.length) = false := decide_eq_false (by omega)
  clear c2
  obtain rfl := Option.some.inj H
  go_enter Try.func61, Try.ntmps61
  try go_wp2_with (first | ((with_reducible refine gate_dst (N := 1) rfl ?_); (try (refine gate_guard (by rfl) ?_; dsimp only)); refine box_event ?hg (N := 1) ?hd (cs := #[.slice A0_0 l0_0.length c0_0, .slice A0_1 l0_1.length c0_1]) (t := 28) ?hr ?_; (case hd => rfl); (case hg => rfl); (case hr => first | (go_simp; done) | (go_simp; rfl)); intro gb101 hg w31 hbox hb; have n0_ := As0.mk (bst (by repeat (first | (with_reducible first | exact HB.out | apply below_alloc | apply pwd | apply bd1) | exact HB.out)) hb); have n1_ := As0.mk (hbox); have n2_ := As0.mk ((by rw [hg]; exact (below_size (by repeat (first | (with_reducible first | exact HB.out | apply below_alloc | apply pwd | apply bd1) | exact HB.out))) : w.heap.size ≤ gb101)); have n3_ := As0.mk ((by rw [hg]; exact (below_size (by repeat (first | (with_reducible first | exact HB.out | apply below_alloc | apply pwd | apply bd1) | exact HB.out))) : w.heap.size ≤ gb101)); clear HB; have HB := n0_; have BK101 := n1_; have GW101 := n2_; have GE101 := n3_; clear n0_ n1_ n2_ n3_; clear hb hbox hg; have hcz32_0 : w31.cell? ⟨gb101, 0, none⟩ = some (.slice A0_0 l0_0.length c0_0) := (blk_cell BK101.out 0).trans rfl; have hcz32_1 : w31.cell? ⟨gb101, 1, none⟩ = some (.slice A0_1 l0_1.length c0_1) := (blk_cell BK101.out 1).trans rfl; have hfz32_0 := blk_frozen BK101.out 0; have hfz32_1 := blk_frozen BK101.out 1))
  have n0_ := As0.mk (blk_drew BK101.out)
  have n1_ := As0.mk (bd1 HB.out)
  clear BK101
  clear HB
  have BK101 := n0_
  have HB := n1_
  clear n0_ n1_
  refine start_ (n := 40) (S := fun w' => True) (ds := []) Mq0 (by kernel_rfl) rfl rfl trivial (fun hHeld => ?_); refine with_tabW fixes_Works_valid.tab2 fixes_Works_valid.bits2 (fun HT_ HW_ => ?_)
  generalize w31.drew = w33 at BK101 HB hHeld ⊢
  refine pw (v := ?_) (a' := ?_) 0 (some 7) Mq1 HT_.out ?_ ?_ ?_
  rotate_left;(intro w';go_simp;with_reducible rfl);rotate_left;(simp only [Act.put, sq];rfl)
  refine pw (v := ?_) (a' := ?_) 1 (some 8) Mq2 HT_.out ?_ ?_ ?_
  rotate_left;(intro w';go_simp;with_reducible rfl);rotate_left;(simp only [Act.put, sq];rfl)
  refine pw (v := ?_) (a' := ?_) 2 (some 9) Mq3 HT_.out ?_ ?_ ?_
  rotate_left;(intro w';go_simp;with_reducible rfl);rotate_left;(simp only [Act.put, sq];rfl)
  refine pu (a' := ?_) 3 (some 10) Mq4 HT_.out ?_ ?_
  rotate_left
  ·simp only [Act.put, sq]
   rfl
  refine pu (a' := ?_) 4 (some 11) Mq5 HT_.out ?_ ?_
  rotate_left
  ·simp only [Act.put, sq]
   rfl
  refine pw (v := ?_) (a' := ?_) 5 (some 12) Mq6 HT_.out ?_ ?_ ?_
  rotate_left;(intro w';go_simp;with_reducible rfl);rotate_left;(simp only [Act.put, sq];rfl)
  refine pw (v := ?_) (a' := ?_) 6 (some 13) Mq7 HT_.out ?_ ?_ ?_
  rotate_left;(intro w';go_simp;with_reducible rfl);rotate_left;(simp only [Act.put, sq];rfl)
  refine pu (a' := ?_) 7 (some 14) Mq8 HT_.out ?_ ?_
  rotate_left
  ·simp only [Act.put, sq]
   rfl
  refine pu (a' := ?_) 8 (some 15) Mq44 HT_.out ?_ ?_
  rotate_left
  ·simp only [Act.put, sq]
   rfl
  refine pu (a' := ?_) 9 (some 16) Mq45 HT_.out ?_ ?_
  rotate_left
  ·simp only [Act.put, sq]
   rfl
  refine pu (a' := ?_) 10 (some 17) Mq11 HT_.out ?_ ?_
  rotate_left
  ·simp only [Act.put, sq]
   rfl
  refine pu (a' := ?_) 11 (some 18) Mq12 HT_.out ?_ ?_
  rotate_left
  ·simp only [Act.put, sq]
   rfl
  refine pw (v := ?_) (a' := ?_) 12 (some 19) Mq13 HT_.out ?_ ?_ ?_
  rotate_left;(intro w';go_simp;with_reducible rfl);rotate_left;(simp only [Act.put, sq];rfl)
  refine pw (v := ?_) (a' := ?_) 13 (some 20) Mq14 HT_.out ?_ ?_ ?_
  rotate_left;(intro w';go_simp;with_reducible rfl);rotate_left;(simp only [Act.put, sq];rfl)
  refine pu (a' := ?_) 14 (some 21) Mq15 HT_.out ?_ ?_
  rotate_left
  ·simp only [Act.put, sq]
   rfl
  refine pu (a' := ?_) 15 (some 22) Mq16 HT_.out ?_ ?_
  rotate_left
  ·simp only [Act.put, sq]
   rfl
  refine pu (a' := ?_) 16 (some 23) Mq17 HT_.out ?_ ?_
  rotate_left
  ·simp only [Act.put, sq]
   rfl
  refine pu (a' := ?_) 17 (some 24) Mq18 HT_.out ?_ ?_
  rotate_left
  ·simp only [Act.put, sq]
   rfl
  refine pw (v := ?_) (a' := ?_) 18 (some 25) Mq19 HT_.out ?_ ?_ ?_
  rotate_left;(intro w';go_simp;with_reducible rfl);rotate_left;(simp only [Act.put, sq];rfl)
  refine pw (v := ?_) (a' := ?_) 19 (some 26) Mq20 HT_.out ?_ ?_ ?_
  rotate_left;(intro w';go_simp;with_reducible rfl);rotate_left;(simp only [Act.put, sq];rfl)
  refine pu (a' := ?_) 20 (some 27) Mq21 HT_.out ?_ ?_
  rotate_left
  ·simp only [Act.put, sq]
   rfl
  refine pu (a' := ?_) 21 (some 28) Mq41 HT_.out ?_ ?_
  rotate_left
  ·simp only [Act.put, sq]
   rfl
  refine pu (a' := ?_) 22 (some 29) Mq42 HT_.out ?_ ?_
  rotate_left
  ·simp only [Act.put, sq]
   rfl
  refine pu (a' := ?_) 23 (some 30) Mq43 HT_.out ?_ ?_
  rotate_left
  ·simp only [Act.put, sq]
   rfl
  refine pu (a' := ?_) 24 (some 31) Mq25 HT_.out ?_ ?_
  rotate_left
  ·simp only [Act.put, sq]
   rfl
  refine pu (a' := ?_) 25 (some 32) Mq26 HT_.out ?_ ?_
  rotate_left
  ·simp only [Act.put, sq]
   rfl
  refine pw (v := ?_) (a' := ?_) 26 (some 33) Mq27 HT_.out ?_ ?_ ?_
  rotate_left;(intro w';go_simp;with_reducible rfl);rotate_left;(simp only [Act.put, sq];rfl)
  refine pw (v := ?_) (a' := ?_) 27 (some 34) Mq28 HT_.out ?_ ?_ ?_
  rotate_left;(intro w';go_simp;with_reducible rfl);rotate_left;(simp only [Act.put, sq];rfl)
  refine pu (a' := ?_) 28 (some 35) Mq29 HT_.out ?_ ?_
  rotate_left
  ·simp only [Act.put, sq]
   rfl
  refine pu (a' := ?_) 29 (some 36) Mq30 HT_.out ?_ ?_
  rotate_left
  ·simp only [Act.put, sq]
   rfl
  refine pu (a' := ?_) 30 (some 37) Mq31 HT_.out ?_ ?_
  rotate_left
  ·simp only [Act.put, sq]
   rfl
  refine pu (a' := ?_) 31 (some 38) Mq32 HT_.out ?_ ?_
  rotate_left
  ·simp only [Act.put, sq]
   rfl
  refine pw (v := ?_) (a' := ?_) 32 (some 39) Mq33 HT_.out ?_ ?_ ?_
  rotate_left;(intro w';go_simp;with_reducible rfl);rotate_left;(simp only [Act.put, sq];rfl)
  refine pw (v := ?_) (a' := ?_) 33 (some 40) Mq34 HT_.out ?_ ?_ ?_
  rotate_left;(intro w';go_simp;with_reducible rfl);rotate_left;(simp only [Act.put, sq];rfl)
  refine pu (a' := ?_) 34 (some 41) Mq35 HT_.out ?_ ?_
  rotate_left
  ·simp only [Act.put, sq]
   rfl
  refine pu (a' := ?_) 35 (some 42) Mq36 HT_.out ?_ ?_
  rotate_left
  ·simp only [Act.put, sq]
   rfl
  refine pu (a' := ?_) 36 (some 43) Mq37 HT_.out ?_ ?_
  rotate_left
  ·simp only [Act.put, sq]
   rfl
  refine pu (a' := ?_) 37 (some 44) Mq38 HT_.out ?_ ?_
  rotate_left
  ·simp only [Act.put, sq]
   rfl
  refine pw (v := ?_) (a' := ?_) 38 (some 45) Mq39 HT_.out ?_ ?_ ?_
  rotate_left;(intro w';go_simp;with_reducible rfl);rotate_left;(simp only [Act.put, sq];rfl)
  refine pw (v := ?_) (a' := ?_) 39 (some 2) Mq40 HT_.out ?_ ?_ ?_
  rotate_left;(intro w';go_simp;with_reducible rfl);rotate_left;(simp only [Act.put, sq];rfl)
  refine done_ (done_of HT_.out (by kernel_rfl)) ?_
  try go_wp2
  go_ret
  exact ⟨by first | rfl | (simp [errW_none, errW_some] <;> rfl) | (simp [*, errW_none, errW_some] <;> rfl), by repeat (first | (with_reducible first | exact HB.out | apply below_alloc | apply pwd | apply bd1 | refine below_set ?_ GE101.out) | exact HB.out)⟩
end Go.Proofs.Ytjffhhalmicodaa.PA
end

section
namespace Go.Proofs.Ytjffhhalmicodaa.PA
open Go.RowKit Go.Proofs.G.PrintWords Go.Proofs.G.PrintLast Go.Proofs.G.PrintMore
attribute [local go_sem] max2_int min2_int max_two min_two max_three min_three max_four min_four
set_option linter.unusedVariables false
set_option linter.unusedSimpArgs false
def fixes_Works_all.f (l0_0 : List Int) (l0_1 : List Int) : Option (Int) := some (wrap64 ((shl .i64 1 (l0_0.length : Int)) - 1))
set_option maxHeartbeats 8000000 in
set_option maxRecDepth 100000 in
theorem fixes_Works_all.calls (A0_0 : Option Addr) (c0_0 : Nat) (l0_0 : List Int) (A0_1 : Option Addr) (c0_1 : Nat) (l0_1 : List Int) (r : Int) (w : World) (hr0_0 : Kd.C (Kd.int .i64) w A0_0 l0_0.length l0_0) (hc0_0 : l0_0.length ≤ c0_0) (hr0_1 : Kd.C (Kd.int .i64) w A0_1 l0_1.length l0_1) (hc0_1 : l0_1.length ≤ c0_1) (h : fixes_Works_all.f l0_0 l0_1 = some r) :
  Calls Try.prog 71 #[.agg #[.slice A0_0 l0_0.length c0_0, .slice A0_1 l0_1.length c0_1]] w fun e w' => e = .returned (.int .i64 r) ∧ Below w.heap.size w w' := by
 have hu28 := Try.underlying28
 have HR0_0 := As0.mk hr0_0
 have HC0_0 := As0.mk hc0_0
 clear hr0_0 hc0_0
 have HR0_1 := As0.mk hr0_1
 have HC0_1 := As0.mk hc0_1
 clear hr0_1 hc0_1
 have HB := As0.mk (Below.refl w.heap.size w)
 have H : (some (wrap64 ((shl .i64 1 (l0_0.length : Int)) - 1))) = some r := h
 clear h
 obtain ⟨ji2, hji2⟩ : ∃ j_ : Int, (shl .i64 1 (l0_0.length : Int)) = j_ := ⟨_, rfl⟩
 replace H : (some (wrap64 ((ji2) - 1))) = some r := by first | (rw [hji2] at H; exact H) | (simp only [hji2] at H ⊢; exact H)
 have hji2_ : (IntKind.i64.wrap (1 * 2 ^ min (l0_0.length : Int).toNat 64)) = ji2 := hji2
 have hji2z : (l0_0.length : Int) ≤ 64 → (IntKind.i64.wrap (1 * 2 ^ (l0_0.length : Int).toNat)) = ji2 := shl_small hji2
 have hji2p : (IntKind.i64.wrap (1 * 2 ^ min l0_0.length 64)) = ji2 := hji2_
 have hji2q : (l0_0.length : Int) ≤ 64 → (IntKind.i64.wrap (1 * 2 ^ l0_0.length)) = ji2 := hji2z
 have hji2r : (IntKind.i64.wrap (2 ^ min l0_0.length 64)) = ji2 := by have h_ := hji2p; rw [Int.one_mul] at h_; exact h_
 have hji2s : (l0_0.length : Int) ≤ 64 → (IntKind.i64.wrap (2 ^ l0_0.length)) = ji2 := fun hle_ => by have h_ := hji2q hle_; rw [Int.one_mul] at h_; exact h_
 have hji2u : (IntKind.i64.wrap (2 ^ min (l0_0.length : Int).toNat 64)) = ji2 := by have h_ := hji2_; rw [Int.one_mul] at h_; exact h_
 have hji2v : (l0_0.length : Int) ≤ 64 → (IntKind.i64.wrap (2 ^ (l0_0.length : Int).toNat)) = ji2 := fun hle_ => by have h_ := hji2z hle_; rw [Int.one_mul] at h_; exact h_
 have hji2y : (wrap64 (1 * 2 ^ min (l0_0.length : Int).toNat 64)) = ji2 := (i64_w _).symm.trans hji2_
 have hji2x : (l0_0.length : Int) ≤ 64 → (wrap64 (1 * 2 ^ (l0_0.length : Int).toNat)) = ji2 := fun h_ => (i64_w _).symm.trans (hji2z h_)
 obtain rfl := Option.some.inj H
 go_enter Try.func71, Try.ntmps71
 go_wp2_with (first | ((with_reducible refine gate_dst (N := 1) rfl ?_); refine box_event ?hg (N := 1) ?hd (cs := #[.slice A0_0 l0_0.length c0_0, .slice A0_1 l0_1.length c0_1]) (t := 28) ?hr ?_; (case hd => rfl); (case hg => rfl); (case hr => first | (go_simp; done) | (go_simp; rfl)); intro gb106 hg w3 hbox hb; have n0_ := As0.mk (bst (by repeat (first | (with_reducible first | exact HB.out | apply below_alloc | apply pwd | apply bd1) | exact HB.out)) hb); have n1_ := As0.mk (hbox); have n2_ := As0.mk ((by rw [hg]; exact (below_size (by repeat (first | (with_reducible first | exact HB.out | apply below_alloc | apply pwd | apply bd1) | exact HB.out))) : w.heap.size ≤ gb106)); have n3_ := As0.mk ((by rw [hg]; exact (below_size (by repeat (first | (with_reducible first | exact HB.out | apply below_alloc | apply pwd | apply bd1) | exact HB.out))) : w.heap.size ≤ gb106)); clear HB; have HB := n0_; have BK106 := n1_; have GW106 := n2_; have GE106 := n3_; clear n0_ n1_ n2_ n3_; clear hb hbox hg; have hcz4_0 : w3.cell? ⟨gb106, 0, none⟩ = some (.slice A0_0 l0_0.length c0_0) := (blk_cell BK106.out 0).trans rfl; have hcz4_1 : w3.cell? ⟨gb106, 1, none⟩ = some (.slice A0_1 l0_1.length c0_1) := (blk_cell BK106.out 1).trans rfl; have hfz4_0 := blk_frozen BK106.out 0; have hfz4_1 := blk_frozen BK106.out 1))
 go_ret
 exact ⟨by first | rfl | (simp [errW_none, errW_some] <;> rfl) | (simp only [← hji2]; first | rfl | (simp [errW_none, errW_some] <;> rfl)) | (simp [*, errW_none, errW_some] <;> rfl), by repeat (first | (with_reducible first | exact HB.out | apply below_alloc | apply pwd | apply bd1 | refine below_set ?_ GE106.out) | exact HB.out)⟩
def IsS93 (w0 W : World) (g : Nat) (f0 : ByteArray) (f1 : ByteArray) : Prop := W.heap[g]? = some (.cells #[.string f0, .string f1] 93 (0, 0)) ∧ w0.heap.size ≤ g
theorem IsS93.grown {w0 W : World} {g : Nat} {f0 : ByteArray} {f1 : ByteArray} {W1 : World} {row : Option Nat} (h : IsS93 w0 W g f0 f1) (hw : W.grownBy W1 row) (hne : some g ≠ row) : IsS93 w0 W1 g f0 f1 := by
  obtain ⟨hb, hg⟩ := h
  exact ⟨blk_grown hb hw hne, hg⟩
theorem IsS93.below {w0 W : World} {g : Nat} {f0 : ByteArray} {f1 : ByteArray} {W1 : World} (h : IsS93 w0 W g f0 f1) (hw : Below W.heap.size W W1) : IsS93 w0 W1 g f0 f1 := h.grown (grown_of_below hw none) (by simp)
theorem IsS93.alloc {w0 W : World} {g : Nat} {f0 : ByteArray} {f1 : ByteArray} (h : IsS93 w0 W g f0 f1) (o : Obj) : IsS93 w0 (W.alloc o) g f0 f1 := h.below (below_alloc (Below.refl _ _) o)
theorem IsS93.drewN {w0 W : World} {g : Nat} {f0 : ByteArray} {f1 : ByteArray} (h : IsS93 w0 W g f0 f1) (m : Nat) : IsS93 w0 (W.drewN m) g f0 f1 := h
theorem IsS93.drew {w0 W : World} {g : Nat} {f0 : ByteArray} {f1 : ByteArray} (h : IsS93 w0 W g f0 f1) : IsS93 w0 W.drew g f0 f1 := h
theorem IsS93.own_ne {w0 W : World} {g : Nat} {f0 : ByteArray} {f1 : ByteArray} {α : Type} {d : Kd α} {e : Nat} {base : Nat} {ok : Nat → Prop} {v : Value} {xs : List α} (h : IsS93 w0 W g f0 f1) (ho : d.R e W base ok v xs) (ht : e ≠ 93) : some g ≠ v.ownBlock := by
  obtain ⟨hb, hg⟩ := h
  exact Kd.R_ne ho hb ht
theorem IsS93.lt {w0 W : World} {g : Nat} {f0 : ByteArray} {f1 : ByteArray} (h : IsS93 w0 W g f0 f1) : g < W.heap.size := by
  obtain ⟨hb, hg⟩ := h
  exact blk_lt hb
theorem IsS93.ge {w0 W : World} {g : Nat} {f0 : ByteArray} {f1 : ByteArray} (h : IsS93 w0 W g f0 f1) : w0.heap.size ≤ g := by
  obtain ⟨hb, hg⟩ := h
  exact hg
theorem IsS93.far {w0 W : World} {g : Nat} {f0 : ByteArray} {f1 : ByteArray} {p : Addr} (h : IsS93 w0 W g f0 f1) (hne : g ≠ p.block) (u : Value) : IsS93 w0 (W.setCell p u) g f0 f1 := by
  obtain ⟨hb, hg⟩ := h
  exact ⟨blk_far hb hne u, hg⟩
theorem cellS93_0 {W : World} {g : Nat} {f0 : ByteArray} {f1 : ByteArray} (h : W.heap[g]? = some (.cells #[.string f0, .string f1] 93 (0, 0))) : W.cell? ⟨g, 0, none⟩ = some (.string f0) := (blk_cell h 0).trans rfl
theorem IsS93.set_0 {w0 W : World} {g : Nat} {f0 : ByteArray} {f1 : ByteArray} (h : IsS93 w0 W g f0 f1) (x : ByteArray) : IsS93 w0 (W.setCell ⟨g, 0, none⟩ (.string x)) g x f1 := by
  obtain ⟨hb, hg⟩ := h
  exact ⟨by simpa using blk_set hb 0 (.string x), hg⟩
theorem cellS93_1 {W : World} {g : Nat} {f0 : ByteArray} {f1 : ByteArray} (h : W.heap[g]? = some (.cells #[.string f0, .string f1] 93 (0, 0))) : W.cell? ⟨g, 1, none⟩ = some (.string f1) := (blk_cell h 1).trans rfl
theorem IsS93.set_1 {w0 W : World} {g : Nat} {f0 : ByteArray} {f1 : ByteArray} (h : IsS93 w0 W g f0 f1) (x : ByteArray) : IsS93 w0 (W.setCell ⟨g, 1, none⟩ (.string x)) g f0 x := by
  obtain ⟨hb, hg⟩ := h
  exact ⟨by simpa using blk_set hb 1 (.string x), hg⟩
theorem IsS93.new (w0 W : World) (f0 : ByteArray) (f1 : ByteArray) (hB : Below w0.heap.size w0 W) : IsS93 w0 (W.alloc (.cells #[.string f0, .string f1] 93)) W.heap.size f0 f1 := ⟨by simpa using heap_alloc_new W _, hB.size⟩
def fixes_reader_take.f (s0_0 : ByteArray) (s0_1 : ByteArray) : Option (Int × ByteArray × ByteArray) := if s0_0.toList = ([] : List UInt8) then (some (0, s0_0, s0_1)) else (if 0 < (s0_0.size : Int) then (if 1 ≤ (s0_0.size : Int) then (some (bt s0_0 0, s0_0.extract 1 s0_0.size, s0_1)) else (none)) else (none))
set_option maxHeartbeats 8000000 in
set_option maxRecDepth 100000 in
theorem fixes_reader_take.calls (g : Nat) (s0_0 : ByteArray) (s0_1 : ByteArray) (r1 : Int) (r2 : ByteArray) (r3 : ByteArray) (w0 w : World) (hI : IsS93 w0 w g s0_0 s0_1) (hB : Below w0.heap.size w0 w) (h : fixes_reader_take.f s0_0 s0_1 = some (r1, r2, r3)) :
  Calls Try.prog 85 #[.pointer (some ⟨g, 0, none⟩)] w fun e w' => e = .returned (.int .u8 r1) ∧ IsS93 w0 w' g r2 r3 ∧ Below w0.heap.size w0 w' ∧ KeepBut w w' g none := by
 have HI0 := As0.mk hI
 have HK := As0.mk (KeepBut.refl w g none)
 have HL := As0.mk hB.size
 clear hI
 have HW0 := As0.mk hB.size
 have HB := As0.mk hB
 clear hB
 have H : (if s0_0.toList = ([] : List UInt8) then (some (0, s0_0, s0_1)) else (if 0 < (s0_0.size : Int) then (if 1 ≤ (s0_0.size : Int) then (some (bt s0_0 0, s0_0.extract 1 s0_0.size, s0_1)) else (none)) else (none))) = some (r1, r2, r3) := h
 clear h
 by_cases c2 : s0_0.toList = ([] : List UInt8)
 ·rw [if_pos c2] at H
  have c2b0 : (s0_0.toList == ([] : List UInt8)) = true := beq_iff_eq.mpr c2
  have c2b1 : (s0_0.toList != ([] : List UInt8)) = false := bne_eq_false_iff_eq.mpr c2
  clear c2
  simp only [Option.some.injEq, Prod.mk.injEq] at H
  obtain ⟨rfl, rfl, rfl⟩ := H
  obtain ⟨HGz3, hgz3⟩ := HI0.out
  have hcz3_0 := cellS93_0 HGz3
  have hcz3_1 := cellS93_1 HGz3
  have hfz3_0 := blk_frozen HGz3 0
  have hfz3_1 := blk_frozen HGz3 1
  clear HGz3 hgz3
  go_enter Try.func85, Try.ntmps85
  go_wp2
  go_ret
  exact ⟨by first | rfl | (simp [errW_none, errW_some] <;> rfl) | (simp [*, errW_none, errW_some] <;> rfl), by repeat (first | (with_reducible first | exact HI0.out | apply IsS93.alloc | apply IsS93.drewN | apply IsS93.drew | apply IsS93.set_0 | apply IsS93.set_1) | exact HI0.out), by repeat (first | (with_reducible first | exact HB.out | apply below_alloc | apply pwd | apply bd1 | refine below_set ?_ (IsS93.ge HI0.out)) | exact HB.out), by repeat (first | (with_reducible first | exact HK.out | apply KeepBut.set_ | apply keep_drewN | apply keep_drew | apply keep_alloc) | exact HK.out)⟩
 ·rw [if_neg c2] at H
  have c2b0 : (s0_0.toList == ([] : List UInt8)) = false := beq_eq_false_iff_ne.mpr c2
  have c2b1 : (s0_0.toList != ([] : List UInt8)) = true := bne_iff_ne.mpr c2
  by_cases c4 : 0 < (s0_0.size : Int)
  ·rw [if_pos c4] at H
   have c4b0 : decide (0 < (s0_0.size : Int)) = true := decide_eq_true c4
   have c4b1 : decide (0 < s0_0.size) = true := decide_eq_true (by omega)
   clear c4
   by_cases c6 : 1 ≤ (s0_0.size : Int)
   ·rw [if_pos c6] at H
    have c6b0 := eq_true c6
    have c6b1 : decide (1 ≤ (s0_0.size : Int)) = true := decide_eq_true c6
    clear c6
    simp only [Option.some.injEq, Prod.mk.injEq] at H
    obtain ⟨rfl, rfl, rfl⟩ := H
    obtain ⟨HGz7, hgz7⟩ := HI0.out
    have hcz7_0 := cellS93_0 HGz7
    have hcz7_1 := cellS93_1 HGz7
    have hfz7_0 := blk_frozen HGz7 0
    have hfz7_1 := blk_frozen HGz7 1
    clear HGz7 hgz7
    have p5 : 0 ≤ (0 : Int) := (by omega)
    have q5 : 0 < s0_0.size := (by have : (0 : Int) < (s0_0.size : Int) := of_decide_eq_true (by first | (with_reducible assumption) | assumption); omega)
    have hx5 : ∀ h : 0 < s0_0.size, ((s0_0[0]'h).toNat : Int) = bt s0_0 0 := bt_at s0_0 0
    clear p5
    have qi5 : (0 < (s0_0.size : Int)) = True := eq_true (of_decide_eq_true (by first | (with_reducible assumption) | assumption))
    replace q5 := eq_true q5
    go_enter Try.func85, Try.ntmps85
    go_wp2
    go_ret
    exact ⟨by first | rfl | (simp [errW_none, errW_some] <;> rfl) | (simp [*, errW_none, errW_some] <;> rfl), by repeat (first | (with_reducible first | exact HI0.out | apply IsS93.alloc | apply IsS93.drewN | apply IsS93.drew | apply IsS93.set_0 | apply IsS93.set_1) | exact HI0.out), by repeat (first | (with_reducible first | exact HB.out | apply below_alloc | apply pwd | apply bd1 | refine below_set ?_ (IsS93.ge HI0.out)) | exact HB.out), by repeat (first | (with_reducible first | exact HK.out | apply KeepBut.set_ | apply keep_drewN | apply keep_drew | apply keep_alloc) | exact HK.out)⟩
   ·rw [if_neg c6] at H
    exact absurd H (by simp)
  ·rw [if_neg c4] at H
   exact absurd H (by simp)
def fixes_isMark.f (a0 : Int) : Option (Bool) := if a0 ≥ 48 then (some (decide (a0 ≤ 51))) else (some false)
set_option maxHeartbeats 8000000 in
set_option maxRecDepth 100000 in
theorem fixes_isMark.calls (a0 : Int) (r : Bool) (w : World) (h : fixes_isMark.f a0 = some r) :
    Calls Try.prog 86 #[.int .u8 a0] w fun e w' => e = .returned (.bool r) ∧ Drawn0 w w' := by
  have H : (if a0 ≥ 48 then (some (decide (a0 ≤ 51))) else (some false)) = some r := h
  clear h
  by_cases c2 : a0 ≥ 48
  · rw [if_pos c2] at H
    have c2b0 : decide (48 ≤ a0) = true := decide_eq_true c2
    clear c2
    obtain rfl := Option.some.inj H
    go_enter Try.func86, Try.ntmps86
    go_wp2
    go_ret
    exact ⟨by first | rfl | (simp; done) | (simp [*]; done), by repeat (first | exact Drawn0.refl _ | apply Drawn0.step)⟩
  · rw [if_neg c2] at H
    have c2b0 : decide (48 ≤ a0) = false := decide_eq_false c2
    clear c2
    obtain rfl := Option.some.inj H
    go_enter Try.func86, Try.ntmps86
    go_wp2
    go_ret
    exact ⟨by first | rfl | (simp; done) | (simp [*]; done), by repeat (first | exact Drawn0.refl _ | apply Drawn0.step)⟩
def fixes_isLetter.f (a0 : Int) : Option (Bool) := if a0 ≥ 120 then (some (decide (a0 ≤ 122))) else (some false)
set_option maxHeartbeats 8000000 in
set_option maxRecDepth 100000 in
theorem fixes_isLetter.calls (a0 : Int) (r : Bool) (w : World) (h : fixes_isLetter.f a0 = some r) :
    Calls Try.prog 87 #[.int .u8 a0] w fun e w' => e = .returned (.bool r) ∧ Drawn0 w w' := by
  have H : (if a0 ≥ 120 then (some (decide (a0 ≤ 122))) else (some false)) = some r := h
  clear h
  by_cases c2 : a0 ≥ 120
  · rw [if_pos c2] at H
    have c2b0 : decide (120 ≤ a0) = true := decide_eq_true c2
    clear c2
    obtain rfl := Option.some.inj H
    go_enter Try.func87, Try.ntmps87
    go_wp2
    go_ret
    exact ⟨by first | rfl | (simp; done) | (simp [*]; done), by repeat (first | exact Drawn0.refl _ | apply Drawn0.step)⟩
  · rw [if_neg c2] at H
    have c2b0 : decide (120 ≤ a0) = false := decide_eq_false c2
    clear c2
    obtain rfl := Option.some.inj H
    go_enter Try.func87, Try.ntmps87
    go_wp2
    go_ret
    exact ⟨by first | rfl | (simp; done) | (simp [*]; done), by repeat (first | exact Drawn0.refl _ | apply Drawn0.step)⟩
def q8list.f (l0 : List Int) : Option (List Int) := if 0 ≤ (mn (l0.length : Int) 9) then (if (mn (l0.length : Int) 9) ≤ (l0.length : Int) then ((X.slices_Clone.f (l0.take ((mn (l0.length : Int) 9) : Int).toNat)).bind fun t111 => (some t111)) else (none)) else (none)
set_option maxHeartbeats 8000000 in
set_option maxRecDepth 100000 in
theorem q8list.calls (A0 : Option Addr) (c0 : Nat) (l0 : List Int) (r : List Int) (w : World) (hr0 : Kd.C (Kd.int .i64) w A0 l0.length l0) (hc0 : l0.length ≤ c0) (h : q8list.f l0 = some r) :
  Calls Try.prog 48 #[.slice A0 l0.length c0] w fun e w' => ∃ v0_ : Value, e = .returned (v0_) ∧ Kd.R (Kd.int .i64) 3 w' w.heap.size (fun _ => True) v0_ r ∧ Below w.heap.size w w' := by
 have HR0 := As0.mk hr0
 have HC0 := As0.mk hc0
 clear hr0 hc0
 have HB := As0.mk (Below.refl w.heap.size w)
 have H : (if 0 ≤ (mn (l0.length : Int) 9) then (if (mn (l0.length : Int) 9) ≤ (l0.length : Int) then ((X.slices_Clone.f (l0.take ((mn (l0.length : Int) 9) : Int).toNat)).bind fun t111 => (some t111)) else (none)) else (none)) = some r := h
 clear h
 obtain ⟨ji2, hji2⟩ : ∃ j_ : Int, (mn (l0.length : Int) 9) = j_ := ⟨_, rfl⟩
 replace H : (if 0 ≤ (ji2) then (if (ji2) ≤ (l0.length : Int) then ((X.slices_Clone.f (l0.take ((ji2) : Int).toNat)).bind fun t111 => (some t111)) else (none)) else (none)) = some r := by first | (rw [hji2] at H; exact H) | (simp only [hji2] at H ⊢; exact H)
 (try (have hji2h : ji2 ≤ 9 := by (rw [← hji2]; unfold mn; (repeat' split) <;> omega)))
 (try (have hji2g : ji2 ≤ 64 := by omega))
 (try (have hji2l : 0 ≤ ji2 := by (rw [← hji2]; unfold mn; (repeat' split) <;> omega)))
 (try (have hji2m : 0 ≤ ji2 := by omega))
 have hji2_ : (if 9 < (l0.length : Int) then 9 else (l0.length : Int)) = ji2 := hji2
 by_cases c3 : 0 ≤ (ji2)
 ·rw [if_pos c3] at H
  have c3b0 := eq_true c3
  have c3b1 : decide (0 ≤ (ji2)) = true := decide_eq_true c3
  clear c3
  by_cases c4 : (ji2) ≤ (l0.length : Int)
  ·rw [if_pos c4] at H
   have c4b0 := eq_true c4
   have c4b1 : decide ((ji2) ≤ (l0.length : Int)) = true := decide_eq_true c4
   clear c4
   replace H := Option.bind_eq_some_iff.mp H
   obtain ⟨t111, A50, H⟩ := H
   replace H : (some t111) = some r := H
   have A5 := As0.mk A50
   clear A50
   obtain rfl := Option.some.inj H
   obtain ⟨i06, hi06, _, hsz6, _⟩ := info_parts info3
   obtain ⟨hcut6, hA6, hC6⟩ := print_take_of (P := Try.prog) (Value.int .i64) 0 22 3 .i64 Try.underlying22 hi06 hsz6 A0 c0 l0 (ji2) (of_decide_eq_true (by first | (with_reducible assumption) | assumption)) (of_decide_eq_true (by first | (with_reducible assumption) | assumption)) HC0.out
   have HR110 := As0.mk (Kd.C_of_reads (h1 := fun _ => rfl) (hA6 _ (Kd.reads_of_C HR0.out)))
   have HC110 := As0.mk hC6
   clear hA6 hC6 hi06 hsz6
   go_enter Try.func48, Try.ntmps48
   go_wp2_with (first | ((with_reducible refine gate_callee (f := 74) rfl ?_); refine goesL_ (some 8) rfl rfl Try.func74 (by kernel_rfl) rfl #[.slice A0 (l0.take ((ji2) : Int).toNat).length c0] rfl (by (try simp only [sm]); first | done | (rw [show (l0.take ((ji2) : Int).toNat).length = (ji2).toNat from (by rw [List.length_take]; have h_ : ((ji2) : Int) ≤ (l0.length : Int) := of_decide_eq_true (by first | (with_reducible assumption) | assumption); omega)] <;> rfl) | (simp only [hji2]; rfl) | rfl | (simp only [List.length_drop, List.length_take]; rfl)) ?_; (with_reducible refine (X.slices_Clone.calls _ _ (l0.take ((ji2) : Int).toNat) t111 _ ?side1 ?side2 A5.out).mono ?_); (case side1 => repeat (first | exact HR110.out | (with_reducible refine Kd.C_alloc ?_ _) | (with_reducible refine Kd.C_drewN ?_ _) | (with_reducible refine Kd.C_drew ?_))); (case side2 => exact HC110.out); rintro e w7 ⟨v112, rfl, ho0, hb⟩; refine ⟨_, rfl, ?_⟩; have n0_ := As0.mk (Kd.R_lower ho0 (below_size (by repeat (first | (with_reducible first | exact HB.out | apply below_alloc | apply pwd | apply bd1) | exact HB.out)))); have n1_ := As0.mk (bst (by repeat (first | (with_reducible first | exact HB.out | apply below_alloc | apply pwd | apply bd1) | exact HB.out)) hb); clear HB; have HO113 := n0_; have HB := n1_; clear n0_ n1_; (try clear hb); (try clear hb2); (try clear hk); (try clear hi); (try clear ho0)))
   go_ret
   exact ⟨_, by first | rfl | (simp [errW_none, errW_some] <;> rfl) | (simp only [← hji2]; first | rfl | (simp [errW_none, errW_some] <;> rfl)) | (simp [*, errW_none, errW_some] <;> rfl), by (with_reducible repeat (first | apply Kd.R_alloc | apply Kd.R_drewN | apply Kd.R_drew)); exact HO113.out, by repeat (first | (with_reducible first | exact HB.out | apply below_alloc | apply pwd | apply bd1) | exact HB.out)⟩
  ·rw [if_neg c4] at H
   exact absurd H (by simp)
 ·rw [if_neg c3] at H
  exact absurd H (by simp)
def q8Of.f (l0_0 : List Int) (l0_1 : List Int) : Option (List Int × List Int) := (q8list.f l0_0).bind fun t116 => ((q8list.f l0_1).bind fun t119 => (some (t116, t119)))
def q8Of.T1 : Bool × List (List Nat × List Nat) := (true, [([], []), ([0], [0]), ([1], [1]), ([], []), ([3], [3]), ([4, 2], [4]), ([2, 5], [2, 5]), ([6, 5, 0, 1, 2, 3, 4, 5, 6], [6])])
def q8Of.B1 : List Nat := [0, 1, 3, 0, 8, 31, 63, 127]
theorem q8Of.tab1 : rtab .any (opsOf Try.f17 1) = q8Of.T1 := by kernel_rfl
theorem q8Of.bits1 : waitsOk q8Of.T1.2 q8Of.B1 = true := by kernel_rfl
set_option maxHeartbeats 8000000 in
set_option maxRecDepth 100000 in
theorem q8Of.calls (A0_0 : Option Addr) (c0_0 : Nat) (l0_0 : List Int) (A0_1 : Option Addr) (c0_1 : Nat) (l0_1 : List Int) (r1 : List Int) (r2 : List Int) (w : World) (hr0_0 : Kd.C (Kd.int .i64) w A0_0 l0_0.length l0_0) (hc0_0 : l0_0.length ≤ c0_0) (hr0_1 : Kd.C (Kd.int .i64) w A0_1 l0_1.length l0_1) (hc0_1 : l0_1.length ≤ c0_1) (h : q8Of.f l0_0 l0_1 = some (r1, r2)) :
  Calls Try.prog 17 #[.agg #[.slice A0_0 l0_0.length c0_0, .slice A0_1 l0_1.length c0_1]] w fun e w' => ∃ v0_ v1_ : Value, e = .returned (.agg #[v0_, v1_]) ∧ Kd.R (Kd.int .i64) 3 w' w.heap.size (fun k_ => some k_ ≠ (v1_ : Value).ownBlock) v0_ r1 ∧ Kd.R (Kd.int .i64) 3 w' w.heap.size (fun k_ => some k_ ≠ (v0_ : Value).ownBlock) v1_ r2 ∧ Below w.heap.size w w' := by
 have hu24 := Try.underlying24
 have hu28 := Try.underlying28
 have HR0_0 := As0.mk hr0_0
 have HC0_0 := As0.mk hc0_0
 clear hr0_0 hc0_0
 have HR0_1 := As0.mk hr0_1
 have HC0_1 := As0.mk hc0_1
 clear hr0_1 hc0_1
 have HB := As0.mk (Below.refl w.heap.size w)
 have H : ((q8list.f l0_0).bind fun t116 => ((q8list.f l0_1).bind fun t119 => (some (t116, t119)))) = some (r1, r2) := h
 clear h
 replace H := Option.bind_eq_some_iff.mp H
 obtain ⟨t116, A20, H⟩ := H
 replace H : ((q8list.f l0_1).bind fun t119 => (some (t116, t119))) = some (r1, r2) := H
 have A2 := As0.mk A20
 clear A20
 replace H := Option.bind_eq_some_iff.mp H
 obtain ⟨t119, A30, H⟩ := H
 replace H : (some (t116, t119)) = some (r1, r2) := H
 have A3 := As0.mk A30
 clear A30
 simp only [Option.some.injEq, Prod.mk.injEq] at H
 obtain ⟨rfl, rfl⟩ := H
 go_enter Try.func17, Try.ntmps17
 try go_wp2_with (first | ((with_reducible refine gate_dst (N := 1) rfl ?_); refine box_event ?hg (N := 1) ?hd (cs := #[.slice A0_0 l0_0.length c0_0, .slice A0_1 l0_1.length c0_1]) (t := 24) ?hr ?_; (case hd => rfl); (case hg => rfl); (case hr => first | (go_simp; done) | (go_simp; rfl)); intro gb114 hg w4 hbox hb; have n0_ := As0.mk (bst (by repeat (first | (with_reducible first | exact HB.out | apply below_alloc | apply pwd | apply bd1) | exact HB.out)) hb); have n1_ := As0.mk (hbox); have n2_ := As0.mk ((by rw [hg]; exact (below_size (by repeat (first | (with_reducible first | exact HB.out | apply below_alloc | apply pwd | apply bd1) | exact HB.out))) : w.heap.size ≤ gb114)); have n3_ := As0.mk ((by rw [hg]; exact (below_size (by repeat (first | (with_reducible first | exact HB.out | apply below_alloc | apply pwd | apply bd1) | exact HB.out))) : w.heap.size ≤ gb114)); clear HB; have HB := n0_; have BK114 := n1_; have GW114 := n2_; have GE114 := n3_; clear n0_ n1_ n2_ n3_; clear hb hbox hg) | ((with_reducible refine gate_dst (N := 2) rfl ?_); refine box_event ?hg (N := 2) ?hd (cs := #[.slice none 0 0, .slice none 0 0]) (t := 28) ?hr ?_; (case hd => rfl); (case hg => rfl); (case hr => first | (go_simp; done) | (go_simp; rfl)); intro gb115 hg w5 hbox hb; have n0_ := As0.mk (blk_below (g := gb114) (o := .cells #[.slice A0_0 l0_0.length c0_0, .slice A0_1 l0_1.length c0_1] 24 (0, 0)) (by (with_reducible repeat (first | refine blk_drewN ?_ _ | refine blk_drew ?_ | refine blk_alloc ?_ _)); exact BK114.out) hb); have n1_ := As0.mk (bst (by repeat (first | (with_reducible first | exact HB.out | apply below_alloc | apply pwd | apply bd1 | refine below_set ?_ GE114.out) | exact HB.out)) hb); have n2_ := As0.mk (hbox); have n3_ := As0.mk ((by rw [hg]; exact (below_size (by repeat (first | (with_reducible first | exact HB.out | apply below_alloc | apply pwd | apply bd1 | refine below_set ?_ GE114.out) | exact HB.out))) : w.heap.size ≤ gb115)); have n4_ := As0.mk ((by rw [hg]; exact (below_size (by repeat (first | (with_reducible first | exact HB.out | apply below_alloc | apply pwd | apply bd1 | refine below_set ?_ GE114.out) | exact HB.out))) : w.heap.size ≤ gb115)); have n5_ := As0.mk ((by rw [hg]; exact Nat.ne_of_lt (blk_lt (g := gb114) (o := .cells #[.slice A0_0 l0_0.length c0_0, .slice A0_1 l0_1.length c0_1] 24 (0, 0)) (by (with_reducible repeat (first | refine blk_drewN ?_ _ | refine blk_drew ?_ | refine blk_alloc ?_ _)); exact BK114.out)) : gb114 ≠ gb115)); have n6_ := As0.mk ((by rw [hg]; exact Nat.ne_of_gt (blk_lt (g := gb114) (o := .cells #[.slice A0_0 l0_0.length c0_0, .slice A0_1 l0_1.length c0_1] 24 (0, 0)) (by (with_reducible repeat (first | refine blk_drewN ?_ _ | refine blk_drew ?_ | refine blk_alloc ?_ _)); exact BK114.out)) : gb115 ≠ gb114)); clear BK114; clear HB; have BK114 := n0_; have HB := n1_; have BK115 := n2_; have GW115 := n3_; have GE115 := n4_; have NB114_115 := n5_; have NB115_114 := n6_; clear n0_ n1_ n2_ n3_ n4_ n5_ n6_; clear hb hbox hg))
 have n0_ := As0.mk (blk_drew BK114.out)
 have n1_ := As0.mk (blk_drew BK115.out)
 have n2_ := As0.mk (bd1 HB.out)
 clear BK114
 clear BK115
 clear HB
 have BK114 := n0_
 have BK115 := n1_
 have HB := n2_
 clear n0_ n1_ n2_
 refine start_ (n := 8) (S := fun w' => w'.cell? ⟨gb114, 0, none⟩ = some (.slice A0_0 l0_0.length c0_0) ∧ w'.cell? ⟨gb114, 1, none⟩ = some (.slice A0_1 l0_1.length c0_1)) (ds := []) #[false, false, false, false, false, false, false, false] (by kernel_rfl) rfl rfl ⟨(blk_cell BK114.out 0).trans rfl, (blk_cell BK114.out 1).trans rfl⟩ (fun hHeld => ?_); refine with_tabW q8Of.tab1 q8Of.bits1 (fun HT_ HW_ => ?_)
 generalize w5.drew = w6 at BK114 BK115 HB hHeld ⊢
 refine pure_ (i := 0) (N := some 3) (v := ?_) (a' := ?_) #[true, false, false, false, false, false, false, false] rfl rfl (any_of HT_.out (by kernel_rfl)) (fun _ _ _ h => h) (Or.inl ⟨by rfl, ?_⟩) ?_ ?_
 rotate_left;(intro w';go_simp;with_reducible rfl);rotate_left;(simp only [Act.put, sq];rfl)
 refine pure_ (i := 3) (N := some 6) (v := ?_) (a' := ?_) #[true, false, false, true, false, false, false, false] rfl rfl (any_of HT_.out (by kernel_rfl)) (fun _ _ _ h => h) (Or.inl ⟨by rfl, ?_⟩) ?_ ?_
 rotate_left;(intro w';go_simp;with_reducible rfl);rotate_left;(simp only [Act.put, sq];rfl)
 refine take_ (i := 1) (N := some 4) (v := ?_) (a' := ?_) #[true, true, false, true, false, false, false, false] rfl rfl (take_ofW HT_.out HW_.out (by kernel_rfl)) (fun _ _ _ h => h) (Or.inl ⟨by rfl, ?_⟩) hHeld ?_ ?_
 rotate_left
 ·rintro w' ⟨s0, s1⟩
  go_simp
  with_reducible rfl
 rotate_left
 ·simp only [Act.put, sq]
  rfl
 refine take_ (i := 4) (N := some 7) (v := ?_) (a' := ?_) #[true, true, false, true, true, false, false, false] rfl rfl (take_ofW HT_.out HW_.out (by kernel_rfl)) (fun _ _ _ h => h) (Or.inl ⟨by rfl, ?_⟩) hHeld ?_ ?_
 rotate_left
 ·rintro w' ⟨s0, s1⟩
  go_simp
  with_reducible rfl
 rotate_left
 ·simp only [Act.put, sq]
  rfl
 refine one_ (i := 2) (N := some 5) #[true, true, true, true, true, false, false, false] rfl rfl (one_of HT_.out (by kernel_rfl)) (by decide) (fun K hK => ?_)
 refine goes_ Try.func48 (by kernel_rfl) rfl #[.slice A0_0 l0_0.length c0_0] (by rfl) rfl rfl (by (try simp only [sm]); first | done | rfl | (simp only [List.length_drop, List.length_take]; rfl)) ?_
 with_reducible refine (q8list.calls _ _ l0_0 t116 _ ?side1 ?side2 A2.out).mono ?_
 (case side1 => repeat (first | exact (Kd.C_below HR0_0.out HB.out) | (with_reducible refine Kd.C_alloc ?_ _) | (with_reducible refine Kd.C_drewN ?_ _) | (with_reducible refine Kd.C_drew ?_)))
 (case side2 => exact HC0_0.out)
 rintro e w7 ⟨v117, rfl, ho0, hb⟩
 refine ⟨_, rfl, ?_⟩
 have n0_ := As0.mk (Kd.R_lower ho0 (below_size (by repeat (first | (with_reducible first | exact HB.out | apply below_alloc | apply pwd | apply bd1 | refine below_set ?_ GE114.out | refine below_set ?_ GE115.out) | exact HB.out))))
 have n1_ := As0.mk (blk_below (g := gb114) (o := .cells #[.slice A0_0 l0_0.length c0_0, .slice A0_1 l0_1.length c0_1] 24 (0, 0)) (by (with_reducible repeat (first | refine blk_drewN ?_ _ | refine blk_drew ?_ | refine blk_alloc ?_ _)); exact BK114.out) hb)
 have n2_ := As0.mk (blk_below (g := gb115) (o := .cells #[.slice none 0 0, .slice none 0 0] 28 (0, 0)) (by (with_reducible repeat (first | refine blk_drewN ?_ _ | refine blk_drew ?_ | refine blk_alloc ?_ _)); exact BK115.out) hb)
 have n3_ := As0.mk (bst (by repeat (first | (with_reducible first | exact HB.out | apply below_alloc | apply pwd | apply bd1 | refine below_set ?_ GE114.out | refine below_set ?_ GE115.out) | exact HB.out)) hb)
 clear BK114
 clear BK115
 clear HB
 have HO118 := n0_
 have BK114 := n1_
 have BK115 := n2_
 have HB := n3_
 clear n0_ n1_ n2_ n3_
 (try clear hb)
 (try clear hb2)
 (try clear hk)
 (try clear hi)
 (try clear ho0)
 refine hK.out _ _ ⟨(blk_cell BK114.out 0).trans rfl, (blk_cell BK114.out 1).trans rfl⟩ (fun hHeld => ?_)
 clear hK K
 refine norm_ (a' := ?_) ?_ ?_
 rotate_left
 ·show Act.put _ (some 5) _ = _
  simp only [Act.put, sq]
  rfl
 refine one_ (i := 5) (N := some 8) #[true, true, true, true, true, true, false, false] rfl rfl (one_of HT_.out (by kernel_rfl)) (by decide) (fun K hK => ?_)
 refine goes_ Try.func48 (by kernel_rfl) rfl #[.slice A0_1 l0_1.length c0_1] (by rfl) rfl rfl (by (try simp only [sm]); first | done | rfl | (simp only [List.length_drop, List.length_take]; rfl)) ?_
 with_reducible refine (q8list.calls _ _ l0_1 t119 _ ?side1 ?side2 A3.out).mono ?_
 (case side1 => repeat (first | exact (Kd.C_below HR0_1.out HB.out) | (with_reducible refine Kd.C_alloc ?_ _) | (with_reducible refine Kd.C_drewN ?_ _) | (with_reducible refine Kd.C_drew ?_)))
 (case side2 => exact HC0_1.out)
 rintro e w8 ⟨v120, rfl, ho0, hb⟩
 refine ⟨_, rfl, ?_⟩
 have n0_ := As0.mk (Kd.R_elder' (by (with_reducible repeat (first | apply Kd.R_alloc | apply Kd.R_drewN | apply Kd.R_drew)); exact HO118.out) (Kd.R_base ho0) hb)
 have n1_ := As0.mk (Kd.R_lower (Kd.R_new' ho0 (Kd.R_lt (by (with_reducible repeat (first | apply Kd.R_alloc | apply Kd.R_drewN | apply Kd.R_drew)); exact HO118.out))) (below_size (by repeat (first | (with_reducible first | exact HB.out | apply below_alloc | apply pwd | apply bd1 | refine below_set ?_ GE114.out | refine below_set ?_ GE115.out) | exact HB.out))))
 have n2_ := As0.mk (blk_below (g := gb114) (o := .cells #[.slice A0_0 l0_0.length c0_0, .slice A0_1 l0_1.length c0_1] 24 (0, 0)) (by (with_reducible repeat (first | refine blk_drewN ?_ _ | refine blk_drew ?_ | refine blk_alloc ?_ _)); exact BK114.out) hb)
 have n3_ := As0.mk (blk_below (g := gb115) (o := .cells #[.slice none 0 0, .slice none 0 0] 28 (0, 0)) (by (with_reducible repeat (first | refine blk_drewN ?_ _ | refine blk_drew ?_ | refine blk_alloc ?_ _)); exact BK115.out) hb)
 have n4_ := As0.mk (bst (by repeat (first | (with_reducible first | exact HB.out | apply below_alloc | apply pwd | apply bd1 | refine below_set ?_ GE114.out | refine below_set ?_ GE115.out) | exact HB.out)) hb)
 clear HO118
 clear BK114
 clear BK115
 clear HB
 have HO118 := n0_
 have HO121 := n1_
 have BK114 := n2_
 have BK115 := n3_
 have HB := n4_
 clear n0_ n1_ n2_ n3_ n4_
 (try clear hb)
 (try clear hb2)
 (try clear hk)
 (try clear hi)
 (try clear ho0)
 obtain ⟨Ao9, co9, eo9⟩ := Kd.R_slice HO121.out
 (first | subst eo9 | (injection eo9 with f1_ f2_ f3_; have f4_ := f1_.symm; have f5_ := f3_.symm; clear f1_ f2_ f3_; subst f4_; subst f5_))
 obtain ⟨Ao10, co10, eo10⟩ := Kd.R_slice HO118.out
 (first | subst eo10 | (injection eo10 with f1_ f2_ f3_; have f4_ := f1_.symm; have f5_ := f3_.symm; clear f1_ f2_ f3_; subst f4_; subst f5_))
 refine hK.out _ _ ⟨(blk_cell BK114.out 0).trans rfl, (blk_cell BK114.out 1).trans rfl⟩ (fun hHeld => ?_)
 clear hK K
 refine norm_ (a' := ?_) ?_ ?_
 rotate_left
 ·show Act.put _ (some 8) _ = _
  simp only [Act.put, sq]
  rfl
 refine pure_ (i := 6) (N := some 9) (v := ?_) (a' := ?_) #[true, true, true, true, true, true, true, false] rfl rfl (any_of HT_.out (by kernel_rfl)) (fun _ _ _ h => h) (Or.inl ⟨by rfl, ?_⟩) ?_ ?_
 rotate_left;(intro w';go_simp;with_reducible rfl);rotate_left;(simp only [Act.put, sq];rfl)
 refine one_ (i := 7) (N := none) #[true, true, true, true, true, true, true, true] rfl rfl (one_of HT_.out (by kernel_rfl)) (by decide) (fun K hK => ?_)
 have hs11 : w8.cell? ⟨gb115, 0, none⟩ = some (.slice none 0 0) := (blk_cell BK115.out 0).trans rfl
 have hfs11 := blk_frozen BK115.out 0
 have hns11_0 := NB114_115.out
 have hms11_0 := NB115_114.out
 have hs12 : w8.cell? ⟨gb115, 1, none⟩ = some (.slice none 0 0) := (blk_cell BK115.out 1).trans rfl
 have hfs12 := blk_frozen BK115.out 1
 have hns12_0 := NB114_115.out
 have hms12_0 := NB115_114.out
 refine skip_ (w1 := ?_) (by rfl) rfl ?_ ?_
 rotate_left
 ·go_simp
  rfl
 refine hK.out _ _ ⟨((cell_far (p := ⟨gb115, _, none⟩) NB114_115.out _).trans (((cell_far (p := ⟨gb115, _, none⟩) NB114_115.out _).trans (hHeld.1)))), ((cell_far (p := ⟨gb115, _, none⟩) NB114_115.out _).trans (((cell_far (p := ⟨gb115, _, none⟩) NB114_115.out _).trans (hHeld.2))))⟩ (fun hHeld => ?_)
 clear hK K
 refine done_ (done_of HT_.out (by kernel_rfl)) ?_
 try go_wp2
 refine bodyPost_ret (results_cell_row rfl _ _ gb115 28 #[.slice Ao10 t116.length co10, .slice Ao9 t119.length co9] (0, 0) _ rfl (by (with_reducible repeat (first | refine blk_drewN ?_ _ | refine blk_drew ?_ | refine blk_alloc ?_ _)); refine blk_put (cs := #[.slice Ao10 t116.length co10, .slice none 0 0]) ?_ 1 _ rfl; (with_reducible repeat (first | refine blk_drewN ?_ _ | refine blk_drew ?_ | refine blk_alloc ?_ _)); refine blk_put (cs := #[.slice none 0 0, .slice none 0 0]) ?_ 0 _ rfl; (with_reducible repeat (first | refine blk_drewN ?_ _ | refine blk_drew ?_ | refine blk_alloc ?_ _)); exact BK115.out) Try.underlying28 rfl (by kernel_rfl)) rfl ?_
 exact ⟨_, _, by first | rfl | (simp [errW_none, errW_some] <;> rfl) | (simp [*, errW_none, errW_some] <;> rfl), by (with_reducible repeat (first | apply Kd.R_alloc | apply Kd.R_drewN | apply Kd.R_drew)); exact Kd.R_mono (Kd.R_far (p := ⟨gb115, 1, none⟩) (Kd.R_far (p := ⟨gb115, 0, none⟩) (Kd.R_types HO118.out BK115.out (by decide)) (fun _ hk => hk.2) (.slice Ao10 t116.length co10)) (fun _ hk => hk.2) (.slice Ao9 t119.length co9)) (fun _ hk => hk.1.2), by (with_reducible repeat (first | apply Kd.R_alloc | apply Kd.R_drewN | apply Kd.R_drew)); exact Kd.R_mono (Kd.R_far (p := ⟨gb115, 1, none⟩) (Kd.R_far (p := ⟨gb115, 0, none⟩) (Kd.R_types HO121.out BK115.out (by decide)) (fun _ hk => hk.2) (.slice Ao10 t116.length co10)) (fun _ hk => hk.2) (.slice Ao9 t119.length co9)) (fun _ hk => hk.1.2), by repeat (first | (with_reducible first | exact HB.out | apply below_alloc | apply pwd | apply bd1 | refine below_set ?_ GE114.out | refine below_set ?_ GE115.out) | exact HB.out)⟩
end Go.Proofs.Ytjffhhalmicodaa.PA
end
