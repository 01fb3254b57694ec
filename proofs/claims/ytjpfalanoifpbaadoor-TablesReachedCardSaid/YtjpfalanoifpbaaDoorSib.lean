/- Texts of this claim, merged by a program (wip/tools/shake.py); what nothing names is left out. -/
import Derived.WideKeyPair
import Derived.Deep.Slices
import Derived.OpenShut
import Derived.DataElems
import Derived.MapKept
import Derived.Laws.IdiomRangeMap
import Derived.KernelRfl
import Derived.Laws.StructEq
import Derived.Laws.Cover2
import Derived.Maps.RangeRun
import Derived.Shelf.SlSortCmp.InsertionK
import Derived.Shelf.SlSortCmp.WholeK
import Derived.Lib.SmallJoins
import Derived.Lib.SliceRun
import Derived.Test.YtjpfalanoifpbaaDoorSia
section
set_option linter.unusedVariables false
namespace Go.Proofs.YtjpfalanoifpbaaDoor.X
open Go.RowKit Go.WideShapes Go.WideMaps Go.Deep Go.ChangeShapes Go.Proofs.YtjpfalanoifpbaaDoorW.PrintWords Go.Proofs.YtjpfalanoifpbaaDoorW.PrintLast Go.Proofs.YtjpfalanoifpbaaDoorW.PrintMore Go.Proofs.YtjpfalanoifpbaaDoor.T
theorem cells44 : Tryd.prog.cellsOf 44 = 2 := by kernel_rfl
theorem cells5_ : Tryd.prog.cellsOf 5 = 1 := by kernel_rfl
theorem cells9_ : Tryd.prog.cellsOf 9 = 1 := by kernel_rfl
set_option maxRecDepth 10000 in
theorem rule_trod {H : Type} {enc : TypeId × Value → H} {w : World} {base : Nat} {sp : Nat → Bool} {held : Bool} {fuel : Nat} {cs : List Value} {x : DataW H × List MemPlace} (h : DataW.trod enc Tryd.prog w base sp held fuel 44 cs = some x) : ∃ (a : Int) (s : ByteArray), cs = [.int .u8 a, .string s] ∧ s.size ≤ 9223372036854775807 := by
  obtain ⟨y0, y1, m, _, hl, h0, h1⟩ := trod_struct2 Tryd.underlying44 h
  rw [cells44] at hl
  match cs, hl with
  | [c0, c1], _ =>
    dsimp only at h0 h1
    rw [cells5_] at h0
    rw [cells9_] at h1
    obtain ⟨a, e0, _⟩ := DataW.trod_int Tryd.underlying5 h0
    obtain ⟨s, e1, _, hs⟩ := DataW.trod_string Tryd.underlying9 h1
    simp at e0 e1
    unfold maxLen at hs
    exact ⟨a, s, by rw [e0, e1], by omega⟩
theorem open_rls {H : Type} {enc : TypeId × Value → H} {w : World} {base : Nat} {held : Bool} {fuel : Nat} {A : Option Addr} {n c : Nat} {x : DataW H × List MemPlace} (h : DataW.trod enc Tryd.prog w base (fun _ => true) held fuel 22 [.slice A n c] = some x) :
    (∃ L R, Sr w A n c L R ∧ ∀ k, k < n → (R k).size ≤ 9223372036854775807) ∧ n ≤ 9223372036854775807 ∧ c ≤ 9223372036854775807 := by
  rcases open_slice Tryd.underlying22 h with ⟨hcs, _⟩ | ⟨a, len, cap, m, k, D, Pl, hcs, _, hl, hm, hmm, _, hx⟩
  · simp at hcs
    obtain ⟨rfl, rfl, rfl⟩ := hcs
    exact ⟨⟨fun _ => 0, fun _ => ByteArray.empty, .inl rfl, fun k hk => by omega⟩, by decide, by decide⟩
  · simp at hcs
    obtain ⟨rfl, rfl, rfl⟩ := hcs
    unfold maxLen at hm
    refine ⟨?_, by omega, by omega⟩
    rcases Nat.eq_zero_or_pos n with h0 | h0
    · exact ⟨fun _ => 0, fun _ => ByteArray.empty, .inl h0, fun k hk => by omega⟩
    · have hnm : n ≤ m := by rw [hmm]; simpa using hl
      obtain ⟨f, hf⟩ := choose_lt (α := Int × ByteArray) (n := n) (p := fun i q => w.cell? (a.add (i * 2)) = some (.int .u8 q.1) ∧ w.cell? (a.add (i * 2 + 1)) = some (.string q.2) ∧ q.2.size ≤ 9223372036854775807) (fun i hi => by
        obtain ⟨cs', h1, h2⟩ := hx i (by omega)
        obtain ⟨p, q, rfl, hq⟩ := rule_trod h2
        rw [cells44] at h1
        obtain ⟨_, _, h3⟩ := World.cells?_some h1
        refine ⟨(p, q), ?_, ?_, hq⟩
        · have := h3 0 (by decide)
          rw [Addr.add_add] at this
          simpa using this
        · have := h3 1 (by decide)
          rw [Addr.add_add] at this
          simpa using this)
      have hsp : a.spot = none := by
        have := (hf 0 h0).1
        rw [show a.add (0 * 2) = a by simp [Addr.add]] at this
        exact World.cell?_spot this
      have ha : ∀ j, a.add j = ⟨a.block, a.off + j, none⟩ := fun j => by
        unfold Addr.add
        by_cases hj : j = 0
        · subst hj
          rw [if_pos rfl, ← hsp]
          simp
        · rw [if_neg hj]
      refine ⟨fun i => (f i).1, fun i => (f i).2, .inr ⟨a.block, a.off, ?_, hl, fun i hi => ?_, fun i hi => ?_⟩, fun i hi => (hf i hi).2.2⟩
      · rw [← hsp]
      · rw [← ha]; exact (hf i hi).1
      · rw [Nat.add_assoc, ← ha]; exact (hf i hi).2.1
theorem open_rlsT {H : Type} {enc : TypeId × Value → H} {w : World} {base : Nat} {held : Bool} {A : Option Addr} {n c : Nat} {d : DataW H} {pl : List MemPlace} (h : DataW.Trod enc Tryd.prog w base (fun _ => true) held 22 (.slice A n c) d pl) :
    (∃ L R, Sr w A n c L R ∧ ∀ k, k < n → (R k).size ≤ 9223372036854775807) ∧ n ≤ 9223372036854775807 ∧ c ≤ 9223372036854775807 := by
  obtain ⟨m, hm⟩ := h
  exact open_rls hm
end Go.Proofs.YtjpfalanoifpbaaDoor.X
end

section
set_option linter.unusedVariables false
set_option linter.unusedSimpArgs false
set_option linter.unusedSectionVars false
namespace Go.Proofs.YtjpfalanoifpbaaDoor.X
open Go.RowKit Go.Proofs.YtjpfalanoifpbaaDoorW.PrintWords Go.Proofs.YtjpfalanoifpbaaDoorW.PrintLast Go.Proofs.YtjpfalanoifpbaaDoorW.PrintMore
section
variable {α β : Type} [DecidableEq α]
def findL (l : List (α × β)) (k : α) : Option β := match l with
  | [] => none
  | p :: r => if p.1 = k then some p.2 else findL r k
def putL (l : List (α × β)) (k : α) (v : β) : List (α × β) := match l with
  | [] => [(k, v)]
  | p :: r => if p.1 = k then (k, v) :: r else p :: putL r k v
theorem findL_putL (l : List (α × β)) (k k' : α) (v : β) : findL (putL l k v) k' = if k = k' then some v else findL l k' := by
  induction l with
  | nil => simp [putL, findL]
  | cons p r ih =>
    unfold putL
    split
    · rename_i h
      subst h
      unfold findL
      simp only
      split <;> rfl
    · rename_i h
      unfold findL
      split
      · rename_i h2
        subst h2
        rw [if_neg (fun e => h e.symm)]
      · exact ih
structure KeyOk (P : Program) (K : TypeId) (enc : α → Value) : Prop where
  inj : ∀ a b, enc a = enc b → a = b
  check : ∀ b k w, (Instr.checkKey b 10000 K (enc k)).run P w = .ok () w
  find : ∀ (k : α) (es : List MapEntry) (l : List α) w, es.map (·.key) = l.map enc → (Instr.findKey K (enc k) es).run P w = .ok ((es[l.findIdx (· = k)]?).map fun e => (l.findIdx (· = k), e.val)) w
  stays : ∀ k w, (Instr.keyThatStays (enc k) (enc k)).run P w = .ok (enc k) w
def IsM (enc : α → Value) (encv : β → Value) (w : World) (r : Nat) (l : List (α × β)) : Prop :=
  ∃ es clock, w.heap[r]? = some (.map es clock) ∧ es.toList.map (fun e => (e.key, e.val)) = (l.map fun p => (enc p.1, encv p.2)) ∧ Go.MapKept.Stamped es clock
def putObj (w : World) (r : Nat) (o : Obj) : World := { w with heap := w.heap.setIfInBounds r o }
theorem putObj_keep (w : World) (r : Nat) (o : Obj) : KeepBut w (putObj w r o) r none :=
  ⟨by simp [putObj], fun i _ hne _ => by simp only [putObj]; exact Array.getElem?_setIfInBounds_ne (Ne.symm hne)⟩
theorem putObj_below {B : Nat} {a w : World} (h : Below B a w) {r : Nat} (hr : B ≤ r) (o : Obj) : Below B a (putObj w r o) :=
  h.trans ⟨rfl, rfl, rfl, by simp [putObj], fun k hk => by simp only [putObj]; exact Array.getElem?_setIfInBounds_ne (by omega)⟩
theorem putObj_at {w : World} {r : Nat} {o o' : Obj} (h : w.heap[r]? = some o') : (putObj w r o).heap[r]? = some o := by
  simp only [putObj]
  exact Array.getElem?_setIfInBounds_self_of_lt (Array.getElem?_eq_some_iff.1 h).1
theorem findIdx_none {l : List (α × β)} {k : α} (h : findL l k = none) : (l.map (·.1)).findIdx (· = k) = l.length := by
  induction l with
  | nil => rfl
  | cons p r ih =>
    unfold findL at h
    split at h
    · cases h
    · rename_i hne
      simp only [List.map_cons, List.findIdx_cons, decide_eq_true_eq, hne, decide_false, cond_false, List.length_cons, ih h]
theorem findIdx_some {l : List (α × β)} {k : α} {v : β} (h : findL l k = some v) : l[(l.map (·.1)).findIdx (· = k)]? = some (k, v) ∧ putL l k v = l := by
  induction l with
  | nil => cases h
  | cons p r ih =>
    unfold findL at h
    split at h
    · rename_i he
      injection h with h
      subst he
      subst h
      simp [List.findIdx_cons, putL]
    · rename_i hne
      obtain ⟨h1, h2⟩ := ih h
      simp only [List.map_cons, List.findIdx_cons, hne, decide_false, cond_false, List.getElem?_cons_succ, putL, if_false, h1, h2, and_self]
theorem findL_not {l : List (α × β)} {k : α} (h : findL l k = none) : ∀ p ∈ l, p.1 ≠ k := by
  induction l with
  | nil => intro p hp; cases hp
  | cons q r ih =>
    unfold findL at h
    split at h
    · cases h
    · rename_i hne
      intro p hp
      rcases List.mem_cons.1 hp with rfl | hp
      · exact hne
      · exact ih h p hp
theorem putL_none {l : List (α × β)} {k : α} {v : β} (h : findL l k = none) : putL l k v = l ++ [(k, v)] := by
  induction l with
  | nil => rfl
  | cons p r ih =>
    unfold findL at h
    split at h
    · cases h
    · rename_i hne
      simp [putL, hne, ih h]
theorem putL_some {l : List (α × β)} {k : α} {u v : β} (h : findL l k = some u) : putL l k v = l.set ((l.map (·.1)).findIdx (· = k)) (k, v) := by
  induction l with
  | nil => cases h
  | cons p r ih =>
    unfold findL at h
    split at h
    · rename_i he
      subst he
      simp [putL, List.findIdx_cons]
    · rename_i hne
      simp [putL, hne, List.findIdx_cons, ih h]
theorem IsM.new (enc : α → Value) (encv : β → Value) (w : World) : IsM enc encv (w.alloc (.map #[] 0)) w.heap.size [] :=
  ⟨#[], 0, (Go.MapKept.heap_alloc w _).1, rfl, Go.MapKept.stamped_empty 0⟩
theorem IsM.of_heap {enc : α → Value} {encv : β → Value} {w w' : World} {r : Nat} {l : List (α × β)} (h : IsM enc encv w r l) (he : w'.heap[r]? = w.heap[r]?) : IsM enc encv w' r l := by
  obtain ⟨es, clock, hb, hl, hst⟩ := h
  exact ⟨es, clock, he.trans hb, hl, hst⟩
theorem IsM.lt {enc : α → Value} {encv : β → Value} {w : World} {r : Nat} {l : List (α × β)} (h : IsM enc encv w r l) : r < w.heap.size := by
  obtain ⟨es, clock, hb, hl, hst⟩ := h
  exact (Array.getElem?_eq_some_iff.1 hb).1
theorem IsM.below {enc : α → Value} {encv : β → Value} {w w' : World} {r : Nat} {l : List (α × β)} (h : IsM enc encv w r l) (hb : Below w.heap.size w w') : IsM enc encv w' r l :=
  h.of_heap (hb.block r h.lt)
theorem IsM.setCell {enc : α → Value} {encv : β → Value} {w : World} {r : Nat} {l : List (α × β)} (h : IsM enc encv w r l) (p : Addr) (u : Value) : IsM enc encv (w.setCell p u) r l := by
  obtain ⟨es, clock, hb, hl, hst⟩ := h
  refine ⟨es, clock, ?_, hl, hst⟩
  simp only [World.setCell, Array.getElem?_modify]
  split
  · rename_i e
    subst e
    simp [hb]
  · exact hb
theorem run_findKey_is {P : Program} {K : TypeId} {enc : α → Value} {encv : β → Value} (hK : KeyOk P K enc) {es : Array MapEntry} {l : List (α × β)} (hl : es.toList.map (fun e => (e.key, e.val)) = l.map fun p => (enc p.1, encv p.2)) (k : α) (w : World) :
    (Instr.findKey K (enc k) es.toList).run P w = .ok ((findL l k).map fun v => ((l.map (·.1)).findIdx (· = k), encv v)) w := by
  have hk : es.toList.map (·.key) = (l.map (·.1)).map enc := by
    have := congrArg (List.map Prod.fst) hl
    simpa [List.map_map, Function.comp_def] using this
  have hv : es.toList.map (·.val) = l.map fun p => encv p.2 := by
    have := congrArg (List.map Prod.snd) hl
    simpa [List.map_map, Function.comp_def] using this
  rw [hK.find k es.toList (l.map (·.1)) w hk]
  congr 1
  cases hf : findL l k with
  | none =>
    have hlen : es.toList.length = l.length := by simpa using congrArg List.length hl
    rw [findIdx_none hf, List.getElem?_eq_none (by omega)]
    rfl
  | some v =>
    obtain ⟨h1, _⟩ := findIdx_some hf
    have h2 : (es.toList.map (·.val))[(l.map (·.1)).findIdx (· = k)]? = some (encv v) := by
      rw [hv, List.getElem?_map, h1]
      rfl
    rw [List.getElem?_map] at h2
    cases he : es.toList[(l.map (·.1)).findIdx (· = k)]? with
    | none => rw [he] at h2; cases h2
    | some e =>
      rw [he] at h2
      simp only [Option.map_some, Option.some.injEq] at h2 ⊢
      rw [h2]
theorem run_lookup_is {P : Program} {t K E : TypeId} {enc : α → Value} {encv : β → Value} (hu : P.underlying t = some (.map K E)) {z : β} (hz : ∀ w, (zeroValue E).run P w = .ok (encv z) w) (hK : KeyOk P K enc) {w : World} {r : Nat} {l : List (α × β)} (h : IsM enc encv w r l) (k : α) (b : Bool) :
    (Instr.lookup t (.map (some r)) (enc k) b).run P w = .ok (if b then .tuple #[encv ((findL l k).getD z), .bool (findL l k).isSome] else encv ((findL l k).getD z)) w := by
  obtain ⟨es, clock, hb, hl, hst⟩ := h
  unfold Instr.lookup
  simp only [Sem.run_bind, run_underlying hu, Result.andThen, getObj, Sem.run, hb, Sem.run_pure, hK.check, run_findKey_is hK hl]
  cases hf : findL l k with
  | none => simp [hz, Result.andThen]
  | some v => simp [Result.andThen]
theorem run_update_is {P : Program} {t K E : TypeId} {enc : α → Value} {encv : β → Value} (hu : P.underlying t = some (.map K E)) (hK : KeyOk P K enc) {w : World} {r : Nat} {l : List (α × β)} (h : IsM enc encv w r l) (k : α) (v : β) :
    ∃ o, (Instr.mapUpdate t (.map (some r)) (enc k) (encv v)).run P w = .ok () (putObj w r o) ∧ IsM enc encv (putObj w r o) r (putL l k v) := by
  obtain ⟨es, clock, hb, hl, hst⟩ := h
  have hlen : es.toList.length = l.length := by simpa using congrArg List.length hl
  cases hf : findL l k with
  | none =>
    refine ⟨.map (es.push { key := enc k, val := encv v, born := clock }) (clock + 1), ?_, _, _, putObj_at hb, ?_, ?_⟩
    · unfold Instr.mapUpdate
      simp only [Sem.run_bind, run_underlying hu, Result.andThen, getObj, Sem.run, hb, Sem.run_pure, hK.check, run_findKey_is hK hl, hf, Option.map_none]
      exact Go.MapKept.run_setObj_map _ hb
    · rw [putL_none hf]
      simp [hl]
    · refine Go.MapKept.stamped_push hst fun x hx hxk => ?_
      have h3 : (x.key, x.val) ∈ es.toList.map fun e => (e.key, e.val) := List.mem_map.2 ⟨x, hx, rfl⟩
      rw [hl] at h3
      obtain ⟨p, hp, e⟩ := List.mem_map.1 h3
      have e1 : enc p.1 = x.key := congrArg Prod.fst e
      rw [hxk] at e1
      exact findL_not hf p hp (hK.inj _ _ e1)
  | some u =>
    obtain ⟨h1, _⟩ := findIdx_some hf
    have hidx : (l.map (·.1)).findIdx (· = k) < es.size := by
      have := (List.getElem?_eq_some_iff.1 h1).1
      have h2 : es.size = es.toList.length := rfl
      omega
    have hkey : ((es[(l.map (·.1)).findIdx (· = k)]?).map (·.key)).getD (enc k) = enc k := by
      have h3 : (es.toList.map fun e => (e.key, e.val))[(l.map (·.1)).findIdx (· = k)]? = some (enc k, encv u) := by
        rw [hl, List.getElem?_map, h1]
        rfl
      rw [List.getElem?_map] at h3
      rw [← Array.getElem?_toList]
      cases he : es.toList[(l.map (·.1)).findIdx (· = k)]? with
      | none => rw [he] at h3; cases h3
      | some e =>
        rw [he] at h3
        simp only [Option.map_some, Option.some.injEq, Prod.mk.injEq] at h3
        simp [h3.1]
    refine ⟨.map (es.modify ((l.map (·.1)).findIdx (· = k)) fun e => { e with key := enc k, val := encv v }) clock, ?_, _, _, putObj_at hb, ?_, ?_⟩
    · unfold Instr.mapUpdate
      simp only [Sem.run_bind, run_underlying hu, Result.andThen, getObj, Sem.run, hb, Sem.run_pure, hK.check, run_findKey_is hK hl, hf, Option.map_some, hkey, hK.stays]
      exact Go.MapKept.run_setObj_map _ hb
    rotate_left
    · refine Go.MapKept.stamped_modify hst _ _ (fun e _ => rfl) fun e he hei => ?_
      rw [hei] at hkey
      exact hkey.symm
    · rw [putL_some hf, List.map_set, ← hl]
      clear hkey hlen hl h1
      generalize (l.map (·.1)).findIdx (· = k) = ix at hidx ⊢
      simp only [Array.toList_modify]
      apply List.ext_getElem?
      intro j
      simp only [List.getElem?_map, List.getElem?_modify, List.getElem?_set]
      by_cases hj : ix = j
      · subst hj
        have : es.toList[ix]? = some (es.toList[ix]'(by simpa using hidx)) := List.getElem?_eq_getElem _
        rw [this]
        simp [hidx]
      · simp [hj]
end
theorem findNow_of {d : TypeDesc} {α : Type} [DecidableEq α] {enc : α → Value} (hs : ∀ a b, Instr.sameNow d (enc a) (enc b) = some (decide (a = b))) (k : α) : ∀ (es : List MapEntry) (l : List α) (i : Nat), es.map (·.key) = l.map enc →
    Instr.findNow d (enc k) es i = some ((es[l.findIdx (· = k)]?).map fun e => (i + l.findIdx (· = k), e.val))
  | [], [], i, _ => rfl
  | [], _ :: _, _, h => by simp at h
  | _ :: _, [], _, h => by simp at h
  | e :: es, a :: l, i, h => by
    simp only [List.map_cons, List.cons.injEq] at h
    unfold Instr.findNow
    rw [h.1, hs]
    by_cases hk : k = a
    · subst hk
      simp [List.findIdx_cons]
    · have hk' : ¬ a = k := fun e => hk e.symm
      simp only [hk, decide_false, List.findIdx_cons, hk', cond_false, List.getElem?_cons_succ]
      rw [findNow_of hs k es l (i + 1) h.2]
      congr 2
      funext e
      congr 1
      omega
theorem keyOk_int {P : Program} {K : TypeId} {kd : IntKind} (hu : P.underlying K = some (.int kd)) : KeyOk P K (Value.int kd) where
  inj := fun a b h => by injection h
  check := fun b k w => Go.MapKept.run_checkKey hu (show Go.MapKept.IsKey (.int kd) (.int kd k) from rfl) b 9999
  find := fun k es l w h => by
    have := Go.MapKept.run_findKey (P := P) (w := w) hu (findNow_of (d := .int kd) (enc := Value.int kd) (fun a b => by simp only [Instr.sameNow, if_true]; congr 1) k es l 0 h)
    simpa using this
  stays := fun k w => by simp [Instr.keyThatStays, Instr.sameBits]
section
variable {P : Program} {ops : Array Oper} {rest : List Oper} {o : Oper} {a : Act} {Q : Exit → Act → World → Prop} {W : World} {α β : Type} [DecidableEq α] {enc : α → Value} {encv : β → Value}
theorem gate_op {op : Op} (_ho : o.op = op) (h : wpList P ops Q (o :: rest) a W) : wpList P ops Q (o :: rest) a W := h
theorem map_make_event (hgd : o.guard = none) (t : TypeId) (ho : o.op = .makeMap t none)
    (h : ∀ r w1, r = W.heap.size → w1.heap[r]? = some (.map #[] 0) → Below W.heap.size W w1 → wpList P ops Q rest (a.put o.dst (.map (some r))) w1) : wpList P ops Q (o :: rest) a W := by
  refine Kd.event_run hgd (w1 := W.alloc (.map #[] 0)) (v := .map (some W.heap.size)) ?_ (h _ _ rfl (Go.MapKept.heap_alloc W _).1 (below_alloc (Below.refl _ _) _))
  unfold execOp
  simp only [ho, Option.map_none]
  rfl
theorem map_put_event (hgd : o.guard = none) (t : TypeId) (m k x : Operand) (ho : o.op = .insert t m k x ∨ o.op = .mapUpdate t m k x) {K E : TypeId} (hu : P.underlying t = some (.map K E)) (hK : KeyOk P K enc) {r : Nat} {l : List (α × β)} (kk : α) (xx : β)
    (hm : a.eval m = .map (some r)) (hk : a.eval k = enc kk) (hx : a.eval x = encv xx) (hM : IsM enc encv W r l)
    (h : ∀ w1, IsM enc encv w1 r (putL l kk xx) → KeepBut W w1 r none → (∀ B u, Below B u W → B ≤ r → Below B u w1) → wpList P ops Q rest (a.put o.dst undef) w1) : wpList P ops Q (o :: rest) a W := by
  obtain ⟨ob, h1, h2⟩ := run_update_is hu hK hM kk xx
  refine wpList_plain hgd fun Kc hKc => ?_
  have hrun : (execOp a.eval o).run P W = .ok .skip (putObj W r ob) := by
    unfold execOp
    rcases ho with ho | ho <;> simp [ho, hm, hk, hx, h1, Result.andThen]
  unfold Oper.wp
  rw [hrun]
  exact hKc _ _ (h _ h2 (putObj_keep W r ob) (fun B u hb hr => putObj_below hb hr ob))
end
end Go.Proofs.YtjpfalanoifpbaaDoor.X
end

section
set_option linter.unusedVariables false
namespace Go.Proofs.YtjpfalanoifpbaaDoor.T
theorem ch_end (s : ByteArray) (i : Nat) (h : s.size ≤ i) : ch s i = 0 := by
  unfold ch
  rw [dif_neg (by omega)]
section
variable (M : Nat) (sw : Nat → Int) (L : Nat → Int) (rt : Nat → List Int) (n N : Nat) (a : Cnt)
def nx (i j k : Nat) : Cnt := fun c x y => if x ≤ y ∧ y ≤ N then (if x < i ∨ (x = i ∧ y < j) then cR M sw a L rt c x y n else if x = i ∧ y = j then cR M sw a L rt c x y k else 0) else 0
variable {M sw L rt n N a}
end
def ix (p i j : Nat) : Nat := p * 81 + i * 9 + j
def c405 {α : Type} (v : Nat → α) (F : Nat → Nat → Nat → Nat) : Array α := Array.ofFn (n := 405) fun q => v (F (q.val / 81) (q.val / 9 % 9) (q.val % 9))
theorem ix_div {p i j : Nat} (hi : i < 9) (hj : j < 9) : ix p i j / 81 = p ∧ ix p i j / 9 % 9 = i ∧ ix p i j % 9 = j := by
  unfold ix
  omega
theorem ix_lt {p i j : Nat} (hp : p < 5) (hi : i < 9) (hj : j < 9) : ix p i j < 405 := by
  unfold ix
  omega
theorem ix_inj {p i j q : Nat} (hi : i < 9) (hj : j < 9) : q = ix p i j ↔ q / 81 = p ∧ q / 9 % 9 = i ∧ q % 9 = j := by
  unfold ix
  omega
theorem c405_at {α : Type} (v : Nat → α) (F : Nat → Nat → Nat → Nat) {p i j : Nat} (hp : p < 5) (hi : i < 9) (hj : j < 9) : (c405 v F)[ix p i j]? = some (v (F p i j)) := by
  obtain ⟨h1, h2, h3⟩ := ix_div (p := p) hi hj
  have h := ix_lt hp hi hj
  unfold c405
  rw [Array.getElem?_ofFn, dif_pos h, h1, h2, h3]
def put3 (F : Nat → Nat → Nat → Nat) (p i j m : Nat) : Nat → Nat → Nat → Nat := fun p' i' j' => if p' = p ∧ i' = i ∧ j' = j then m else F p' i' j'
theorem c405_set {α : Type} (v : Nat → α) (F : Nat → Nat → Nat → Nat) {p i j : Nat} (hp : p < 5) (hi : i < 9) (hj : j < 9) (m : Nat) : (c405 v F).setIfInBounds (ix p i j) (v m) = c405 v (put3 F p i j m) := by
  apply Array.ext_getElem?
  intro q
  unfold c405 put3
  rw [Array.getElem?_setIfInBounds, Array.getElem?_ofFn, Array.getElem?_ofFn]
  have hlt := ix_lt hp hi hj
  by_cases h : ix p i j = q
  · subst h
    obtain ⟨h1, h2, h3⟩ := ix_div (p := p) hi hj
    have hsz : ix p i j < (Array.ofFn (n := 405) fun q => v (F (q.val / 81) (q.val / 9 % 9) (q.val % 9))).size := by rw [Array.size_ofFn]; exact hlt
    rw [if_pos rfl, if_pos hsz, dif_pos hlt, h1, h2, h3, if_pos ⟨rfl, rfl, rfl⟩]
  · rw [if_neg h]
    split
    · have : ¬ (q / 81 = p ∧ q / 9 % 9 = i ∧ q % 9 = j) := fun e => h ((ix_inj hi hj).2 e).symm
      rw [if_neg this]
    · rfl
end Go.Proofs.YtjpfalanoifpbaaDoor.T
end

section
set_option linter.unusedVariables false
namespace Go.Proofs.YtjpfalanoifpbaaDoor.T
section
variable (sw : Nat → Int) (L : Nat → Int) (rt : Nat → List Int) (n N t : Nat)
def full : Nat → Nat → Nat → Nat := fun p i j => if i ≤ j ∧ j ≤ N then cA 101 sw L rt n t (65 + p) i j else 0
variable {sw L rt n N t}
end
end Go.Proofs.YtjpfalanoifpbaaDoor.T
end

section
set_option linter.unusedVariables false
set_option linter.unusedSimpArgs false
namespace Go.Proofs.YtjpfalanoifpbaaDoor.X
open Go.RowKit Go.Proofs.YtjpfalanoifpbaaDoorW.PrintWords Go.Proofs.YtjpfalanoifpbaaDoorW.PrintLast Go.Proofs.YtjpfalanoifpbaaDoorW.PrintMore Go.Proofs.YtjpfalanoifpbaaDoor.T
abbrev Tri := Int × Nat × Nat
def triV (u : Tri) : Value := .agg #[.int .i64 u.1, .int .i64 (u.2.1 : Nat), .int .i64 (u.2.2 : Nat)]
def natV (x : Nat) : Value := .int .i64 (x : Int)
theorem tri_eq (a b c a' b' c' : Int) (w : World) : (Op.equalIn 10000 139 (.agg #[.int .i64 a, .int .i64 b, .int .i64 c]) (.agg #[.int .i64 a', .int .i64 b', .int .i64 c'])).run Tryd.prog w = .ok (a == a' && (b == b' && c == c')) w := by
  have u3 := Tryd.underlying3
  have a3 := Tryd.isAgg3
  have z3 := Tryd.sizeOf3
  rw [show (10000 : Nat) = 9999 + 1 from rfl, Op.equalIn]
  simp only [Sem.run_bind, run_underlying Tryd.underlying139, Result.andThen_ok]
  simp only [Std.Legacy.Range.forIn_eq_forIn_range', Std.Legacy.Range.size, Nat.sub_zero, Nat.add_sub_cancel, Nat.div_one, List.range'_succ, List.range'_zero, List.forIn_cons, List.forIn_nil]
  go_simp
  by_cases h1 : a = a' <;> by_cases h2 : b = b' <;> by_cases h3 : c = c' <;> simp [h1, h2, h3]
theorem tri_check (em : Bool) (u : Tri) (w : World) : (Instr.checkKey em 10000 139 (triV u)).run Tryd.prog w = .ok () w := by
  have u3 := Tryd.underlying3
  have a3 := Tryd.isAgg3
  have z3 := Tryd.sizeOf3
  unfold triV
  rw [show (10000 : Nat) = 9998 + 1 + 1 from rfl, Instr.checkKey]
  simp only [Sem.run_bind, run_underlying Tryd.underlying139, Result.andThen_ok]
  simp only [Std.Legacy.Range.forIn_eq_forIn_range', Std.Legacy.Range.size, Nat.sub_zero, Nat.add_sub_cancel, Nat.div_one, List.range'_succ, List.range'_zero, List.forIn_cons, List.forIn_nil]
  have hk : ∀ (a : Int) w, (Instr.checkKey em (9998 + 1) 3 (.int .i64 a)).run Tryd.prog w = .ok () w := fun a w => Go.MapKept.run_checkKey u3 (show Go.MapKept.IsKey (.int .i64) (.int .i64 a) from rfl) em 9998
  go_simp
theorem tri_dec (k a : Tri) : (k.1 == a.1 && ((k.2.1 : Int) == (a.2.1 : Int) && (k.2.2 : Int) == (a.2.2 : Int))) = decide (a = k) := by
  obtain ⟨x, y, z⟩ := k
  obtain ⟨x', y', z'⟩ := a
  rw [Bool.eq_iff_iff]
  simp only [Bool.and_eq_true, beq_iff_eq, decide_eq_true_eq, Prod.mk.injEq]
  omega
theorem tri_find (k : Tri) : ∀ (es : List MapEntry) (l : List Tri) (i : Nat) (w : World), es.map (·.key) = l.map triV → (Instr.findAsking 139 (triV k) es i).run Tryd.prog w = .ok ((es[l.findIdx (· = k)]?).map fun e => (i + l.findIdx (· = k), e.val)) w
  | [], [], i, w, _ => by simp [Instr.findAsking]
  | [], _ :: _, i, w, h => by simp at h
  | _ :: _, [], i, w, h => by simp at h
  | e :: es, a :: l, i, w, h => by
    simp only [List.map_cons, List.cons.injEq] at h
    have he := tri_eq k.1 k.2.1 k.2.2 a.1 a.2.1 a.2.2 w
    rw [tri_dec] at he
    have ih := tri_find k es l (i + 1) w h.2
    unfold Instr.findAsking
    rw [Sem.run_bind, h.1]
    show ((Op.equalIn 10000 139 (triV k) (triV a)).run Tryd.prog w).andThen _ = _
    unfold triV
    rw [he]
    by_cases hk : a = k
    · subst hk
      simp [List.findIdx_cons]
    · unfold triV at ih
      simp only [Result.andThen_ok, hk, decide_false, Bool.false_eq_true, if_false, ih, List.findIdx_cons, cond_false, List.getElem?_cons_succ]
      cases es[l.findIdx (· = k)]? with
      | none => rfl
      | some x =>
        simp only [Option.map_some]
        rw [show i + 1 + l.findIdx (· = k) = i + (l.findIdx (· = k) + 1) by omega]
theorem tri_find0 (k : Tri) (es : List MapEntry) (l : List Tri) (w : World) (h : es.map (·.key) = l.map triV) : (Instr.findKey 139 (triV k) es).run Tryd.prog w = .ok ((es[l.findIdx (· = k)]?).map fun e => (l.findIdx (· = k), e.val)) w := by
  cases es with
  | nil =>
    cases l with
    | nil => simp [Instr.findKey, run_underlying Tryd.underlying139, Instr.findNow]
    | cons a l => simp at h
  | cons e es =>
    have hf := tri_find k (e :: es) l 0 w h
    have hn : Instr.findNow (.array 3 3) (triV k) (e :: es) 0 = none := by
      unfold Instr.findNow
      rfl
    simp only [Instr.findKey, Sem.run_bind, run_underlying Tryd.underlying139, Result.andThen_ok, hn]
    rw [hf]
    simp
theorem keyOk_tri : KeyOk Tryd.prog 139 triV where
  inj := fun a b h => by
    unfold triV at h
    simp only [Value.agg.injEq, Array.mk.injEq, List.cons.injEq, Value.int.injEq, true_and, and_true] at h
    exact Prod.ext h.1 (Prod.ext (by exact_mod_cast h.2.1) (by exact_mod_cast h.2.2))
  check := fun b k w => tri_check b k w
  find := fun k es l w h => tri_find0 k es l w h
  stays := fun k w => by simp [Instr.keyThatStays, Instr.sameBits, triV]
end Go.Proofs.YtjpfalanoifpbaaDoor.X
end

section
set_option linter.unusedVariables false
set_option linter.unusedSimpArgs false
namespace Go.Proofs.YtjpfalanoifpbaaDoor.X
open Go.RowKit Go.Proofs.YtjpfalanoifpbaaDoorW.PrintWords Go.Proofs.YtjpfalanoifpbaaDoorW.PrintLast Go.Proofs.YtjpfalanoifpbaaDoorW.PrintMore Go.Proofs.YtjpfalanoifpbaaDoor.T
structure Fo (w : World) (g : Nat) (sl : Value) (s : ByteArray) (M r : Nat) (a : Cnt) : Prop where
  blk : w.heap[g]? = some (.cells #[sl, .string s, .int .i64 (M : Nat), .map (some r)] 138 (0, 0))
  map : ∃ l, IsM triV natV w r l ∧ ∀ c i j, (findL l (c, i, j)).getD 0 = a c i j
theorem Fo.later {w w' : World} {g : Nat} {sl : Value} {s : ByteArray} {M r : Nat} {a : Cnt} (h : Fo w g sl s M r a) (hb : Below w.heap.size w w') : Fo w' g sl s M r a := by
  obtain ⟨l, h1, h2⟩ := h.map
  exact ⟨(hb.block _ (Array.getElem?_eq_some_iff.1 h.blk).1).trans h.blk, l, h1.below hb, h2⟩
theorem Fo.c1 {w : World} {g : Nat} {sl : Value} {s : ByteArray} {M r : Nat} {a : Cnt} (h : Fo w g sl s M r a) : w.cell? ⟨g, 1, none⟩ = some (.string s) := by
  rw [blk_cell h.blk]
  rfl
theorem Fo.c2 {w : World} {g : Nat} {sl : Value} {s : ByteArray} {M r : Nat} {a : Cnt} (h : Fo w g sl s M r a) : w.cell? ⟨g, 2, none⟩ = some (.int .i64 (M : Nat)) := by
  rw [blk_cell h.blk]
  rfl
theorem Fo.c3 {w : World} {g : Nat} {sl : Value} {s : ByteArray} {M r : Nat} {a : Cnt} (h : Fo w g sl s M r a) : w.cell? ⟨g, 3, none⟩ = some (.map (some r)) := by
  rw [blk_cell h.blk]
  rfl
theorem zero3 : ∀ w, (zeroValue 3).run Tryd.prog w = .ok (natV 0) w := fun _ => by kernel_rfl
end Go.Proofs.YtjpfalanoifpbaaDoor.X
end

section
set_option linter.unusedVariables false
set_option linter.unusedSimpArgs false
namespace Go.Proofs.YtjpfalanoifpbaaDoor.X
open Go.RowKit Go.Proofs.YtjpfalanoifpbaaDoorW.PrintWords Go.Proofs.YtjpfalanoifpbaaDoorW.PrintLast Go.Proofs.YtjpfalanoifpbaaDoorW.PrintMore Go.Proofs.YtjpfalanoifpbaaDoor.T
structure Itr (w0 w : World) (r1 r2 r : Nat) (es : Array MapEntry) (clock : Nat) (l2 : List (Tri × Nat)) (seen : Array Nat) (c0 : Nat) : Prop where
  it : w.heap[r]? = some (.mapIter (some r1) clock seen c0)
  le : clock ≤ c0
  m1 : w.heap[r1]? = some (.map es clock)
  m2 : IsM triV natV w r2 l2
  bl : Below w0.heap.size w0 w
theorem Itr.later {w0 w w' : World} {r1 r2 r : Nat} {es : Array MapEntry} {clock : Nat} {l2 : List (Tri × Nat)} {seen : Array Nat} {c0 : Nat} (h : Itr w0 w r1 r2 r es clock l2 seen c0) (hb : Below w.heap.size w w') : Itr w0 w' r1 r2 r es clock l2 seen c0 :=
  ⟨(hb.block _ (Array.getElem?_eq_some_iff.1 h.it).1).trans h.it, h.le, (hb.block _ (Array.getElem?_eq_some_iff.1 h.m1).1).trans h.m1, h.m2.below hb, h.bl.trans (hb.mono h.bl.size)⟩
end Go.Proofs.YtjpfalanoifpbaaDoor.X
end

section
set_option linter.unusedVariables false
set_option linter.unusedSimpArgs false
namespace Go.Proofs.YtjpfalanoifpbaaDoor.X
open Go.RowKit Go.Proofs.YtjpfalanoifpbaaDoorW.PrintWords Go.Proofs.YtjpfalanoifpbaaDoorW.PrintLast Go.Proofs.YtjpfalanoifpbaaDoorW.PrintMore Go.Proofs.YtjpfalanoifpbaaDoor.T
def MapC (w : World) (r : Nat) (b : Cnt) : Prop := ∃ l, IsM triV natV w r l ∧ ∀ c i j, (findL l (c, i, j)).getD 0 = b c i j
theorem MapC.later {w w' : World} {r : Nat} {b : Cnt} (h : MapC w r b) (hb : Below w.heap.size w w') : MapC w' r b := by
  obtain ⟨l, h1, h2⟩ := h
  exact ⟨l, h1.below hb, h2⟩
theorem MapC.congr {w : World} {r : Nat} {b b' : Cnt} (h : MapC w r b) (e : ∀ c i j, b c i j = b' c i j) : MapC w r b' := by
  obtain ⟨l, h1, h2⟩ := h
  exact ⟨l, h1, fun c i j => (h2 c i j).trans (e c i j)⟩
theorem MapC.lt {w : World} {r : Nat} {b : Cnt} (h : MapC w r b) : r < w.heap.size := by
  obtain ⟨l, h1, _⟩ := h
  exact h1.lt
theorem MapC.new {w w1 : World} (h1 : w1.heap[w.heap.size]? = some (.map #[] 0)) : MapC w1 w.heap.size fun _ _ _ => 0 :=
  ⟨[], ⟨#[], 0, h1, rfl, Go.MapKept.stamped_empty 0⟩, fun _ _ _ => rfl⟩
structure Tr (w0 w : World) (g : Nat) (sl : Value) (s : ByteArray) (M rk rn : Nat) (a b : Cnt) : Prop where
  fo : Fo w g sl s M rk a
  nx : MapC w rn b
  bl : Below w0.heap.size w0 w
  hg : w0.heap.size ≤ g
  hk : w0.heap.size ≤ rk
  hn : w0.heap.size ≤ rn
  ne : rk ≠ rn
theorem Tr.later {w0 w w' : World} {g : Nat} {sl : Value} {s : ByteArray} {M rk rn : Nat} {a b : Cnt} (h : Tr w0 w g sl s M rk rn a b) (hb : Below w.heap.size w w') : Tr w0 w' g sl s M rk rn a b :=
  ⟨h.fo.later hb, h.nx.later hb, h.bl.trans (hb.mono h.bl.size), h.hg, h.hk, h.hn, h.ne⟩
theorem Tr.congr {w0 w : World} {g : Nat} {sl : Value} {s : ByteArray} {M rk rn : Nat} {a b b' : Cnt} (h : Tr w0 w g sl s M rk rn a b) (e : ∀ c i j, b c i j = b' c i j) : Tr w0 w g sl s M rk rn a b' :=
  ⟨h.fo, h.nx.congr e, h.bl, h.hg, h.hk, h.hn, h.ne⟩
theorem Tr.gn {w0 w : World} {g : Nat} {sl : Value} {s : ByteArray} {M rk rn : Nat} {a b : Cnt} (h : Tr w0 w g sl s M rk rn a b) : g ≠ rn := by
  rintro rfl
  obtain ⟨l, ⟨es, clock, hb, _⟩, _⟩ := h.nx
  have := h.fo.blk
  rw [hb] at this
  cases this
theorem Tr.put {w0 w : World} {g : Nat} {sl : Value} {s : ByteArray} {M rk rn : Nat} {a b b' : Cnt} (h : Tr w0 w g sl s M rk rn a b) (c : Int) (i j m : Nat) (e : ∀ c' i' j', b' c' i' j' = if (c', i', j') = (c, i, j) then m else b c' i' j') :
    ∃ w1, (Instr.mapUpdate 136 (.map (some rn)) (triV (c, i, j)) (natV m)).run Tryd.prog w = .ok () w1 ∧ Tr w0 w1 g sl s M rk rn a b' := by
  obtain ⟨l, h1, h2⟩ := h.nx
  obtain ⟨o, hrun, hm⟩ := run_update_is Tryd.underlying136 keyOk_tri h1 (c, i, j) m
  have hot : ∀ k, k ≠ rn → (putObj w rn o).heap[k]? = w.heap[k]? := fun k hk => Array.getElem?_setIfInBounds_ne (Ne.symm hk)
  obtain ⟨lk, hk1, hk2⟩ := h.fo.map
  refine ⟨_, hrun, ⟨(hot _ h.gn).trans h.fo.blk, lk, hk1.of_heap (hot _ h.ne), hk2⟩, ⟨_, hm, fun c' i' j' => ?_⟩, h.bl.trans ⟨rfl, rfl, rfl, by simp [putObj], fun k hk => hot k (by have := h.hn; omega)⟩, h.hg, h.hk, h.hn, h.ne⟩
  rw [findL_putL, e]
  by_cases q : (c', i', j') = (c, i, j)
  · rw [if_pos q.symm, if_pos q]
    rfl
  · rw [if_neg (fun z => q z.symm), if_neg q]
    exact h2 c' i' j'
end Go.Proofs.YtjpfalanoifpbaaDoor.X
end

section
set_option linter.unusedVariables false
set_option linter.unusedSimpArgs false
namespace Go.Proofs.YtjpfalanoifpbaaDoor.X
open Go.RowKit Go.Proofs.YtjpfalanoifpbaaDoorW.PrintWords Go.Proofs.YtjpfalanoifpbaaDoorW.PrintLast Go.Proofs.YtjpfalanoifpbaaDoorW.PrintMore Go.Proofs.YtjpfalanoifpbaaDoor.T
def Tab (w : World) (g : Nat) (F : Nat → Nat → Nat → Nat) : Prop := w.heap[g]? = some (.cells (c405 natV F) 97 (0, 0))
theorem Tab.later {w w' : World} {g : Nat} {F : Nat → Nat → Nat → Nat} (h : Tab w g F) (hb : Below w.heap.size w w') : Tab w' g F :=
  (hb.block _ (Array.getElem?_eq_some_iff.1 h).1).trans h
theorem Tab.at {w : World} {g : Nat} {F : Nat → Nat → Nat → Nat} (h : Tab w g F) {p i j : Nat} (hp : p < 5) (hi : i < 9) (hj : j < 9) : w.cell? ⟨g, p * 81 + i * 9 + j, none⟩ = some (.int .i64 (F p i j : Nat)) := by
  rw [blk_cell h]
  exact c405_at natV F hp hi hj
end Go.Proofs.YtjpfalanoifpbaaDoor.X
end

section
set_option linter.unusedVariables false
set_option linter.unusedSimpArgs false
namespace Go.Proofs.YtjpfalanoifpbaaDoor.X
open Go.RowKit Go.Proofs.YtjpfalanoifpbaaDoorW.PrintWords Go.Proofs.YtjpfalanoifpbaaDoorW.PrintLast Go.Proofs.YtjpfalanoifpbaaDoorW.PrintMore Go.Proofs.YtjpfalanoifpbaaDoor.T
structure Rt (w0 w : World) (g h : Nat) (F G : Nat → Nat → Nat → Nat) : Prop where
  t : Tab w g F
  n : Tab w h G
  bl : Below w0.heap.size w0 w
  hg : w0.heap.size ≤ g
  hh : w0.heap.size ≤ h
  ne : g ≠ h
theorem Rt.later {w0 w w' : World} {g h : Nat} {F G : Nat → Nat → Nat → Nat} (r : Rt w0 w g h F G) (hb : Below w.heap.size w w') : Rt w0 w' g h F G :=
  ⟨r.t.later hb, r.n.later hb, r.bl.trans (hb.mono r.bl.size), r.hg, r.hh, r.ne⟩
theorem Rt.put {w0 w : World} {g h : Nat} {F G : Nat → Nat → Nat → Nat} (r : Rt w0 w g h F G) {p i j : Nat} (hp : p < 5) (hi : i < 9) (hj : j < 9) (m : Nat) : Rt w0 (w.setCell ⟨h, p * 81 + i * 9 + j, none⟩ (.int .i64 (m : Nat))) g h F (put3 G p i j m) := by
  refine ⟨(Below.heap_setCell w ⟨h, p * 81 + i * 9 + j, none⟩ _ g r.ne).trans r.t, ?_, r.bl.setCell (p := ⟨h, p * 81 + i * 9 + j, none⟩) r.hh _, r.hg, r.hh, r.ne⟩
  have h1 := blk_set r.n (p * 81 + i * 9 + j) (.int .i64 (m : Nat))
  rw [show p * 81 + i * 9 + j = ix p i j from rfl] at h1 ⊢
  rw [show (Value.int .i64 (m : Nat)) = natV m from rfl] at h1 ⊢
  rw [c405_set natV G hp hi hj m] at h1
  exact h1
end Go.Proofs.YtjpfalanoifpbaaDoor.X
end

section
set_option linter.unusedVariables false
set_option linter.unusedSimpArgs false
namespace Go.Proofs.YtjpfalanoifpbaaDoor.X
open Go.RowKit Go.Proofs.YtjpfalanoifpbaaDoorW.PrintWords Go.Proofs.YtjpfalanoifpbaaDoorW.PrintLast Go.Proofs.YtjpfalanoifpbaaDoorW.PrintMore Go.Proofs.YtjpfalanoifpbaaDoor.T
theorem cut12_1000 (s : ByteArray) : (cut12 s).size ≤ 1000 := by
  rw [cut12_size]
  have := mnN_le s.size 12
  omega
end Go.Proofs.YtjpfalanoifpbaaDoor.X
end

section
set_option linter.unusedVariables false
namespace Go.Proofs.YtjpfalanoifpbaaDoor.T
theorem take_succ_of {α : Type} {l : List α} {i : Nat} {x : α} (h : l[i]? = some x) : l.take (i + 1) = l.take i ++ [x] := by
  rw [List.take_add_one, h]
  rfl
end Go.Proofs.YtjpfalanoifpbaaDoor.T
end

section
set_option linter.unusedVariables false
set_option linter.unusedSimpArgs false
namespace Go.Proofs.YtjpfalanoifpbaaDoor.X
open Go.RowKit Go.Proofs.YtjpfalanoifpbaaDoorW.PrintWords Go.Proofs.YtjpfalanoifpbaaDoorW.PrintLast Go.Proofs.YtjpfalanoifpbaaDoorW.PrintMore Go.Proofs.YtjpfalanoifpbaaDoor.T
structure Stp (B : Nat) (S : Nat → Prop) (w w' : World) : Prop where
  os : w'.os = w.os
  tape : w'.tape = w.tape
  output : w'.output = w.output
  size : w.heap.size ≤ w'.heap.size
  block : ∀ k, k < w.heap.size → (k < B ∨ S k) → w'.heap[k]? = w.heap[k]?
theorem Stp.refl (B : Nat) (S : Nat → Prop) (w : World) : Stp B S w w := ⟨rfl, rfl, rfl, Nat.le_refl _, fun _ _ _ => rfl⟩
theorem Stp.of_grown {B : Nat} {S : Nat → Prop} {w w' : World} {row : Option Nat} (h : w.grownBy w' row) (hr : ∀ k, row = some k → B ≤ k ∧ ¬ S k) : Stp B S w w' :=
  ⟨h.os, h.tape, h.output, h.size, fun k hk hs => h.block k hk (fun e => by
    have := hr k e.symm
    rcases hs with q | q
    · omega
    · exact this.2 q)⟩
structure Cbk (S : Nat → Prop) (w w' : World) : Prop where
  size : w.heap.size ≤ w'.heap.size
  block : ∀ k, k < w.heap.size → ¬ S k → w'.heap[k]? = w.heap[k]?
structure Cb (f : Nat) (lb : Array Value) (B most : Nat) (P : (Nat → Prop) → List ByteArray → World → Prop) (Q : List ByteArray → ByteArray → World → Prop) : Prop where
  eg : ∀ args w, (callFunc f args).run Tryd.prog w = .ok (.enter f args) w
  stab : ∀ S done w w', P S done w → Stp B S w w' → P S done w'
  lt : ∀ S done w, P S done w → ∀ k, S k → k < w.heap.size
  stop : ∀ done s w w', Q done s w → Below w.heap.size w w' → Q done s w'
  call : ∀ S done s w, P S done w → B ≤ w.heap.size → s.size ≤ most → done.length ≤ 100000 → Calls Tryd.prog f (#[.string s] ++ lb) w fun e w' => ∃ S' : Nat → Prop, (∀ k, S' k → S k ∨ w.heap.size ≤ k) ∧ Cbk S w w' ∧ ((e = .returned (.bool true) ∧ P S' (done ++ [s]) w') ∨ (e = .returned (.bool false) ∧ Q done s w'))
structure As (B : Nat) (P : (Nat → Prop) → List ByteArray → World → Prop) (S : Nat → Prop) (done : List ByteArray) (v4 : Value) (l : List ByteArray) (v5 : Value) (xs : List ByteArray) (w : World) : Prop where
  l4 : Kd.R Kd.string 9 w B (fun k => ¬ S k ∧ some k ≠ v5.ownBlock) v4 l
  l5 : Kd.R Kd.string 9 w B (fun k => ¬ S k) v5 xs
  p : P S done w
  size : B ≤ w.heap.size
theorem As.push {f : Nat} {lb : Array Value} {B most : Nat} {P : (Nat → Prop) → List ByteArray → World → Prop} {Q : List ByteArray → ByteArray → World → Prop} (H : Cb f lb B most P Q) {S : Nat → Prop} {done : List ByteArray} {v4 v5 v1 : Value} {l xs : List ByteArray} {x : ByteArray} {w w1 : World} (h : As B P S done v4 l v5 xs w)
    (hv : Kd.R Kd.string 9 w1 B (fun k => ¬ S k) v1 (xs ++ [x])) (hg : w.grownBy w1 v5.ownBlock) (hat : v1.ownBlock = v5.ownBlock ∨ ∃ b, v1.ownBlock = some b ∧ w.heap.size ≤ b) : As B P S done v4 l v1 (xs ++ [x]) w1 :=
  ⟨Kd.R_after h.l4 hg hat, hv, H.stab _ _ _ _ h.p (Stp.of_grown hg (fun k hk => ⟨Kd.R_base h.l5 k hk, h.l5.1 k hk⟩)), Nat.le_trans h.size hg.size⟩
theorem As.next {B : Nat} {P : (Nat → Prop) → List ByteArray → World → Prop} {S : Nat → Prop} {done : List ByteArray} {v4 v5 : Value} {l xs : List ByteArray} {w : World} (h : As B P S done v4 l v5 xs w) : As B P S done v5 xs (.slice none 0 0) [] w :=
  ⟨Kd.R_apart_nil h.l5, Kd.R_nil _ _ _ _ _, h.p, h.size⟩
end Go.Proofs.YtjpfalanoifpbaaDoor.X
end

section
set_option linter.unusedVariables false
set_option linter.unusedSimpArgs false
namespace Go.Proofs.YtjpfalanoifpbaaDoor.X
open Go.RowKit Go.Proofs.YtjpfalanoifpbaaDoorW.PrintWords Go.Proofs.YtjpfalanoifpbaaDoorW.PrintLast Go.Proofs.YtjpfalanoifpbaaDoorW.PrintMore Go.Proofs.YtjpfalanoifpbaaDoor.T
abbrev SR (B : Nat) (w : World) (v : Value) (xs : List ByteArray) : Prop := Kd.R Kd.string 9 w B (fun _ => True) v xs
theorem sr_self {B : Nat} {w : World} {ok : Nat → Prop} {v : Value} {xs : List ByteArray} (h : Kd.R Kd.string 9 w B ok v xs) : Kd.R Kd.string 9 w B (fun k => v.ownBlock = some k) v xs := Kd.R_of_own (Kd.own_of_R h) (fun k hk => hk)
theorem sr_of {B : Nat} {w : World} {ok : Nat → Prop} {v : Value} {xs : List ByteArray} (h : Kd.R Kd.string 9 w B ok v xs) : SR B w v xs := Kd.R_mono h (fun _ _ => trivial)
theorem sr_step {B : Nat} {w w1 : World} {v : Value} {xs : List ByteArray} (h : SR B w v xs) {row : Option Nat} (hg : w.grownBy w1 row) (hne : ∀ k, v.ownBlock = some k → some k ≠ row) : SR B w1 v xs := sr_of (Kd.R_step (sr_self h) (fun k hk hlt => hg.block k hlt (hne k hk)))
theorem sr_below {B : Nat} {w w1 : World} {v : Value} {xs : List ByteArray} (h : SR B w v xs) (hb : Below w.heap.size w w1) : SR B w1 v xs := Kd.R_below h hb
structure Al (w0 w : World) (out : Value) (ol : List ByteArray) (last : Value) (ll : List ByteArray) (next : Value) (nl : List ByteArray) : Prop where
  o : SR w0.heap.size w out ol
  l : SR w0.heap.size w last ll
  x : SR w0.heap.size w next nl
  ol : ∀ k, out.ownBlock = some k → last.ownBlock ≠ some k
  ox : ∀ k, out.ownBlock = some k → next.ownBlock ≠ some k
  lx : ∀ k, last.ownBlock = some k → next.ownBlock ≠ some k
  bl : Below w0.heap.size w0 w
theorem Al.later {w0 w w1 : World} {out last next : Value} {ol ll nl : List ByteArray} (h : Al w0 w out ol last ll next nl) (hb : Below w.heap.size w w1) : Al w0 w1 out ol last ll next nl :=
  ⟨sr_below h.o hb, sr_below h.l hb, sr_below h.x hb, h.ol, h.ox, h.lx, h.bl.trans (hb.mono h.bl.size)⟩
theorem Al.push {w0 w w1 : World} {out last next v1 : Value} {ol ll nl ml : List ByteArray} (h : Al w0 w out ol last ll next nl) (hv : SR w0.heap.size w1 v1 ml) (hb : Below w0.heap.size w0 w1) (hg : w.grownBy w1 next.ownBlock) (hat : v1.ownBlock = next.ownBlock ∨ ∃ b, v1.ownBlock = some b ∧ w.heap.size ≤ b) : Al w0 w1 out ol last ll v1 ml := by
  refine ⟨sr_step h.o hg (fun k hk e => h.ox k hk e.symm), sr_step h.l hg (fun k hk e => h.lx k hk e.symm), hv, h.ol, fun k hk => ?_, fun k hk => ?_, hb⟩
  · rcases hat with e | ⟨b, e, hle⟩
    · rw [e]
      exact h.ox k hk
    · rw [e]
      have := Kd.R_lt h.o k hk
      intro q
      injection q with q
      omega
  · rcases hat with e | ⟨b, e, hle⟩
    · rw [e]
      exact h.lx k hk
    · rw [e]
      have := Kd.R_lt h.l k hk
      intro q
      injection q with q
      omega
end Go.Proofs.YtjpfalanoifpbaaDoor.X
end

section
set_option linter.unusedVariables false
set_option linter.unusedSimpArgs false
namespace Go.Proofs.YtjpfalanoifpbaaDoor.X
open Go.RowKit Go.Proofs.YtjpfalanoifpbaaDoorW.PrintWords Go.Proofs.YtjpfalanoifpbaaDoorW.PrintLast Go.Proofs.YtjpfalanoifpbaaDoorW.PrintMore Go.Proofs.YtjpfalanoifpbaaDoor.T
structure Ar (w0 w : World) (v1 : Value) (l1 : List ByteArray) (v2 : Value) (l2 : List ByteArray) : Prop where
  a : SR w0.heap.size w v1 l1
  b : SR w0.heap.size w v2 l2
  ne : ∀ k, v1.ownBlock = some k → v2.ownBlock ≠ some k
  bl : Below w0.heap.size w0 w
theorem Ar.later {w0 w w1 : World} {v1 v2 : Value} {l1 l2 : List ByteArray} (h : Ar w0 w v1 l1 v2 l2) (hb : Below w.heap.size w w1) : Ar w0 w1 v1 l1 v2 l2 :=
  ⟨sr_below h.a hb, sr_below h.b hb, h.ne, h.bl.trans (hb.mono h.bl.size)⟩
theorem Ar.push {w0 w w1 : World} {v1 v2 v3 : Value} {l1 l2 l3 : List ByteArray} (h : Ar w0 w v1 l1 v2 l2) (hv : SR w0.heap.size w1 v3 l3) (hb : Below w0.heap.size w0 w1) (hg : w.grownBy w1 v2.ownBlock) (hat : v3.ownBlock = v2.ownBlock ∨ ∃ b, v3.ownBlock = some b ∧ w.heap.size ≤ b) : Ar w0 w1 v1 l1 v3 l3 := by
  refine ⟨sr_step h.a hg (fun k hk e => h.ne k hk e.symm), hv, fun k hk => ?_, hb⟩
  rcases hat with e | ⟨b, e, hle⟩
  · rw [e]
    exact h.ne k hk
  · rw [e]
    have := Kd.R_lt h.a k hk
    intro q
    injection q with q
    omega
end Go.Proofs.YtjpfalanoifpbaaDoor.X
end

section
set_option linter.unusedVariables false
namespace Go.Proofs.YtjpfalanoifpbaaDoor.T
def allU (e : Nat) (s : ByteArray) : Bool := (List.range s.size).all fun i => !isP (ch s i) || e.testBit (pn (ch s i))
end Go.Proofs.YtjpfalanoifpbaaDoor.T
end

section
set_option linter.unusedVariables false
namespace Go.Proofs.YtjpfalanoifpbaaDoor.T
abbrev Ru := Int × ByteArray
def bitsTo (s : ByteArray) : Nat → Nat
  | 0 => 0
  | j + 1 => if isP (ch s j) = true then bitsTo s j ||| 2 ^ pn (ch s j) else bitsTo s j
def bitsOf (s : ByteArray) : Nat := bitsTo s s.size
def rStep (e : Nat) (r : Ru) : Nat := if e.testBit (pn r.1) = true then e ||| bitsOf r.2 else e
def rTo (l : List Ru) (e : Nat) : Nat := l.foldl rStep e
def rch (b : Int) (l : List Ru) : Nat := rep (rTo l) 5 (2 ^ pn b)
end Go.Proofs.YtjpfalanoifpbaaDoor.T
end

section
set_option linter.unusedVariables false
namespace Go.Proofs.YtjpfalanoifpbaaDoor.T
def Sub (z u : Nat) : Prop := ∀ p, z.testBit p = true → u.testBit p = true
theorem Sub.refl (z : Nat) : Sub z z := fun _ h => h
theorem Sub.trans {a b c : Nat} (h : Sub a b) (k : Sub b c) : Sub a c := fun p q => k p (h p q)
end Go.Proofs.YtjpfalanoifpbaaDoor.T
end

section
set_option linter.unusedVariables false
set_option linter.unusedSimpArgs false
namespace Go.Proofs.YtjpfalanoifpbaaDoor.X
open Go.RowKit Go.Proofs.YtjpfalanoifpbaaDoorW.PrintWords Go.Proofs.YtjpfalanoifpbaaDoorW.PrintLast Go.Proofs.YtjpfalanoifpbaaDoorW.PrintMore Go.Proofs.YtjpfalanoifpbaaDoor.T
abbrev KR : Kd Ru := Kd.pair (Kd.int .u8) Kd.string
end Go.Proofs.YtjpfalanoifpbaaDoor.X
end

section
set_option linter.unusedVariables false
set_option linter.unusedSimpArgs false
namespace Go.Proofs.YtjpfalanoifpbaaDoor.X
open Go.RowKit Go.Proofs.YtjpfalanoifpbaaDoorW.PrintWords Go.Proofs.YtjpfalanoifpbaaDoorW.PrintLast Go.Proofs.YtjpfalanoifpbaaDoorW.PrintMore Go.Proofs.YtjpfalanoifpbaaDoor.T
abbrev RR (ty B : Nat) (w : World) (v : Value) (l : List Ru) : Prop := Kd.R KR ty w B (fun _ => True) v l
theorem rr_below {ty B : Nat} {w w1 : World} {v : Value} {l : List Ru} (h : RR ty B w v l) (hb : Below w.heap.size w w1) : RR ty B w1 v l := Kd.R_below h hb
structure Br (ty : Nat) (w0 w : World) (v1 : Value) (l1 : List Ru) (v2 : Value) (l2 : List Ru) : Prop where
  a : RR ty w0.heap.size w v1 l1
  b : RR ty w0.heap.size w v2 l2
  ne : ∀ k, v1.ownBlock = some k → v2.ownBlock ≠ some k
  bl : Below w0.heap.size w0 w
theorem Br.later {ty : Nat} {w0 w w1 : World} {v1 v2 : Value} {l1 l2 : List Ru} (h : Br ty w0 w v1 l1 v2 l2) (hb : Below w.heap.size w w1) : Br ty w0 w1 v1 l1 v2 l2 :=
  ⟨rr_below h.a hb, rr_below h.b hb, h.ne, h.bl.trans (hb.mono h.bl.size)⟩
end Go.Proofs.YtjpfalanoifpbaaDoor.X
end

section
set_option linter.unusedVariables false
set_option linter.unusedSimpArgs false
namespace Go.Proofs.YtjpfalanoifpbaaDoor.X
open Go.RowKit Go.Proofs.YtjpfalanoifpbaaDoorW.PrintWords Go.Proofs.YtjpfalanoifpbaaDoorW.PrintLast Go.Proofs.YtjpfalanoifpbaaDoorW.PrintMore Go.Proofs.YtjpfalanoifpbaaDoor.T
def inS (e : Nat) (l : Int) : Bool := isP l && e.testBit (pn l)
end Go.Proofs.YtjpfalanoifpbaaDoor.X
end

section
set_option linter.unusedVariables false
set_option linter.unusedSimpArgs false
namespace Go.Proofs.YtjpfalanoifpbaaDoor.X
open Go.RowKit Go.Proofs.YtjpfalanoifpbaaDoorW.PrintWords Go.Proofs.YtjpfalanoifpbaaDoorW.PrintLast Go.Proofs.YtjpfalanoifpbaaDoorW.PrintMore Go.Proofs.YtjpfalanoifpbaaDoor.T
structure RowB (w : World) (g c : Nat) (l : List Ru) : Prop where
  blk : ∃ cur, w.heap[g]? = some (.cells cur 60 (0, 0)) ∧ c * 2 ≤ cur.size ∧ ∀ (j : Nat) r, l[j]? = some r → cur[j * 2]? = some (.int .u8 r.1) ∧ cur[j * 2 + 1]? = some (.string r.2)
  le : l.length ≤ c
theorem RowB.c0 {w : World} {g c : Nat} {l : List Ru} (h : RowB w g c l) {j : Nat} {r : Ru} (hr : l[j]? = some r) : w.cell? ⟨g, j * 2, none⟩ = some (.int .u8 r.1) := by
  obtain ⟨cur, hb, -, hc⟩ := h.blk
  rw [blk_cell hb]
  exact (hc j r hr).1
theorem RowB.c1 {w : World} {g c : Nat} {l : List Ru} (h : RowB w g c l) {j : Nat} {r : Ru} (hr : l[j]? = some r) : w.cell? ⟨g, j * 2 + 1, none⟩ = some (.string r.2) := by
  obtain ⟨cur, hb, -, hc⟩ := h.blk
  rw [blk_cell hb]
  exact (hc j r hr).2
theorem RowB.fz {w : World} {g c : Nat} {l : List Ru} (h : RowB w g c l) (i : Nat) : w.frozen? ⟨g, i, none⟩ = false := by
  obtain ⟨cur, hb, -⟩ := h.blk
  exact blk_frozen hb i
theorem RowB.lt {w : World} {g c : Nat} {l : List Ru} (h : RowB w g c l) : g < w.heap.size := by
  obtain ⟨cur, hb, -⟩ := h.blk
  exact (Array.getElem?_eq_some_iff.1 hb).1
theorem RowB.later {w w' : World} {g c : Nat} {l : List Ru} (h : RowB w g c l) (hb : Below w.heap.size w w') : RowB w' g c l := by
  obtain ⟨cur, h1, h2⟩ := h.blk
  exact ⟨⟨cur, (hb.block _ (Array.getElem?_eq_some_iff.1 h1).1).trans h1, h2⟩, h.le⟩
theorem RowB.set {w : World} {g c : Nat} {l : List Ru} (h : RowB w g c l) {i : Nat} (hi : i < l.length) (r : Ru) : RowB ((w.setCell ⟨g, i * 2, none⟩ (.int .u8 r.1)).setCell ⟨g, i * 2 + 1, none⟩ (.string r.2)) g c (l.set i r) := by
  obtain ⟨cur, h1, h2, h3⟩ := h.blk
  have hle := h.le
  have k1 := blk_set (blk_set h1 (i * 2) (.int .u8 r.1)) (i * 2 + 1) (.string r.2)
  refine ⟨⟨_, k1, by simpa using h2, fun j q hq => ?_⟩, by simpa using h.le⟩
  by_cases e : i = j
  · subst e
    have : q = r := by
      rw [List.getElem?_set_self hi] at hq
      injection hq with hq
      exact hq.symm
    subst this
    constructor
    · rw [Array.getElem?_setIfInBounds_ne (by omega), Array.getElem?_setIfInBounds_self_of_lt (by omega)]
    · rw [Array.getElem?_setIfInBounds_self_of_lt (by simp; omega)]
  · rw [List.getElem?_set_ne e] at hq
    have := h3 j q hq
    constructor
    · rw [Array.getElem?_setIfInBounds_ne (by omega), Array.getElem?_setIfInBounds_ne (by omega)]
      exact this.1
    · rw [Array.getElem?_setIfInBounds_ne (by omega), Array.getElem?_setIfInBounds_ne (by omega)]
      exact this.2
end Go.Proofs.YtjpfalanoifpbaaDoor.X
end

section
set_option linter.unusedVariables false
set_option linter.unusedSimpArgs false
namespace Go.Proofs.YtjpfalanoifpbaaDoor.X
open Go.RowKit Go.Proofs.YtjpfalanoifpbaaDoorW.PrintWords Go.Proofs.YtjpfalanoifpbaaDoorW.PrintLast Go.Proofs.YtjpfalanoifpbaaDoorW.PrintMore Go.Proofs.YtjpfalanoifpbaaDoor.T
theorem row_put {α : Type} [Inhabited α] (enc : α → Value) (w : World) (m g : Nat) (d : Array α) (os : Array Obj) {cur : Array Value} {e : TypeId} (hb : w.heap[g]? = some (.cells cur e (0, 0))) (hd : d.size ≤ cur.size) :
    (∃ cur', (Go.Sort.grow (Go.Sort.putRow enc (Go.Sort.ahead w m) g 0 d) os).heap[g]? = some (.cells cur' e (0, 0)) ∧ cur'.size = cur.size ∧ cur'.toList.take d.size = d.toList.map enc) ∧
      w.grownBy (Go.Sort.grow (Go.Sort.putRow enc (Go.Sort.ahead w m) g 0 d) os) (some g) := by
  have hg := (Array.getElem?_eq_some_iff.1 hb).1
  have hs : (Go.Sort.putRow enc (Go.Sort.ahead w m) g 0 d).heap.size = w.heap.size := by
    unfold Go.Sort.putRow Go.Sort.mapBlock Go.Sort.ahead
    simp
  refine ⟨⟨Go.Sort.putCells enc 0 d cur, ?_, ?_, ?_⟩, ⟨rfl, rfl, rfl, ?_, ?_⟩⟩
  · unfold Go.Sort.grow
    rw [Array.getElem?_append_left (by rw [hs]; exact hg)]
    unfold Go.Sort.putRow Go.Sort.mapBlock Go.Sort.ahead
    rw [Array.getElem?_modify, if_pos rfl, hb]
    rfl
  · unfold Go.Sort.putCells; simp
  · apply List.ext_getElem
    · unfold Go.Sort.putCells; simp; omega
    · intro i h1 h2
      have hi : i < d.size := by simpa using h2
      unfold Go.Sort.putCells
      simp only [List.getElem_take, Array.getElem_toList, Array.getElem_mapIdx, List.getElem_map, Nat.zero_le, Nat.zero_add, true_and, Nat.sub_zero, if_pos hi]
      rw [getElem!_pos d i hi]
  · unfold Go.Sort.grow
    simp only [Array.size_append]
    rw [hs]
    omega
  · intro k hk hne
    have hne' : g ≠ k := fun e => hne (by rw [e])
    unfold Go.Sort.grow
    rw [Array.getElem?_append_left (by rw [hs]; exact hk)]
    unfold Go.Sort.putRow Go.Sort.mapBlock Go.Sort.ahead
    rw [Array.getElem?_modify, if_neg hne']
end Go.Proofs.YtjpfalanoifpbaaDoor.X
end

section
set_option linter.unusedVariables false
set_option linter.unusedSimpArgs false
namespace Go.Proofs.YtjpfalanoifpbaaDoor.X
open Go.RowKit Go.Proofs.YtjpfalanoifpbaaDoorW.PrintWords Go.Proofs.YtjpfalanoifpbaaDoorW.PrintLast Go.Proofs.YtjpfalanoifpbaaDoorW.PrintMore Go.Proofs.YtjpfalanoifpbaaDoor.T
def p1 (u : Nat) (r : Ru) : Bool := !(inS u r.1 && allU u r.2)
def p2 (e : Nat) (r : Ru) : Bool := !inS e r.1
structure Tq (w0 : World) (g c GB H8 : Nat) (l0 : Int) (K : List Ru) (e : Nat) (w : World) : Prop where
  row : RowB w g c K
  beg : w.cell? ⟨GB, 0, none⟩ = some (.int .u8 l0)
  re : w.cell? ⟨H8, 0, none⟩ = some (.int .i64 e)
  fz : w.frozen? ⟨H8, 0, none⟩ = false
  bl : Below w0.heap.size w0 w
  ng : g ≠ H8
  nb : GB ≠ H8
  ge : w0.heap.size ≤ H8
theorem Tq.later {w0 w w' : World} {g c GB H8 e : Nat} {l0 : Int} {K : List Ru} (h : Tq w0 g c GB H8 l0 K e w) (hb : Below w.heap.size w w') : Tq w0 g c GB H8 l0 K e w' := by
  have hlt := World.block_lt_of_cell? _ _ h.re
  refine ⟨h.row.later hb, (hb.cell (p := ⟨GB, 0, none⟩) (World.block_lt_of_cell? _ _ h.beg)).trans h.beg, (hb.cell (p := ⟨H8, 0, none⟩) hlt).trans h.re, ?_, h.bl.trans (hb.mono h.bl.size), h.ng, h.nb, h.ge⟩
  have := hb.block H8 hlt
  have hf := h.fz
  unfold World.frozen? at hf ⊢
  simp only at hf ⊢
  rw [this]
  exact hf
theorem Tq.put {w0 w : World} {g c GB H8 e : Nat} {l0 : Int} {K : List Ru} (h : Tq w0 g c GB H8 l0 K e w) (e' : Nat) : Tq w0 g c GB H8 l0 K e' (w.setCell ⟨H8, 0, none⟩ (.int .i64 e')) := by
  refine ⟨?_, (cell_set_other _ h.nb).trans h.beg, World.cell?_setCell_same' _ _ _ (by rw [h.re]; rfl), by rw [World.frozen?_setCell]; exact h.fz, h.bl.setCell (p := ⟨H8, 0, none⟩) h.ge _, h.ng, h.nb, h.ge⟩
  obtain ⟨cur, h1, h2⟩ := h.row.blk
  exact ⟨⟨cur, (Below.heap_setCell w ⟨H8, 0, none⟩ _ g h.ng).trans h1, h2⟩, h.row.le⟩
end Go.Proofs.YtjpfalanoifpbaaDoor.X
end

section
set_option linter.unusedVariables false
namespace Go.Proofs.YtjpfalanoifpbaaDoor.T
abbrev It := Nat × Nat
def cd (x : It) : Nat := x.1 * 5 + x.2
def sg (c : Int) : ByteArray := ⟨#[UInt8.ofNat c.toNat]⟩
theorem sg_size (c : Int) : (sg c).size = 1 := rfl
section
variable (L : Nat → Int) (R : Nat → ByteArray) (n : Nat)
def rs (i : Nat) : ByteArray := if i = n then sg (L 0) else R i
def bh (x : It) : Int := ch (rs L R n x.1) x.2
def Fits (x : It) : Prop := x.1 ≤ n ∧ x.2 ≤ (rs L R n x.1).size
def Cls (Q : It → Prop) : Prop := ∀ y k, Q y → k < n → bh L R n y = L k → Q (k, 0)
def inC (S : It → Prop) (x : It) : Prop := ∀ Q : It → Prop, (∀ y, S y → Q y) → Cls L R n Q → Q x
variable {L R n}
theorem inC_of {S : It → Prop} {x : It} (h : S x) : inC L R n S x := fun Q h1 _ => h1 x h
theorem inC_cls (S : It → Prop) : Cls L R n (inC L R n S) := fun y k hy hk e Q h1 h2 => h2 y k (hy Q h1 h2) hk e
theorem inC_le {S Q : It → Prop} (h : ∀ y, S y → Q y) (hc : Cls L R n Q) {x : It} (hx : inC L R n S x) : Q x := hx Q h hc
theorem inC_fits {S : It → Prop} (h : ∀ y, S y → Fits L R n y) {x : It} (hx : inC L R n S x) : Fits L R n x :=
  inC_le h (fun y k _ hk _ => ⟨Nat.le_of_lt hk, Nat.zero_le _⟩) hx
def R4 (R : Nat → ByteArray) (n : Nat) : Prop := ∀ k, k < n → (R k).size ≤ 4
theorem rs_le (h : R4 R n) {i : Nat} (hi : i ≤ n) : (rs L R n i).size ≤ 4 := by
  unfold rs
  split
  · rw [sg_size]; omega
  · exact h i (by omega)
theorem Fits.lt5 {x : It} (h : R4 R n) (hx : Fits L R n x) : x.2 < 5 := by
  have := rs_le (L := L) h hx.1
  have := hx.2
  omega
def Asc (l : List It) : Prop := l.Pairwise fun x y => cd x < cd y
theorem ord_unique : ∀ {l m : List It}, Asc l → Asc m → (∀ x, x ∈ l ↔ x ∈ m) → l = m
  | [], [], _, _, _ => rfl
  | [], y :: m, _, _, h => by
    have := (h y).2 (List.mem_cons_self ..)
    cases this
  | x :: l, [], _, _, h => by
    have := (h x).1 (List.mem_cons_self ..)
    cases this
  | x :: l, y :: m, hl, hm, h => by
    unfold Asc at hl hm
    rw [List.pairwise_cons] at hl hm
    have e : x = y := by
      rcases List.mem_cons.1 ((h x).1 (List.mem_cons_self ..)) with e | e
      · exact e
      · rcases List.mem_cons.1 ((h y).2 (List.mem_cons_self ..)) with e2 | e2
        · exact e2.symm
        · have a := hm.1 x e
          have b := hl.1 y e2
          omega
    subst e
    congr 1
    refine ord_unique hl.2 hm.2 fun z => ⟨fun hz => ?_, fun hz => ?_⟩
    · rcases List.mem_cons.1 ((h z).1 (List.mem_cons_of_mem _ hz)) with e | e
      · have := hl.1 z hz
        rw [e] at this
        omega
      · exact e
    · rcases List.mem_cons.1 ((h z).2 (List.mem_cons_of_mem _ hz)) with e | e
      · have := hm.1 z hz
        rw [e] at this
        omega
      · exact e
def univ (n : Nat) : List It := (List.range ((n + 1) * 5)).map fun q => (q / 5, q % 5)
theorem univ_mem {x : It} : x ∈ univ n ↔ x.1 ≤ n ∧ x.2 < 5 := by
  unfold univ
  rw [List.mem_map]
  constructor
  · rintro ⟨q, hq, rfl⟩
    rw [List.mem_range] at hq
    exact ⟨by show q / 5 ≤ n; omega, by show q % 5 < 5; omega⟩
  · rintro ⟨h1, h2⟩
    refine ⟨x.1 * 5 + x.2, List.mem_range.2 (by omega), Prod.ext ?_ ?_⟩
    · show (x.1 * 5 + x.2) / 5 = x.1
      omega
    · show (x.1 * 5 + x.2) % 5 = x.2
      omega
theorem range_ord : ∀ m, Asc ((List.range m).map fun q => (q / 5, q % 5))
  | 0 => List.Pairwise.nil
  | m + 1 => by
    unfold Asc
    rw [List.range_succ, List.map_append, List.pairwise_append]
    refine ⟨range_ord m, by simp, fun x hx y hy => ?_⟩
    obtain ⟨q, hq, rfl⟩ := List.mem_map.1 hx
    rw [List.mem_range] at hq
    simp only [List.map_cons, List.map_nil, List.mem_singleton] at hy
    subst hy
    show q / 5 * 5 + q % 5 < m / 5 * 5 + m % 5
    omega
theorem univ_ord : Asc (univ n) := range_ord _
theorem univ_length : (univ n).length = (n + 1) * 5 := by simp [univ]
variable (L R n)
noncomputable def clo (S : It → Prop) : List It := (univ n).filter fun x => @decide (inC L R n S x) (Classical.propDecidable _)
variable {L R n}
theorem clo_ord (S : It → Prop) : Asc (clo L R n S) := List.Pairwise.filter _ univ_ord
theorem clo_mem {S : It → Prop} (h4 : R4 R n) (h : ∀ y, S y → Fits L R n y) {x : It} : x ∈ clo L R n S ↔ inC L R n S x := by
  unfold clo
  rw [List.mem_filter, univ_mem]
  constructor
  · rintro ⟨-, hx⟩
    simpa using hx
  · intro hx
    have hf := inC_fits h hx
    exact ⟨⟨hf.1, hf.lt5 h4⟩, by simpa using hx⟩
theorem clo_fits {S : It → Prop} (h4 : R4 R n) (h : ∀ y, S y → Fits L R n y) {x : It} (hx : x ∈ clo L R n S) : Fits L R n x := inC_fits h ((clo_mem h4 h).1 hx)
theorem clo_unique {S : It → Prop} (h4 : R4 R n) (h : ∀ y, S y → Fits L R n y) {l : List It} (hl : Asc l) (hm : ∀ x, x ∈ l ↔ inC L R n S x) : l = clo L R n S :=
  ord_unique hl (clo_ord S) fun x => (hm x).trans (clo_mem h4 h).symm
variable (L R n)
def nxt (l : List It) (c : Int) : List It := (l.filter fun x => bh L R n x == c).map fun x => (x.1, x.2 + 1)
noncomputable def ovr (l : List It) (c : Int) : List It := clo L R n fun x => x ∈ nxt L R n l c
noncomputable def sta0 : List It := clo L R n fun x => x = (n, 0)
variable {L R n}
theorem bh_lt {x : It} (hp : bh L R n x ≠ 0) : x.2 < (rs L R n x.1).size := by
  unfold bh ch at hp
  split at hp
  · assumption
  · exact absurd rfl hp
theorem nxt_fits {l : List It} (h : ∀ x ∈ l, Fits L R n x) {c : Int} (hc : c ≠ 0) : ∀ y, y ∈ nxt L R n l c → Fits L R n y := by
  intro y hy
  unfold nxt at hy
  obtain ⟨x, hx, rfl⟩ := List.mem_map.1 hy
  rw [List.mem_filter] at hx
  have e : bh L R n x = c := by simpa using hx.2
  have hf := h x hx.1
  exact ⟨hf.1, bh_lt (by rw [e]; exact hc)⟩
theorem sta0_fits : ∀ y : It, y = (n, 0) → Fits L R n y := fun y e => by rw [e]; exact ⟨Nat.le_refl _, Nat.zero_le _⟩
variable (L R n)
def lets : List Int := [65, 66, 67, 68, 69, 97, 98, 99, 100]
noncomputable def onC (out : List (List It)) (st : List It) (c : Int) : Option (List (List It)) :=
  if nxt L R n st c = [] then some out else
    if ovr L R n st c ∈ out then some out else
      if 64 < out.length + 1 then none else some (out ++ [ovr L R n st c])
noncomputable def onL (st : List It) : List Int → List (List It) → Option (List (List It))
  | [], out => some out
  | c :: l, out => (onC L R n out st c).bind (onL st l)
noncomputable def bld : Nat → Nat → List (List It) → Option (List (List It))
  | 0, _, out => some out
  | f + 1, i, out => if h : i < out.length then (onL L R n out[i] lets out).bind (bld f (i + 1)) else some out
noncomputable def stas : Option (List (List It)) := bld L R n 65 0 [sta0 L R n]
variable {L R n}
end
end Go.Proofs.YtjpfalanoifpbaaDoor.T
end

section
set_option linter.unusedVariables false
namespace Go.Proofs.YtjpfalanoifpbaaDoor.T
def ltI (p q : It) : Bool := decide (p.1 < q.1 ∨ (p.1 = q.1 ∧ p.2 < q.2))
theorem list_le {n : Nat} {l : List It} (hn : l.Nodup) (hl : ∀ x ∈ l, x.1 ≤ n ∧ x.2 < 5) : l.length ≤ (n + 1) * 5 := by
  have := subset_length (m := univ n) hn (fun a ha => univ_mem.2 (hl a ha))
  rwa [univ_length] at this
section
variable {L : Nat → Int} {R : Nat → ByteArray} {n : Nat}
theorem asc_of {l l' : List It} (hp : l'.Perm l) (hn : l.Nodup) (h5 : ∀ x ∈ l, x.2 < 5) (hs : l'.Pairwise fun p q => ltI q p = false) : Asc l' := by
  have hn' : l'.Nodup := hp.nodup_iff.2 hn
  unfold Asc
  unfold List.Nodup at hn'
  refine List.Pairwise.imp_of_mem ?_ (hs.and hn')
  intro p q hp1 hq1 h
  obtain ⟨h1, h2⟩ := h
  have a := h5 p (hp.mem_iff.1 hp1)
  have b := h5 q (hp.mem_iff.1 hq1)
  unfold ltI at h1
  rw [decide_eq_false_iff_not] at h1
  unfold cd
  by_cases e : p.1 = q.1
  · have : p.2 ≠ q.2 := fun e2 => h2 (Prod.ext e e2)
    omega
  · omega
structure CloI (L : Nat → Int) (R : Nat → ByteArray) (n : Nat) (S : It → Prop) (l : List It) (i : Nat) : Prop where
  nd : l.Nodup
  sub : ∀ y, S y → y ∈ l
  inc : ∀ x ∈ l, inC L R n S x
  cls : ∀ j x, j < i → l[j]? = some x → ∀ k, k < n → bh L R n x = L k → (k, 0) ∈ l
structure CloK (L : Nat → Int) (R : Nat → ByteArray) (n : Nat) (S : It → Prop) (l : List It) (i k : Nat) (x : It) : Prop where
  at_ : l[i]? = some x
  ci : CloI L R n S l i
  got : ∀ j, j < k → bh L R n x = L j → (j, 0) ∈ l
theorem CloI.start {S : It → Prop} {l : List It} (hn : l.Nodup) (hs : ∀ y, S y ↔ y ∈ l) : CloI L R n S l 0 :=
  ⟨hn, fun y hy => (hs y).1 hy, fun x hx => inC_of ((hs x).2 hx), fun j x hj => by omega⟩
theorem CloI.row {S : It → Prop} {l : List It} {i : Nat} {x : It} (h : CloI L R n S l i) (hx : l[i]? = some x) : CloK L R n S l i 0 x := ⟨hx, h, fun j hj => by omega⟩
theorem CloK.skip {S : It → Prop} {l : List It} {i k : Nat} {x : It} (h : CloK L R n S l i k x) (hk : bh L R n x = L k → (k, 0) ∈ l) : CloK L R n S l i (k + 1) x :=
  ⟨h.at_, h.ci, fun j hj e => by
    by_cases q : j = k
    · subst q; exact hk e
    · exact h.got j (by omega) e⟩
theorem CloK.push {S : It → Prop} {l : List It} {i k : Nat} {x : It} (h : CloK L R n S l i k x) (hkn : k < n) (hb : bh L R n x = L k) (hk : (k, 0) ∉ l) : CloK L R n S (l ++ [(k, 0)]) i (k + 1) x := by
  have hi := (List.getElem?_eq_some_iff.1 h.at_).1
  refine ⟨by rw [List.getElem?_append_left hi]; exact h.at_, ⟨?_, fun y hy => List.mem_append_left _ (h.ci.sub y hy), fun y hy => ?_, fun j y hj hy q hq e => ?_⟩, fun j hj e => ?_⟩
  · rw [List.nodup_append]
    refine ⟨h.ci.nd, by simp, fun a ha b hb e => ?_⟩
    rw [List.mem_singleton] at hb
    subst hb
    subst e
    exact hk ha
  · rcases List.mem_append.1 hy with hy | hy
    · exact h.ci.inc y hy
    · rw [List.mem_singleton] at hy
      subst hy
      exact inC_cls S x k (h.ci.inc x (List.mem_of_getElem? h.at_)) hkn hb
  · rw [List.getElem?_append_left (by omega)] at hy
    exact List.mem_append_left _ (h.ci.cls j y hj hy q hq e)
  · by_cases q : j = k
    · subst q; simp
    · exact List.mem_append_left _ (h.got j (by omega) e)
theorem CloK.next {S : It → Prop} {l : List It} {i : Nat} {x : It} (h : CloK L R n S l i n x) : CloI L R n S l (i + 1) :=
  ⟨h.ci.nd, h.ci.sub, h.ci.inc, fun j y hj hy k hk e => by
    by_cases q : j = i
    · subst q
      have := h.at_
      rw [hy] at this
      injection this with this
      subst this
      exact h.got k hk e
    · exact h.ci.cls j y (by omega) hy k hk e⟩
theorem CloI.len {S : It → Prop} {l : List It} {i : Nat} (h : CloI L R n S l i) (h4 : R4 R n) (hf : ∀ y, S y → Fits L R n y) : l.length ≤ (n + 1) * 5 :=
  list_le h.nd fun x hx => ⟨(inC_fits hf (h.inc x hx)).1, (inC_fits hf (h.inc x hx)).lt5 h4⟩
theorem CloI.done {S : It → Prop} {l l' : List It} (h : CloI L R n S l l.length) (h4 : R4 R n) (hf : ∀ y, S y → Fits L R n y) (hp : l'.Perm l) (hs : l'.Pairwise fun p q => ltI q p = false) : l' = clo L R n S := by
  refine clo_unique h4 hf (asc_of hp h.nd (fun x hx => (inC_fits hf (h.inc x hx)).lt5 h4) hs) fun x => ?_
  rw [hp.mem_iff]
  refine ⟨h.inc x, fun hx => inC_le h.sub (fun y k hy hk e => ?_) hx⟩
  obtain ⟨j, hj⟩ := List.getElem?_of_mem hy
  exact h.cls j y (List.getElem?_eq_some_iff.1 hj).1 hj k hk e
structure TabI (L : Nat → Int) (R : Nat → ByteArray) (n : Nat) (S : It → Prop) (P : It → Bool) : Prop where
  sub : ∀ y, S y → P y = true
  inc : ∀ x, P x = true → inC L R n S x
def cntI (n : Nat) (P : It → Bool) : Nat := (univ n).countP P
structure TabR (L : Nat → Int) (R : Nat → ByteArray) (n : Nat) (S : It → Prop) (P : It → Bool) (r : Nat) : Prop where
  t : TabI L R n S P
  c : Cls L R n (fun x => P x = true) ∨ r ≤ cntI n P
structure TabM (L : Nat → Int) (R : Nat → ByteArray) (n : Nat) (S : It → Prop) (P0 P : It → Bool) (i d k : Nat) : Prop where
  t : TabI L R n S P
  up : ∀ x, P0 x = true → P x = true
  got : ∀ i' d' k', (i' < i ∨ (i' = i ∧ (d' < d ∨ (d' = d ∧ k' < k)))) → k' < n → P0 (i', d') = true → bh L R n (i', d') = L k' → P (k', 0) = true
theorem TabM.start {S : It → Prop} {P : It → Bool} (h : TabI L R n S P) : TabM L R n S P P 0 0 0 := ⟨h, fun _ h => h, fun i' d' k' q => by omega⟩
def setI (P : It → Bool) (k : Nat) : It → Bool := fun x => if x = (k, 0) then true else P x
theorem TabM.skip {S : It → Prop} {P0 P : It → Bool} {i d k : Nat} (h : TabM L R n S P0 P i d k) (hk : P (i, d) = true → bh L R n (i, d) = L k → P (k, 0) = true) : TabM L R n S P0 P i d (k + 1) :=
  ⟨h.t, h.up, fun i' d' k' q hk' hp e => by
    by_cases z : i' = i ∧ d' = d ∧ k' = k
    · obtain ⟨rfl, rfl, rfl⟩ := z
      exact hk (h.up _ hp) e
    · exact h.got i' d' k' (by omega) hk' hp e⟩
theorem TabM.put {S : It → Prop} {P0 P : It → Bool} {i d k : Nat} (h : TabM L R n S P0 P i d k) (hkn : k < n) (hp : P (i, d) = true) (e : bh L R n (i, d) = L k) : TabM L R n S P0 (setI P k) i d (k + 1) := by
  have hs : ∀ x, P x = true → setI P k x = true := fun x hx => by
    unfold setI
    split
    · rfl
    · exact hx
  refine ⟨⟨fun y hy => hs y (h.t.sub y hy), fun x hx => ?_⟩, fun x hx => hs x (h.up x hx), fun i' d' k' q hk' hp' e' => ?_⟩
  · unfold setI at hx
    split at hx
    · rename_i q
      subst q
      exact inC_cls S (i, d) k (h.t.inc _ hp) hkn e
    · exact h.t.inc x hx
  · by_cases z : k' = k
    · subst z
      unfold setI
      rw [if_pos rfl]
    · by_cases z2 : i' = i ∧ d' = d ∧ k' = k
      · exact absurd z2.2.2 z
      · exact hs _ (h.got i' d' k' (by omega) hk' hp' e')
theorem TabM.row {S : It → Prop} {P0 P : It → Bool} {i : Nat} (hok : ∀ k, k < n → L k ≠ 0) (h : TabM L R n S P0 P i (rs L R n i).size 0) : TabM L R n S P0 P (i + 1) 0 0 :=
  ⟨h.t, h.up, fun i' d' k' q hk' hp e => by
    by_cases z : i' = i
    · subst z
      have := bh_lt (L := L) (R := R) (n := n) (x := (i', d')) (by rw [e]; exact hok k' hk')
      exact h.got i' d' k' (.inr ⟨rfl, .inl this⟩) hk' hp e
    · exact h.got i' d' k' (by omega) hk' hp e⟩
theorem cnt_lt {P Q : It → Bool} (h : ∀ x, P x = true → Q x = true) {z : It} (hz : z ∈ univ n) (h1 : P z = false) (h2 : Q z = true) : cntI n P < cntI n Q := by
  rcases Nat.lt_or_ge (cntI n P) (cntI n Q) with q | q
  · exact q
  · have e : cntI n P = cntI n Q := Nat.le_antisymm (countP_le_of fun x _ hx => h x hx) q
    have := countP_eq_of (fun x _ hx => h x hx) e z hz
    rw [h1, h2] at this
    cases this
theorem TabM.round {S : It → Prop} {P0 P : It → Bool} {r : Nat} (hf : ∀ y, S y → Fits L R n y) (h0 : TabR L R n S P0 r) (h : TabM L R n S P0 P (n + 1) 0 0) : TabR L R n S P (r + 1) := by
  refine ⟨h.t, ?_⟩
  by_cases hc : Cls L R n (fun x => P0 x = true)
  · left
    intro y k hy hk e
    have h1 : P0 y = true := inC_le h0.t.sub hc (h.t.inc y hy)
    exact h.up _ (hc y k h1 hk e)
  · right
    rcases h0.c with q | q
    · exact absurd q hc
    · have : ∃ y k, P0 y = true ∧ k < n ∧ bh L R n y = L k ∧ P0 (k, 0) = false := by
        refine Classical.byContradiction fun hn => hc fun y k hy hk e => ?_
        cases hz : P0 (k, 0) with
        | true => exact hz
        | false => exact absurd ⟨y, k, hy, hk, e, hz⟩ hn
      obtain ⟨y, k, hy, hk, e, hz⟩ := this
      have hy1 := (inC_fits hf (h0.t.inc y hy)).1
      have h2 := h.got y.1 y.2 k (.inl (by omega)) hk hy e
      have := cnt_lt h.up (univ_mem.2 ⟨Nat.le_of_lt hk, by show (0 : Nat) < 5; omega⟩) hz h2
      omega
theorem TabR.start {S : It → Prop} {P : It → Bool} (h : TabI L R n S P) : TabR L R n S P 0 := ⟨h, .inr (Nat.zero_le _)⟩
structure StaI (L : Nat → Int) (R : Nat → ByteArray) (n : Nat) (out : List (List It)) (i : Nat) : Prop where
  le : out.length ≤ 64
  fits : ∀ s ∈ out, Asc s ∧ ∀ x ∈ s, Fits L R n x
  rest : bld L R n (65 - i) i out = stas L R n
  ile : i ≤ out.length
structure StaK (L : Nat → Int) (R : Nat → ByteArray) (n : Nat) (st : List It) (out : List (List It)) (i k : Nat) : Prop where
  le : out.length ≤ 64
  fits : ∀ s ∈ out, Asc s ∧ ∀ x ∈ s, Fits L R n x
  at_ : out[i]? = some st
  rest : (onL L R n st (lets.drop k) out).bind (bld L R n (64 - i) (i + 1)) = stas L R n
theorem sta0_ok (h4 : R4 R n) : Asc (sta0 L R n) ∧ ∀ x ∈ sta0 L R n, Fits L R n x := ⟨clo_ord _, fun x hx => clo_fits h4 sta0_fits hx⟩
theorem StaI.start (h4 : R4 R n) : StaI L R n [sta0 L R n] 0 :=
  ⟨by simp, fun s hs => by rw [List.mem_singleton] at hs; subst hs; exact sta0_ok h4, rfl, by simp⟩
theorem StaI.row {out : List (List It)} {i : Nat} (h : StaI L R n out i) {st : List It} (hi : out[i]? = some st) : StaK L R n st out i 0 := by
  obtain ⟨hlt, e⟩ := List.getElem?_eq_some_iff.1 hi
  refine ⟨h.le, h.fits, hi, ?_⟩
  have h1 := h.rest
  have h2 := h.le
  rw [show 65 - i = (64 - i) + 1 by omega, bld, dif_pos hlt, e] at h1
  exact h1
theorem StaI.done {out : List (List It)} (h : StaI L R n out out.length) : stas L R n = some out := by
  have h1 := h.rest
  have h2 := h.le
  rw [show 65 - out.length = (64 - out.length) + 1 by omega, bld, dif_neg (Nat.lt_irrefl _)] at h1
  exact h1.symm
theorem StaK.next {st : List It} {out : List (List It)} {i : Nat} (h : StaK L R n st out i 9) : StaI L R n out (i + 1) := by
  have hi := (List.getElem?_eq_some_iff.1 h.at_).1
  refine ⟨h.le, h.fits, ?_, hi⟩
  have := h.rest
  rw [show lets.drop 9 = [] from rfl, onL] at this
  rw [show 65 - (i + 1) = 64 - i by omega]
  exact this
theorem lets_drop {k : Nat} (hk : k < 9) : lets.drop k = lets[k]'hk :: lets.drop (k + 1) := (List.drop_eq_getElem_cons hk)
theorem StaK.skip {st : List It} {out : List (List It)} {i k : Nat} (h : StaK L R n st out i k) (hk : k < 9) (hn : onC L R n out st (lets[k]'hk) = some out) : StaK L R n st out i (k + 1) := by
  refine ⟨h.le, h.fits, h.at_, ?_⟩
  have := h.rest
  rw [lets_drop hk, onL, hn] at this
  exact this
theorem StaK.none_ {st : List It} {out : List (List It)} {i k : Nat} (h : StaK L R n st out i k) (hk : k < 9) (hn : nxt L R n st (lets[k]'hk) = []) : StaK L R n st out i (k + 1) :=
  h.skip hk (by unfold onC; rw [if_pos hn])
theorem StaK.old {st : List It} {out : List (List It)} {i k : Nat} (h : StaK L R n st out i k) (hk : k < 9) (hn : ovr L R n st (lets[k]'hk) ∈ out) : StaK L R n st out i (k + 1) :=
  h.skip hk (by unfold onC; rw [if_pos hn]; split <;> rfl)
theorem lets_ne {k : Nat} (hk : k < 9) : lets[k]'hk ≠ 0 := by
  have : ∀ k : Fin 9, lets[k.val]'k.isLt ≠ 0 := by decide
  exact this ⟨k, hk⟩
theorem ovr_ok (h4 : R4 R n) {st : List It} (hs : ∀ x ∈ st, Fits L R n x) {c : Int} (hc : c ≠ 0) : Asc (ovr L R n st c) ∧ ∀ x ∈ ovr L R n st c, Fits L R n x :=
  ⟨clo_ord _, fun x hx => clo_fits h4 (nxt_fits hs hc) hx⟩
theorem StaK.new (h4 : R4 R n) {st : List It} {out : List (List It)} {i k : Nat} (h : StaK L R n st out i k) (hk : k < 9) (hne : nxt L R n st (lets[k]'hk) ≠ []) (hn : ovr L R n st (lets[k]'hk) ∉ out) (hl : out.length < 64) : StaK L R n st (out ++ [ovr L R n st (lets[k]'hk)]) i (k + 1) := by
  have hst := (h.fits st (List.mem_of_getElem? h.at_)).2
  refine ⟨by rw [List.length_append]; simp; omega, fun s hs => ?_, ?_, ?_⟩
  · rcases List.mem_append.1 hs with q | q
    · exact h.fits s q
    · rw [List.mem_singleton] at q
      subst q
      exact ovr_ok h4 hst (lets_ne hk)
  · rw [List.getElem?_append_left (List.getElem?_eq_some_iff.1 h.at_).1]
    exact h.at_
  · have := h.rest
    rw [lets_drop hk, onL] at this
    have e : onC L R n out st (lets[k]'hk) = some (out ++ [ovr L R n st (lets[k]'hk)]) := by
      unfold onC
      rw [if_neg hne, if_neg hn, if_neg (by omega)]
    rw [e] at this
    exact this
theorem StaK.full {st : List It} {out : List (List It)} {i k : Nat} (h : StaK L R n st out i k) (hk : k < 9) (hne : nxt L R n st (lets[k]'hk) ≠ []) (hn : ovr L R n st (lets[k]'hk) ∉ out) (hl : ¬ out.length < 64) : stas L R n = none := by
  have := h.rest
  rw [lets_drop hk, onL] at this
  have e : onC L R n out st (lets[k]'hk) = none := by
    unfold onC
    rw [if_neg hne, if_neg hn, if_pos (by omega)]
  rw [e] at this
  exact this.symm
end
end Go.Proofs.YtjpfalanoifpbaaDoor.T
end

section
set_option linter.unusedVariables false
set_option linter.unusedSimpArgs false
namespace Go.Proofs.YtjpfalanoifpbaaDoor.X
open Go.RowKit Go.Proofs.YtjpfalanoifpbaaDoorW.PrintWords Go.Proofs.YtjpfalanoifpbaaDoorW.PrintLast Go.Proofs.YtjpfalanoifpbaaDoorW.PrintMore Go.Proofs.YtjpfalanoifpbaaDoor.T
abbrev KI : Kd It := Kd.iso (Kd.pair (Kd.int .i64) (Kd.int .i64)) fun x => ((x.1 : Int), (x.2 : Int))
def itV (x : It) : List Value := [.int .i64 (x.1 : Nat), .int .i64 (x.2 : Nat)]
theorem ki_cells {w : World} {x : It} {c : List Value} (h : KI.K w x c) : c = itV x := by
  obtain ⟨c0, c1, rfl, h0, h1⟩ := h
  rw [show c0 = [.int .i64 (x.1 : Nat)] from h0, show c1 = [.int .i64 (x.2 : Nat)] from h1]
  rfl
theorem ki_rep {w : World} {B : Nat} {ok : Nat → Prop} (x : It) : KI.M w B ok x [.int .i64 (x.1 : Nat), .int .i64 (x.2 : Nat)] := ⟨[.int .i64 (x.1 : Nat)], [.int .i64 (x.2 : Nat)], rfl, rfl, rfl⟩
structure Itm (w : World) (b off : Nat) (l : List It) : Prop where
  c0 : ∀ (i : Nat) x, l[i]? = some x → w.cell? ⟨b, off + i * 2, none⟩ = some (.int .i64 (x.1 : Nat))
  c1 : ∀ (i : Nat) x, l[i]? = some x → w.cell? ⟨b, off + i * 2 + 1, none⟩ = some (.int .i64 (x.2 : Nat))
theorem Itm.later {w w' : World} {b off : Nat} {l : List It} (h : Itm w b off l) (hb : Below w.heap.size w w') : Itm w' b off l :=
  ⟨fun i x hi => (hb.cell (p := ⟨b, off + i * 2, none⟩) (World.block_lt_of_cell? _ _ (h.c0 i x hi))).trans (h.c0 i x hi), fun i x hi => (hb.cell (p := ⟨b, off + i * 2 + 1, none⟩) (World.block_lt_of_cell? _ _ (h.c1 i x hi))).trans (h.c1 i x hi)⟩
def Ir (w : World) (A : Option Addr) (n c : Nat) (l : List It) : Prop := n = l.length ∧ (n = 0 ∨ ∃ b off, A = some ⟨b, off, none⟩ ∧ n ≤ c ∧ Itm w b off l)
theorem Ir.later {w w' : World} {A : Option Addr} {n c : Nat} {l : List It} (h : Ir w A n c l) (hb : Below w.heap.size w w') : Ir w' A n c l := by
  obtain ⟨h0, h | ⟨b, off, h1, h2, h3⟩⟩ := h
  · exact ⟨h0, .inl h⟩
  · exact ⟨h0, .inr ⟨b, off, h1, h2, h3.later hb⟩⟩
theorem Ir.open {w : World} {A : Option Addr} {n c : Nat} {l : List It} (h : Ir w A n c l) (h0 : 0 < n) : ∃ b off, A = some ⟨b, off, none⟩ ∧ n ≤ c ∧ Itm w b off l := by
  rcases h.2 with h | h
  · omega
  · exact h
theorem ki_ir {w : World} {A : Option Addr} {n c : Nat} {l : List It} (h : KI.C w A n l) (hc : n ≤ c) : Ir w A n c l := by
  refine ⟨h.1.symm, ?_⟩
  rcases Nat.eq_zero_or_pos n with h0 | h0
  · exact .inl h0
  · obtain ⟨ad, rfl, hr⟩ := h.2.2 h0
    have hl : l.length = n := h.1
    have key : ∀ j x, l[j]? = some x → w.cell? (ad.add (j * 2)) = some (.int .i64 (x.1 : Nat)) ∧ w.cell? (ad.add (j * 2 + 1)) = some (.int .i64 (x.2 : Nat)) := fun j x hp => by
      obtain ⟨cs, hs, hk, hcell⟩ := hr j _ hp
      have e := ki_cells hk
      subst e
      exact ⟨hcell 0 _ rfl, hcell 1 _ rfl⟩
    have hsp : ad.spot = none := by
      have hp : l[0]? = some (l[0]'(by omega)) := List.getElem?_eq_getElem (by omega)
      have := (key 0 _ hp).1
      rw [show ad.add (0 * 2) = ad by simp [Addr.add]] at this
      exact World.cell?_spot this
    have ha : ∀ j, ad.add j = ⟨ad.block, ad.off + j, none⟩ := fun j => by
      unfold Addr.add
      by_cases hj : j = 0
      · subst hj
        rw [if_pos rfl, ← hsp]
        simp
      · rw [if_neg hj]
    refine .inr ⟨ad.block, ad.off, by rw [← hsp], hc, fun i x hi => ?_, fun i x hi => ?_⟩
    · rw [← ha]; exact (key i x hi).1
    · rw [Nat.add_assoc, ← ha]; exact (key i x hi).2
theorem ki_read {ty B : Nat} {w : World} {ok : Nat → Prop} {v : Value} {l : List It} (h : Kd.R KI ty w B ok v l) : ∃ A c, v = .slice A l.length c ∧ Ir w A l.length c l := by
  obtain ⟨A, c, rfl, hc, hC⟩ := Kd.R_reads h
  exact ⟨A, c, rfl, ki_ir hC hc⟩
theorem enc_part {c : Int} (h : isP c = true) : Utf8.encode c = sg c := by
  rw [isP_iff] at h
  have : c = 65 ∨ c = 66 ∨ c = 67 ∨ c = 68 ∨ c = 69 := by omega
  rcases this with rfl | rfl | rfl | rfl | rfl <;> rfl
set_option maxHeartbeats 4000000 in
set_option maxRecDepth 100000 in
theorem right_calls (A : Option Addr) (n c : Nat) (L : Nat → Int) (R : Nat → ByteArray) (i : Nat) (w : World) (hA : Sr w A n c L R) (hn : 1 ≤ n) (hn8 : n ≤ 8) (hi : i ≤ n) (hp : isP (L 0) = true) :
    Calls Tryd.prog 116 #[.slice A n c, .int .i64 (i : Nat)] w fun e w' => e = .returned (.string (rs L R n i)) ∧ w' = w := by
  obtain ⟨b, off, rfl, hnc, hP⟩ := hA.open hn
  obtain ⟨X, hX⟩ : ∃ X, rs L R n i = X := ⟨_, rfl⟩
  rw [hX]
  unfold rs at hX
  by_cases hin : i = n
  · rw [if_pos hin] at hX
    subst hin
    have c0 := hP.c0 0 hn
    obtain ⟨l, hl⟩ : ∃ l, L 0 = l := ⟨_, rfl⟩
    rw [hl] at c0 hX hp
    have he : Utf8.encode l = X := (enc_part hp).trans hX
    simp only [Nat.zero_mul, Nat.add_zero] at c0
    have hc0 : 0 < c := by omega
    clear hX hP hA hl
    go_enter Tryd.func116, Tryd.ntmps116
    go_wp2
    go_ret
    exact ⟨rfl, rfl⟩
  · rw [if_neg hin] at hX
    have c1 := hP.c1 i (by omega)
    rw [hX] at c1
    have hic : i < c := by omega
    have hinI : ¬ (i : Int) = (n : Int) := by omega
    clear hX hP hA
    go_enter Tryd.func116, Tryd.ntmps116
    go_wp2
    go_ret
    exact ⟨rfl, rfl⟩
theorem it_new (w : World) (t : TypeId) (a b : Int) : (w.alloc (.cells #[.int .i64 a, .int .i64 b] t)).cell? ⟨w.heap.size, 0, none⟩ = some (.int .i64 a) ∧ (w.alloc (.cells #[.int .i64 a, .int .i64 b] t)).cell? ⟨w.heap.size, 1, none⟩ = some (.int .i64 b) :=
  ⟨by simp, by simp⟩
set_option maxHeartbeats 4000000 in
set_option maxRecDepth 100000 in
theorem behind_calls (A : Option Addr) (n c : Nat) (L : Nat → Int) (R : Nat → ByteArray) (x : It) (w : World) (hA : Sr w A n c L R) (hn : 1 ≤ n) (hn8 : n ≤ 8) (hx : Fits L R n x) (h4 : R4 R n) (hp : isP (L 0) = true) :
    Calls Tryd.prog 111 #[.slice A n c, .agg #[.int .i64 (x.1 : Nat), .int .i64 (x.2 : Nat)]] w fun e w' => e = .returned (.int .u8 (bh L R n x)) ∧ Below w.heap.size w w' := by
  have HA := Lib.hid hA
  have hs4 := rs_le (L := L) h4 hx.1
  have hx2 := hx.2
  have hx1 := hx.1
  obtain ⟨X, hX⟩ : ∃ X, bh L R n x = X := ⟨_, rfl⟩
  rw [hX]
  unfold bh at hX
  obtain ⟨i, d⟩ := x
  simp only at hX hx1 hx2 hs4 ⊢
  have HR := Lib.hid fun (w : World) (h : Sr w A n c L R) => right_calls A n c L R i w h hn hn8 hx1 hp
  obtain ⟨s, hs⟩ : ∃ s, rs L R n i = s := ⟨_, rfl⟩
  rw [hs] at hs4 hx2 HR hX
  clear hA hs hx hp
  go_enter Tryd.func111, Tryd.ntmps111
  go_wp2_with fail
  have hb1 := below_one (w := w) (.cells #[.int .i64 (i : Nat), .int .i64 (d : Nat)] 122)
  obtain ⟨d0, d1⟩ := it_new w 122 (i : Nat) (d : Nat)
  generalize w.alloc (.cells #[.int .i64 (i : Nat), .int .i64 (d : Nat)] 122) = w1 at hb1 d0 d1 ⊢
  have HB := Lib.hid hb1
  clear hb1
  go_wp2_with fail
  refine (HR.out w1 (HA.out.later HB.out)).mono ?_
  rintro e w2 ⟨rfl, rfl⟩
  by_cases hlt : d < s.size
  · have hltI : (d : Int) < (s.size : Int) := by omega
    have hbt : (((s[d]'hlt).toNat : Nat) : Int) = X := (ch_at s d hlt).trans hX
    go_wp2
    go_ret
    exact ⟨rfl, HB.out⟩
  · have hltI : ¬ (d : Int) < (s.size : Int) := by omega
    have hX0 : X = 0 := by rw [← hX]; exact ch_end s d (by omega)
    subst hX0
    go_wp2
    go_ret
    exact ⟨rfl, HB.out⟩
end Go.Proofs.YtjpfalanoifpbaaDoor.X
end

section
set_option linter.unusedVariables false
set_option linter.unusedSimpArgs false
namespace Go.Proofs.YtjpfalanoifpbaaDoor.X
open Go.RowKit Go.Proofs.YtjpfalanoifpbaaDoorW.PrintWords Go.Proofs.YtjpfalanoifpbaaDoorW.PrintLast Go.Proofs.YtjpfalanoifpbaaDoorW.PrintMore Go.Proofs.YtjpfalanoifpbaaDoor.T
def sameI (x y : It) : Bool := decide (x = y)
theorem item_eq (a b c d : Nat) (w : World) : (Op.equalIn 10000 122 (.agg #[.int .i64 (a : Nat), .int .i64 (b : Nat)]) (.agg #[.int .i64 (c : Nat), .int .i64 (d : Nat)])).run Tryd.prog w = .ok (sameI (a, b) (c, d)) w := by
  unfold sameI
  have u3 := Tryd.underlying3
  have a3 := Tryd.isAgg3
  have z3 := Tryd.sizeOf3
  rw [show (10000 : Nat) = 9999 + 1 from rfl, Op.equalIn]
  simp only [Sem.run_bind, run_underlying Tryd.underlying122, Result.andThen_ok]
  go_simp
  by_cases h1 : a = c <;> by_cases h2 : b = d <;> simp [h1, h2] <;> omega
set_option maxHeartbeats 4000000 in
set_option maxRecDepth 100000 in
theorem indexI_calls (A : Option Addr) (n c : Nat) (l : List It) (x : It) (w : World) (hA : Ir w A n c l) (hn : n ≤ 1000) (r : Bool) (hr : r = true ↔ x ∈ l) :
    Calls Tryd.prog 138 #[.slice A n c, .agg #[.int .i64 (x.1 : Nat), .int .i64 (x.2 : Nat)]] w fun e w' => (∃ i : Int, e = .returned (.int .i64 i) ∧ (decide (0 ≤ i)) = r) ∧ Below w.heap.size w w' := by
  obtain ⟨p, q⟩ := x
  simp only
  have HA := Lib.hid hA
  have HR := Lib.hid hr
  clear hA hr
  go_enter Tryd.func138, Tryd.ntmps138
  go_wp2_with fail
  have hb1 := below_one (w := w) (.cells #[.int .i64 (p : Nat), .int .i64 (q : Nat)] 122)
  obtain ⟨d0, d1⟩ := it_new w 122 (p : Nat) (q : Nat)
  have hl1 : w.heap.size < (w.alloc (.cells #[.int .i64 (p : Nat), .int .i64 (q : Nat)] 122)).heap.size := by simp
  obtain ⟨w1, hw1⟩ : ∃ w1, w1 = w.alloc (.cells #[.int .i64 (p : Nat), .int .i64 (q : Nat)] 122) := ⟨_, rfl⟩
  rw [← hw1] at hb1 d0 d1 hl1 ⊢
  have HB1 := Lib.hid hb1
  have HD := Lib.hid (And.intro d0 (And.intro d1 hl1))
  clear hw1 hb1 d0 d1 hl1
  have HB := Lib.hid (Below.refl w1.heap.size w1)
  go_loopw [8] (fun i wr => ∃ k : Nat, k ≤ n ∧ i = .int .i64 k ∧ Hid (∀ j, j < k → l[j]? ≠ some (p, q)) ∧ Hid (Below w1.heap.size w1 wr)) (fun i _ => n - (intOf i).toNat)
  case atStart => exact ⟨0, by omega, rfl, Lib.hid (fun j h => by omega), HB⟩
  case round =>
    clear HB
    obtain ⟨k, hk, rfl, HK, HB⟩ := hrel
    have HBW := Lib.hid (HB1.out.trans (HB.out.mono HB1.out.size))
    by_cases hlt : k < n
    · obtain ⟨b, off, rfl, hnc, hP⟩ := HA.out.open (by omega)
      have hkl : k < l.length := by have := HA.out.1; omega
      obtain ⟨⟨p2, q2⟩, hx⟩ : ∃ y, l[k]? = some y := ⟨_, List.getElem?_eq_getElem hkl⟩
      have c0 := (hP.later HBW.out).c0 k _ hx
      have c1 := (hP.later HBW.out).c1 k _ hx
      simp only at c0 c1
      have t0 := (HB.out.cell (p := ⟨w.heap.size, 0, none⟩) HD.out.2.2).trans HD.out.1
      have t1 := (HB.out.cell (p := ⟨w.heap.size, 1, none⟩) HD.out.2.2).trans HD.out.2.1
      have HX := Lib.hid hx
      have hm122 : Tryd.prog.eqGuardType Tryd.prog.depth 122 = false := by kernel_rfl
      have he := fun w => item_eq p q p2 q2 w
      clear hx hP hkl
      cases hq : sameI (p, q) (p2, q2) with
      | true =>
        rw [hq] at he
        have hrt : r = true := HR.out.2 (by
          have e : (p, q) = (p2, q2) := of_decide_eq_true hq
          rw [e]
          exact List.mem_of_getElem? HX.out)
        have HRT := Lib.hid hrt
        clear hrt hq
        go_wp2_with fail
        refine start_ (n := 6) (S := fun w' => w'.cell? ⟨w.heap.size, 0, none⟩ = some (.int .i64 (p : Nat)) ∧ w'.cell? ⟨w.heap.size, 1, none⟩ = some (.int .i64 (q : Nat)) ∧ w'.cell? ⟨b, off + k * 2, none⟩ = some (.int .i64 (p2 : Nat)) ∧ w'.cell? ⟨b, off + k * 2 + 1, none⟩ = some (.int .i64 (q2 : Nat))) (ds := []) #[false, false, false, false, false, false] (by kernel_rfl) rfl rfl ⟨by simpa using t0, by simpa using t1, by simpa using c0, by simpa using c1⟩ (fun hHeld => ?_)
        refine take_ (i := 0) (N := (some 11)) (v := ?_) (a' := ?_) #[true, false, false, false, false, false] rfl rfl (by kernel_rfl) (fun _ _ _ h => h) (Or.inl ⟨by rfl, ?_⟩) hHeld ?_ ?_
        rotate_left
        · rintro w' ⟨s0, s1, s2, s3⟩; go_simp; first | done | with_reducible rfl
        rotate_left
        · simp only [Act.put, List.setIfInBounds_toArray, List.set_cons_zero, List.set_cons_succ, i64_w, i32_w]; rfl
        refine pure_ (i := 1) (N := (some 12)) (v := ?_) (a' := ?_) #[true, true, false, false, false, false] rfl rfl (by kernel_rfl) (fun _ _ _ h => h) (Or.inl ⟨by rfl, ?_⟩) ?_ ?_
        rotate_left
        · intro w'; go_simp; first | done | with_reducible rfl
        rotate_left
        · simp only [Act.put, List.setIfInBounds_toArray, List.set_cons_zero, List.set_cons_succ, i64_w, i32_w]; rfl
        refine pure_ (i := 2) (N := (some 13)) (v := ?_) (a' := ?_) #[true, true, true, false, false, false] rfl rfl (by kernel_rfl) (fun _ _ _ h => h) (Or.inl ⟨by rfl, ?_⟩) ?_ ?_
        rotate_left
        · intro w'; go_simp; first | done | with_reducible rfl
        rotate_left
        · simp only [Act.put, List.setIfInBounds_toArray, List.set_cons_zero, List.set_cons_succ, i64_w, i32_w]; rfl
        refine pure_ (i := 3) (N := (some 14)) (v := ?_) (a' := ?_) #[true, true, true, true, false, false] rfl rfl (by kernel_rfl) (fun _ _ _ h => h) (Or.inl ⟨by rfl, ?_⟩) ?_ ?_
        rotate_left
        · intro w'; go_simp; first | done | with_reducible rfl
        rotate_left
        · simp only [Act.put, List.setIfInBounds_toArray, List.set_cons_zero, List.set_cons_succ, i64_w, i32_w]; rfl
        refine take_ (i := 4) (N := (some 15)) (v := ?_) (a' := ?_) #[true, true, true, true, true, false] rfl rfl (by kernel_rfl) (fun _ _ _ h => h) (Or.inl ⟨by rfl, ?_⟩) hHeld ?_ ?_
        rotate_left
        · rintro w' ⟨s0, s1, s2, s3⟩; go_simp; first | done | with_reducible rfl
        rotate_left
        · simp only [Act.put, List.setIfInBounds_toArray, List.set_cons_zero, List.set_cons_succ, i64_w, i32_w]; rfl
        refine pure_ (i := 5) (N := (some 16)) (v := (.bool true)) (a' := ?_) #[true, true, true, true, true, true] rfl rfl (by kernel_rfl) (fun _ _ _ h => h) (Or.inl ⟨by rfl, ?_⟩) ?_ ?_
        · intro w'; go_simp; first | done | with_reducible rfl
        rotate_left
        · simp only [Act.put, List.setIfInBounds_toArray, List.set_cons_zero, List.set_cons_succ, i64_w, i32_w]; rfl
        refine done_ (by kernel_rfl) ?_
        have HB2 := Lib.hid HBW.out.drew
        clear hHeld c0 c1 t0 t1 he hm122
        go_wp2
        go_ret
        exact ⟨⟨k, rfl, by rw [HRT.out]; simp⟩, HB2.out⟩
      | false =>
        rw [hq] at he
        have HQ := Lib.hid hq
        clear hq
        go_wp2_with fail
        refine start_ (n := 6) (S := fun w' => w'.cell? ⟨w.heap.size, 0, none⟩ = some (.int .i64 (p : Nat)) ∧ w'.cell? ⟨w.heap.size, 1, none⟩ = some (.int .i64 (q : Nat)) ∧ w'.cell? ⟨b, off + k * 2, none⟩ = some (.int .i64 (p2 : Nat)) ∧ w'.cell? ⟨b, off + k * 2 + 1, none⟩ = some (.int .i64 (q2 : Nat))) (ds := []) #[false, false, false, false, false, false] (by kernel_rfl) rfl rfl ⟨by simpa using t0, by simpa using t1, by simpa using c0, by simpa using c1⟩ (fun hHeld => ?_)
        refine take_ (i := 0) (N := (some 11)) (v := ?_) (a' := ?_) #[true, false, false, false, false, false] rfl rfl (by kernel_rfl) (fun _ _ _ h => h) (Or.inl ⟨by rfl, ?_⟩) hHeld ?_ ?_
        rotate_left
        · rintro w' ⟨s0, s1, s2, s3⟩; go_simp; first | done | with_reducible rfl
        rotate_left
        · simp only [Act.put, List.setIfInBounds_toArray, List.set_cons_zero, List.set_cons_succ, i64_w, i32_w]; rfl
        refine pure_ (i := 1) (N := (some 12)) (v := ?_) (a' := ?_) #[true, true, false, false, false, false] rfl rfl (by kernel_rfl) (fun _ _ _ h => h) (Or.inl ⟨by rfl, ?_⟩) ?_ ?_
        rotate_left
        · intro w'; go_simp; first | done | with_reducible rfl
        rotate_left
        · simp only [Act.put, List.setIfInBounds_toArray, List.set_cons_zero, List.set_cons_succ, i64_w, i32_w]; rfl
        refine pure_ (i := 2) (N := (some 13)) (v := ?_) (a' := ?_) #[true, true, true, false, false, false] rfl rfl (by kernel_rfl) (fun _ _ _ h => h) (Or.inl ⟨by rfl, ?_⟩) ?_ ?_
        rotate_left
        · intro w'; go_simp; first | done | with_reducible rfl
        rotate_left
        · simp only [Act.put, List.setIfInBounds_toArray, List.set_cons_zero, List.set_cons_succ, i64_w, i32_w]; rfl
        refine pure_ (i := 3) (N := (some 14)) (v := ?_) (a' := ?_) #[true, true, true, true, false, false] rfl rfl (by kernel_rfl) (fun _ _ _ h => h) (Or.inl ⟨by rfl, ?_⟩) ?_ ?_
        rotate_left
        · intro w'; go_simp; first | done | with_reducible rfl
        rotate_left
        · simp only [Act.put, List.setIfInBounds_toArray, List.set_cons_zero, List.set_cons_succ, i64_w, i32_w]; rfl
        refine take_ (i := 4) (N := (some 15)) (v := ?_) (a' := ?_) #[true, true, true, true, true, false] rfl rfl (by kernel_rfl) (fun _ _ _ h => h) (Or.inl ⟨by rfl, ?_⟩) hHeld ?_ ?_
        rotate_left
        · rintro w' ⟨s0, s1, s2, s3⟩; go_simp; first | done | with_reducible rfl
        rotate_left
        · simp only [Act.put, List.setIfInBounds_toArray, List.set_cons_zero, List.set_cons_succ, i64_w, i32_w]; rfl
        refine pure_ (i := 5) (N := (some 16)) (v := (.bool false)) (a' := ?_) #[true, true, true, true, true, true] rfl rfl (by kernel_rfl) (fun _ _ _ h => h) (Or.inl ⟨by rfl, ?_⟩) ?_ ?_
        · intro w'; go_simp; first | done | with_reducible rfl
        rotate_left
        · simp only [Act.put, List.setIfInBounds_toArray, List.set_cons_zero, List.set_cons_succ, i64_w, i32_w]; rfl
        refine done_ (by kernel_rfl) ?_
        have HB2 := Lib.hid HB.out.drew
        clear hHeld c0 c1 t0 t1 he hm122
        go_wp2_with fail
        refine ⟨⟨k + 1, by omega, by go_num, Lib.hid (fun j hj => ?_), HB2⟩, by simp [intOf]; omega⟩
        by_cases e : j = k
        · rw [e, HX.out]
          intro z
          injection z with z
          rw [z] at HQ
          have := HQ.out
          unfold sameI at this
          simp at this
        · exact HK.out j (by omega)
    · obtain rfl : k = n := by omega
      have hrf : r = false := by
        rw [Bool.eq_false_iff]
        intro z
        obtain ⟨j, hj⟩ := List.getElem?_of_mem (HR.out.1 z)
        have h1 := (List.getElem?_eq_some_iff.1 hj).1
        exact HK.out j (by have := HA.out.1; omega) hj
      have HRF := Lib.hid hrf
      clear hrf
      go_wp2
      go_ret
      exact ⟨⟨-1, rfl, by rw [HRF.out]; rfl⟩, HBW.out⟩
set_option maxHeartbeats 1000000 in
set_option maxRecDepth 100000 in
theorem containsI_calls (A : Option Addr) (n c : Nat) (l : List It) (x : It) (w : World) (hA : Ir w A n c l) (hn : n ≤ 1000) (r : Bool) (hr : r = true ↔ x ∈ l) :
    Calls Tryd.prog 128 #[.slice A n c, .agg #[.int .i64 (x.1 : Nat), .int .i64 (x.2 : Nat)]] w fun e w' => e = .returned (.bool r) ∧ Below w.heap.size w w' := by
  have HA := Lib.hid hA
  have HR := Lib.hid hr
  clear hA hr
  obtain ⟨p, q⟩ := x
  simp only
  go_enter Tryd.func128, Tryd.ntmps128
  go_wp2_with fail
  have hb1 := below_one (w := w) (.cells #[.int .i64 (p : Nat), .int .i64 (q : Nat)] 122)
  refine (indexI_calls A n c l (p, q) _ (HA.out.later hb1) hn r HR.out).mono ?_
  rintro e w1 ⟨⟨i, rfl, hi⟩, hb2⟩
  have HB := Lib.hid (hb1.trans (hb2.mono hb1.size))
  have HI := Lib.hid hi
  clear hb1 hb2 hi
  go_wp2
  go_ret
  exact ⟨ret_bool HI.out, HB.out⟩
set_option maxHeartbeats 8000000 in
set_option maxRecDepth 100000 in
theorem eqI_calls {A1 A2 : Option Addr} {n1 n2 c1 c2 : Nat} {l m : List It} {w : World} (h1 : Ir w A1 n1 c1 l) (h2 : Ir w A2 n2 c2 m) (hn : n1 ≤ 1000 ∧ n2 ≤ 1000) (r : Bool) (hr : r = true ↔ l = m) :
    Calls Tryd.prog 114 #[.slice A1 n1 c1, .slice A2 n2 c2] w fun e w' => e = .returned (.bool r) ∧ Below w.heap.size w w' := by
  have H1 := Lib.hid h1
  have H2 := Lib.hid h2
  have HR := Lib.hid hr
  obtain ⟨hn1, hn2⟩ := hn
  clear h1 h2 hr
  by_cases hl : n1 = n2
  · subst hl
    go_enter Tryd.func114, Tryd.ntmps114
    go_wp2_with fail
    have HB := Lib.hid (Below.refl w.heap.size w)
    go_loopw [13] (fun i wr => ∃ x : Nat, x ≤ n1 ∧ i = .int .i64 x ∧ Hid (∀ j, j < x → l[j]? = m[j]?) ∧ Hid (Below w.heap.size w wr)) (fun i _ => n1 - (intOf i).toNat)
    case atStart => exact ⟨0, by omega, rfl, Lib.hid (fun j hj => by omega), HB⟩
    case round =>
      clear HB
      obtain ⟨x, hx, rfl, HK, HB⟩ := hrel
      by_cases hxl : x < n1
      · have hxI : (x : Int) < (n1 : Int) := by omega
        obtain ⟨b1, o1, e1, hm1, hP1⟩ := H1.out.open (by omega)
        obtain ⟨b2, o2, e2, hm2, hP2⟩ := H2.out.open (by omega)
        subst e1 e2
        obtain ⟨⟨p, q⟩, hx1⟩ : ∃ y, l[x]? = some y := ⟨_, List.getElem?_eq_getElem (by have := H1.out.1; omega)⟩
        obtain ⟨⟨p2, q2⟩, hx2⟩ : ∃ y, m[x]? = some y := ⟨_, List.getElem?_eq_getElem (by have := H2.out.1; omega)⟩
        have f0 := (hP1.later HB.out).c0 x _ hx1
        have f1 := (hP1.later HB.out).c1 x _ hx1
        have g0 := (hP2.later HB.out).c0 x _ hx2
        have g1 := (hP2.later HB.out).c1 x _ hx2
        simp only at f0 f1 g0 g1
        have hxc1 : x < c1 := by omega
        have hxc2 : x < c2 := by omega
        have hm122 : Tryd.prog.eqGuardType Tryd.prog.depth 122 = false := by kernel_rfl
        have he := fun w => item_eq p q p2 q2 w
        have HX1 := Lib.hid hx1
        have HX2 := Lib.hid hx2
        clear hx1 hx2 hP1 hP2
        cases hq : sameI (p, q) (p2, q2) with
        | true =>
          rw [hq] at he
          have HQ : Hid ((p, q) = (p2, q2)) := Lib.hid (of_decide_eq_true hq)
          clear hq
          go_wp2_with fail
          go_quiet (fail)
          have hbq := pw_below_drewN (Below.refl wr.heap.size wr) nq
          have HB3 := Lib.hid (HB.out.trans (hbq.mono HB.out.size))
          clear hbq f0 f1 g0 g1
          generalize wr.drewN nq = w3 at HB3 ⊢
          go_wp2_with fail
          refine ⟨⟨x + 1, by omega, by go_num, Lib.hid (fun j hj => ?_), HB3⟩, by simp [intOf]; omega⟩
          by_cases e : j = x
          · rw [e, HX1.out, HX2.out, HQ.out]
          · exact HK.out j (by omega)
        | false =>
          rw [hq] at he
          have hrf : r = false := by
            rw [Bool.eq_false_iff]
            intro z
            have := HR.out.1 z
            have h3 := HX1.out
            rw [this, HX2.out] at h3
            injection h3 with h3
            rw [← h3] at hq
            unfold sameI at hq
            simp at hq
          subst hrf
          clear hq
          go_wp2_with fail
          go_quiet (fail)
          have hbq := pw_below_drewN (Below.refl wr.heap.size wr) nq
          have HB3 := Lib.hid (HB.out.trans (hbq.mono HB.out.size))
          clear hbq f0 f1 g0 g1
          generalize wr.drewN nq = w3 at HB3 ⊢
          go_wp2
          go_ret
          exact ⟨rfl, HB3.out⟩
      · obtain rfl : x = n1 := by omega
        have hrt : r = true := HR.out.2 (by
          apply List.ext_getElem?
          intro j
          by_cases hj : j < x
          · exact HK.out j hj
          · have a := H1.out.1
            have b := H2.out.1
            rw [List.getElem?_eq_none (by omega), List.getElem?_eq_none (by omega)])
        subst hrt
        go_wp2
        go_ret
        exact ⟨rfl, HB.out⟩
  · have hrf : r = false := by
      rw [Bool.eq_false_iff]
      intro z
      have := HR.out.1 z
      have a := H1.out.1
      have b := H2.out.1
      rw [this] at a
      omega
    subst hrf
    have hlI : ¬ (n1 : Int) = (n2 : Int) := by omega
    go_enter Tryd.func114, Tryd.ntmps114
    go_wp2
    go_ret
    exact ⟨rfl, Below.refl _ _⟩
end Go.Proofs.YtjpfalanoifpbaaDoor.X
end

section
set_option linter.unusedVariables false
set_option linter.unusedSimpArgs false
namespace Go.Proofs.YtjpfalanoifpbaaDoor.X
open Go.RowKit Go.Proofs.YtjpfalanoifpbaaDoorW.PrintWords Go.Proofs.YtjpfalanoifpbaaDoorW.PrintLast Go.Proofs.YtjpfalanoifpbaaDoorW.PrintMore Go.Proofs.YtjpfalanoifpbaaDoor.T
def cm (a b : Nat) : Int := if a < b then -1 else if b < a then 1 else 0
set_option maxHeartbeats 1000000 in
set_option maxRecDepth 100000 in
theorem isNaN_calls (a : Nat) (w : World) : Calls Tryd.prog 141 #[.int .i64 (a : Nat)] w fun e w' => e = .returned (.bool false) ∧ w' = w := by
  go_enter Tryd.func141, Tryd.ntmps141
  go_wp2
  go_ret
  exact ⟨by simp, rfl⟩
set_option maxHeartbeats 2000000 in
set_option maxRecDepth 100000 in
theorem compareN_calls (a b : Nat) (w : World) : Calls Tryd.prog 132 #[.int .i64 (a : Nat), .int .i64 (b : Nat)] w fun e w' => e = .returned (.int .i64 (cm a b)) ∧ w' = w := by
  obtain ⟨X, hX⟩ : ∃ X, cm a b = X := ⟨_, rfl⟩
  rw [hX]
  unfold cm at hX
  go_enter Tryd.func132, Tryd.ntmps132
  go_wp2_with fail
  refine (isNaN_calls a w).mono ?_
  rintro e w1 ⟨rfl, rfl⟩
  go_wp2_with fail
  refine (isNaN_calls b w1).mono ?_
  rintro e w2 ⟨rfl, rfl⟩
  by_cases h1 : a < b
  · have hI : (a : Int) < (b : Int) := by omega
    go_wp2
    go_ret
    exact ⟨by rw [← hX, if_pos h1]; rfl, rfl⟩
  · have hI : ¬ (a : Int) < (b : Int) := by omega
    by_cases h2 : b < a
    · have hI2 : (b : Int) < (a : Int) := by omega
      go_wp2
      go_ret
      exact ⟨by rw [← hX, if_neg h1, if_pos h2]; rfl, rfl⟩
    · have hI2 : ¬ (b : Int) < (a : Int) := by omega
      go_wp2
      go_ret
      exact ⟨by rw [← hX, if_neg h1, if_neg h2]; rfl, rfl⟩
set_option maxHeartbeats 2000000 in
set_option maxRecDepth 100000 in
theorem or2_calls (a b X : Int) (hX : (if a = 0 then b else a) = X) (G : Nat) (w : World) (h0 : w.cell? ⟨G, 0, none⟩ = some (.int .i64 a)) (h1 : w.cell? ⟨G, 1, none⟩ = some (.int .i64 b)) : Calls Tryd.prog 131 #[.slice (some ⟨G, 0, none⟩) 2 2] w fun e w' => e = .returned (.int .i64 X) ∧ w' = w := by
  have H0 := Lib.hid h0
  have H1 := Lib.hid h1
  clear h0 h1
  go_enter Tryd.func131, Tryd.ntmps131
  go_wp2_with fail
  go_loopw [8] (fun i wr => ∃ k : Nat, k ≤ 2 ∧ i = .int .i64 k ∧ (0 < k → a = 0) ∧ (1 < k → b = 0) ∧ wr = w) (fun i _ => 2 - (intOf i).toNat)
  case atStart => exact ⟨0, by omega, rfl, by omega, by omega, rfl⟩
  case round =>
    obtain ⟨k, hk, rfl, hz, hz2, rfl⟩ := hrel
    have hk3 : k = 0 ∨ k = 1 ∨ k = 2 := by omega
    rcases hk3 with rfl | rfl | rfl
    · have c0 := H0.out
      by_cases ha : a = 0
      · subst ha
        go_wp2_with fail
        refine ⟨⟨1, by omega, by go_num, by simp, by omega, by first | rfl | trivial⟩, by simp [intOf]⟩
      · have hab : (a == 0) = false := by simp [ha]
        rw [if_neg ha] at hX
        subst hX
        go_wp2
        go_ret
        exact ⟨rfl, rfl⟩
    · have c0 := H1.out
      have ha := hz (by omega)
      subst ha
      by_cases hb : b = 0
      · subst hb
        go_wp2_with fail
        refine ⟨⟨2, by omega, by go_num, by simp, by simp, by first | rfl | trivial⟩, by simp [intOf]⟩
      · have hbb : (b == 0) = false := by simp [hb]
        have hX2 : b = X := by simpa using hX
        go_wp2
        go_ret
        exact ⟨by rw [← hX2]; rfl, rfl⟩
    · have ha := hz (by omega)
      have hb := hz2 (by omega)
      subst ha hb
      rw [if_pos rfl] at hX
      subst hX
      go_wp2
      go_ret
      exact ⟨rfl, rfl⟩
def cmpI (x y : It) : Int := if cm x.1 y.1 = 0 then cm x.2 y.2 else cm x.1 y.1
set_option maxHeartbeats 4000000 in
set_option maxRecDepth 100000 in
theorem cmpI_grown (x y : It) (w : World) : Calls Tryd.prog 130 #[.agg #[.int .i64 (x.1 : Nat), .int .i64 (x.2 : Nat)], .agg #[.int .i64 (y.1 : Nat), .int .i64 (y.2 : Nat)]] w fun e w' => e = .returned (.int .i64 (cmpI x y)) ∧ ∃ q os', w' = Go.Sort.grow (w.drewN q) os' := by
  obtain ⟨a, b⟩ := x
  obtain ⟨c, d⟩ := y
  simp only
  obtain ⟨X, hX⟩ : ∃ X, cmpI (a, b) (c, d) = X := ⟨_, rfl⟩
  rw [hX]
  have HX : Hid ((if cm a c = 0 then cm b d else cm a c) = X) := Lib.hid hX
  clear hX
  go_enter Tryd.func130, Tryd.ntmps130
  go_wp2_with fail
  have h0 : ((w.alloc (.cells #[.int .i64 (a : Nat), .int .i64 (b : Nat)] 122)).alloc (.cells #[.int .i64 (c : Nat), .int .i64 (d : Nat)] 122)).cell? ⟨w.heap.size, 0, none⟩ = some (.int .i64 (a : Nat)) := by simp
  have h1 : ((w.alloc (.cells #[.int .i64 (a : Nat), .int .i64 (b : Nat)] 122)).alloc (.cells #[.int .i64 (c : Nat), .int .i64 (d : Nat)] 122)).cell? ⟨w.heap.size, 1, none⟩ = some (.int .i64 (b : Nat)) := by simp
  have h2 : ((w.alloc (.cells #[.int .i64 (a : Nat), .int .i64 (b : Nat)] 122)).alloc (.cells #[.int .i64 (c : Nat), .int .i64 (d : Nat)] 122)).cell? ⟨w.heap.size + 1, 0, none⟩ = some (.int .i64 (c : Nat)) := by simp
  have h3 : ((w.alloc (.cells #[.int .i64 (a : Nat), .int .i64 (b : Nat)] 122)).alloc (.cells #[.int .i64 (c : Nat), .int .i64 (d : Nat)] 122)).cell? ⟨w.heap.size + 1, 1, none⟩ = some (.int .i64 (d : Nat)) := by simp
  obtain ⟨w1, hw1⟩ : ∃ w1, w1 = (w.alloc (.cells #[.int .i64 (a : Nat), .int .i64 (b : Nat)] 122)).alloc (.cells #[.int .i64 (c : Nat), .int .i64 (d : Nat)] 122) := ⟨_, rfl⟩
  rw [← hw1] at h0 h1 h2 h3 ⊢
  have HW := Lib.hid hw1
  clear hw1
  refine start_ (n := 13) (S := fun w' => w'.cell? ⟨w.heap.size, 0, none⟩ = some (.int .i64 (a : Nat)) ∧ w'.cell? ⟨w.heap.size, 1, none⟩ = some (.int .i64 (b : Nat)) ∧ w'.cell? ⟨w.heap.size + 1, 0, none⟩ = some (.int .i64 (c : Nat)) ∧ w'.cell? ⟨w.heap.size + 1, 1, none⟩ = some (.int .i64 (d : Nat))) (ds := [10,11]) #[false, false, false, false, false, false, false, false, false, false, false, false, false] (by kernel_rfl) rfl rfl ⟨by simpa using h0, by simpa using h1, by simpa using h2, by simpa using h3⟩ (fun hHeld => ?_)
  refine pure_ (i := 0) (N := (some 5)) (v := ?_) (a' := ?_) #[true, false, false, false, false, false, false, false, false, false, false, false, false] rfl rfl (by kernel_rfl) (fun _ _ _ h => h) (Or.inl ⟨by rfl, ?_⟩) ?_ ?_
  rotate_left
  · intro w'; go_simp; first | done | with_reducible rfl
  rotate_left
  · simp only [Act.put, List.setIfInBounds_toArray, List.set_cons_zero, List.set_cons_succ, i64_w, i32_w]; rfl
  refine take_ (i := 1) (N := (some 6)) (v := ?_) (a' := ?_) #[true, true, false, false, false, false, false, false, false, false, false, false, false] rfl rfl (by kernel_rfl) (fun _ _ _ h => h) (Or.inl ⟨by rfl, ?_⟩) hHeld ?_ ?_
  rotate_left
  · rintro w' ⟨s0, s1, s2, s3⟩; go_simp; first | done | with_reducible rfl
  rotate_left
  · simp only [Act.put, List.setIfInBounds_toArray, List.set_cons_zero, List.set_cons_succ, i64_w, i32_w]; rfl
  refine pure_ (i := 2) (N := (some 7)) (v := ?_) (a' := ?_) #[true, true, true, false, false, false, false, false, false, false, false, false, false] rfl rfl (by kernel_rfl) (fun _ _ _ h => h) (Or.inl ⟨by rfl, ?_⟩) ?_ ?_
  rotate_left
  · intro w'; go_simp; first | done | with_reducible rfl
  rotate_left
  · simp only [Act.put, List.setIfInBounds_toArray, List.set_cons_zero, List.set_cons_succ, i64_w, i32_w]; rfl
  refine take_ (i := 3) (N := (some 8)) (v := ?_) (a' := ?_) #[true, true, true, true, false, false, false, false, false, false, false, false, false] rfl rfl (by kernel_rfl) (fun _ _ _ h => h) (Or.inl ⟨by rfl, ?_⟩) hHeld ?_ ?_
  rotate_left
  · rintro w' ⟨s0, s1, s2, s3⟩; go_simp; first | done | with_reducible rfl
  rotate_left
  · simp only [Act.put, List.setIfInBounds_toArray, List.set_cons_zero, List.set_cons_succ, i64_w, i32_w]; rfl
  refine pure_ (i := 5) (N := (some 10)) (v := ?_) (a' := ?_) #[true, true, true, true, false, true, false, false, false, false, false, false, false] rfl rfl (by kernel_rfl) (fun _ _ _ h => h) (Or.inl ⟨by rfl, ?_⟩) ?_ ?_
  rotate_left
  · intro w'; go_simp; first | done | with_reducible rfl
  rotate_left
  · simp only [Act.put, List.setIfInBounds_toArray, List.set_cons_zero, List.set_cons_succ, i64_w, i32_w]; rfl
  refine take_ (i := 6) (N := (some 11)) (v := ?_) (a' := ?_) #[true, true, true, true, false, true, true, false, false, false, false, false, false] rfl rfl (by kernel_rfl) (fun _ _ _ h => h) (Or.inl ⟨by rfl, ?_⟩) hHeld ?_ ?_
  rotate_left
  · rintro w' ⟨s0, s1, s2, s3⟩; go_simp; first | done | with_reducible rfl
  rotate_left
  · simp only [Act.put, List.setIfInBounds_toArray, List.set_cons_zero, List.set_cons_succ, i64_w, i32_w]; rfl
  refine pure_ (i := 7) (N := (some 12)) (v := ?_) (a' := ?_) #[true, true, true, true, false, true, true, true, false, false, false, false, false] rfl rfl (by kernel_rfl) (fun _ _ _ h => h) (Or.inl ⟨by rfl, ?_⟩) ?_ ?_
  rotate_left
  · intro w'; go_simp; first | done | with_reducible rfl
  rotate_left
  · simp only [Act.put, List.setIfInBounds_toArray, List.set_cons_zero, List.set_cons_succ, i64_w, i32_w]; rfl
  refine take_ (i := 8) (N := (some 13)) (v := ?_) (a' := ?_) #[true, true, true, true, false, true, true, true, true, false, false, false, false] rfl rfl (by kernel_rfl) (fun _ _ _ h => h) (Or.inl ⟨by rfl, ?_⟩) hHeld ?_ ?_
  rotate_left
  · rintro w' ⟨s0, s1, s2, s3⟩; go_simp; first | done | with_reducible rfl
  rotate_left
  · simp only [Act.put, List.setIfInBounds_toArray, List.set_cons_zero, List.set_cons_succ, i64_w, i32_w]; rfl
  refine one_ (i := 4) (N := (some 9)) #[true, true, true, true, true, true, true, true, true, false, false, false, false] rfl rfl (by kernel_rfl) (by decide) (fun K hK => ?_)
  refine goes_ Tryd.func132 (by kernel_rfl) rfl #[.int .i64 (a : Nat), .int .i64 (c : Nat)] (by rfl) rfl rfl (by (try simp only [List.map_toArray, List.map_cons, List.map_nil]); first | done | rfl) ?_
  refine (compareN_calls a c _).mono ?_
  rintro e w2 ⟨rfl, rfl⟩
  refine ⟨_, rfl, ?_⟩
  refine hK.out _ _ hHeld (fun hHeld => ?_)
  clear hK K
  refine norm_ (a' := ?_) ?_ ?_
  rotate_left
  · show Act.put _ (some 9) _ = _; simp only [Act.put, List.setIfInBounds_toArray, List.set_cons_zero, List.set_cons_succ, i64_w, i32_w]; rfl
  refine one_ (i := 9) (N := (some 14)) #[true, true, true, true, true, true, true, true, true, true, false, false, false] rfl rfl (by kernel_rfl) (by decide) (fun K hK => ?_)
  refine goes_ Tryd.func132 (by kernel_rfl) rfl #[.int .i64 (b : Nat), .int .i64 (d : Nat)] (by rfl) rfl rfl (by (try simp only [List.map_toArray, List.map_cons, List.map_nil]); first | done | rfl) ?_
  refine (compareN_calls b d _).mono ?_
  rintro e w3 ⟨rfl, rfl⟩
  refine ⟨_, rfl, ?_⟩
  refine hK.out _ _ hHeld (fun hHeld => ?_)
  clear hK K
  refine norm_ (a' := ?_) ?_ ?_
  rotate_left
  · show Act.put _ (some 14) _ = _; simp only [Act.put, List.setIfInBounds_toArray, List.set_cons_zero, List.set_cons_succ, i64_w, i32_w]; rfl
  refine last_ (i := 10) (N := (some 15)) #[true, true, true, true, true, true, true, true, true, true, true, false, false] rfl rfl (by kernel_rfl) (by decide) (fun K hK => ?_)
  refine value_step (v := .slice (some ⟨w1.heap.size, 0, none⟩) 2 2) (w1 := w1.drew.alloc (.cells #[.int .i64 (cm a c), .int .i64 (cm b d)] 3)) (by rfl) rfl (by go_simp) ?_
  refine hK.out _ _ ?_
  clear hK K
  refine norm_ (a' := ?_) ?_ ?_
  rotate_left
  · show Act.put _ (some 15) _ = _; simp only [Act.put, List.setIfInBounds_toArray, List.set_cons_zero, List.set_cons_succ, i64_w, i32_w]; rfl
  refine last_ (i := 11) (N := (some 16)) #[true, true, true, true, true, true, true, true, true, true, true, true, false] rfl rfl (by kernel_rfl) (by decide) (fun K hK => ?_)
  refine goes_ Tryd.func131 (by kernel_rfl) rfl #[.slice (some ⟨w1.heap.size, 0, none⟩) 2 2] (by rfl) rfl rfl (by (try simp only [List.map_toArray, List.map_cons, List.map_nil]); first | done | rfl) ?_
  refine (or2_calls (cm a c) (cm b d) X HX.out w1.heap.size _ (by have := (it_new w1.drew 3 (cm a c) (cm b d)).1; simpa using this) (by have := (it_new w1.drew 3 (cm a c) (cm b d)).2; simpa using this)).mono ?_
  rintro e w4 ⟨rfl, rfl⟩
  refine ⟨_, rfl, ?_⟩
  refine hK.out _ _ ?_
  clear hK K
  refine norm_ (a' := ?_) ?_ ?_
  rotate_left
  · show Act.put _ (some 16) _ = _; simp only [Act.put, List.setIfInBounds_toArray, List.set_cons_zero, List.set_cons_succ, i64_w, i32_w]; rfl
  refine pure_ (i := 12) (N := (some 4)) (v := ?_) (a' := ?_) #[true, true, true, true, true, true, true, true, true, true, true, true, true] rfl rfl (by kernel_rfl) (fun _ _ _ h => h) (Or.inl ⟨by rfl, ?_⟩) ?_ ?_
  rotate_left
  · intro w'; go_simp; first | done | with_reducible rfl
  rotate_left
  · simp only [Act.put, List.setIfInBounds_toArray, List.set_cons_zero, List.set_cons_succ, i64_w, i32_w]; rfl
  refine done_ (by kernel_rfl) ?_
  go_wp2
  go_ret
  refine ⟨rfl, 1, #[.cells #[.int .i64 (a : Nat), .int .i64 (b : Nat)] 122, .cells #[.int .i64 (c : Nat), .int .i64 (d : Nat)] 122, .cells #[.int .i64 (cm a c), .int .i64 (cm b d)] 3], ?_⟩
  rw [HW.out]
  unfold Go.Sort.grow World.drewN World.drew World.alloc
  simp only [World.mk.injEq, Nat.add_assoc, and_true, true_and]
  apply Array.ext'
  simp
theorem cmpI_lays (blk off size : Nat) (w : World) : CmpLays Tryd.prog 130 #[] itV 2 cmpI blk off size w :=
  fun _ _ _ _ x y => cmpI_grown x y _
theorem cm_lt {a b : Nat} : cm a b < 0 ↔ a < b := by
  unfold cm
  split
  · simp; assumption
  · split <;> simp <;> omega
theorem cm_zero {a b : Nat} : cm a b = 0 ↔ a = b := by
  unfold cm
  split
  · simp; omega
  · split <;> simp <;> omega
theorem cmpI_lt (x y : It) : cmpI x y < 0 ↔ (x.1 < y.1 ∨ (x.1 = y.1 ∧ x.2 < y.2)) := by
  unfold cmpI
  by_cases h : cm x.1 y.1 = 0
  · rw [if_pos h, cm_lt]
    rw [cm_zero] at h
    omega
  · rw [if_neg h, cm_lt]
    rw [cm_zero] at h
    omega
theorem lt_cmpI (p q : It) : ltOf cmpI p q = ltI p q := by
  unfold ltOf ltI
  have := cmpI_lt p q
  by_cases h : p.1 < q.1 ∨ (p.1 = q.1 ∧ p.2 < q.2)
  · rw [decide_eq_true h, decide_eq_true (this.2 h)]
  · rw [decide_eq_false h, decide_eq_false (fun c => h (this.1 c))]
theorem swoI : Go.Sort.SWO (ltOf cmpI) where
  irrefl x := by rw [lt_cmpI]; unfold ltI; simp
  trans x y z h1 h2 := by rw [lt_cmpI] at *; unfold ltI at *; simp only [decide_eq_true_eq] at *; omega
  ntrans x y z h1 h2 := by rw [lt_cmpI] at *; unfold ltI at *; simp only [decide_eq_false_iff_not] at *; omega
def sortI_ren : Go.Shelf.Ren := ⟨fun | 6 => 129 | 15 => 140 | 14 => 139 | 28 => 154 | 29 => 155 | 20 => 146 | 21 => 147 | 22 => 148 | 23 => 149 | 24 => 150 | 25 => 151 | 26 => 152 | 27 => 153 | 46 => 160 | 47 => 161 | 48 => 162 | 49 => 163 | 50 => 164 | 57 => 166 | n => n, fun | 22 => 121 | 24 => 122 | 25 => 173 | 3 => 3 | 39 => 84 | 0 => 0 | 53 => 189 | 55 => 191 | 4 => 4 | 46 => 183 | 45 => 182 | 50 => 92 | 5 => 5 | 9 => 9 | 66 => 199 | 70 => 203 | 76 => 205 | 77 => 206 | n => n, fun | n => n⟩
theorem sortI : Go.Proofs.SlLaysF0.n6 Tryd.prog sortI_ren := {
  mixed := by kernel_rfl
  f6 := ⟨Tryd.f129.name, by decide, Tryd.func129.trans (congrArg some (by kernel_rfl))⟩
  f14 := ⟨Tryd.f139.name, by decide, Tryd.func139.trans (congrArg some (by kernel_rfl))⟩
  f15 := Tryd.func140.trans (congrArg some (by kernel_rfl))
  f20 := ⟨Tryd.f146.name, by decide, Tryd.func146.trans (congrArg some (by kernel_rfl))⟩
  f21 := ⟨Tryd.f147.name, by decide, Tryd.func147.trans (congrArg some (by kernel_rfl))⟩
  f22 := ⟨Tryd.f148.name, by decide, Tryd.func148.trans (congrArg some (by kernel_rfl))⟩
  f23 := ⟨Tryd.f149.name, by decide, Tryd.func149.trans (congrArg some (by kernel_rfl))⟩
  f24 := ⟨Tryd.f150.name, by decide, Tryd.func150.trans (congrArg some (by kernel_rfl))⟩
  f25 := ⟨Tryd.f151.name, by decide, Tryd.func151.trans (congrArg some (by kernel_rfl))⟩
  f26 := ⟨Tryd.f152.name, by decide, Tryd.func152.trans (congrArg some (by kernel_rfl))⟩
  f27 := ⟨Tryd.f153.name, by decide, Tryd.func153.trans (congrArg some (by kernel_rfl))⟩
  f28 := Tryd.func154.trans (congrArg some (by kernel_rfl))
  f29 := Tryd.func155.trans (congrArg some (by kernel_rfl))
  f46 := ⟨Tryd.f160.name, by decide, Tryd.func160.trans (congrArg some (by kernel_rfl))⟩
  f47 := Tryd.func161.trans (congrArg some (by kernel_rfl))
  f48 := Tryd.func162.trans (congrArg some (by kernel_rfl))
  f49 := ⟨Tryd.f163.name, by decide, Tryd.func163.trans (congrArg some (by kernel_rfl))⟩
  f50 := ⟨Tryd.f164.name, by decide, Tryd.func164.trans (congrArg some (by kernel_rfl))⟩
  f57 := ⟨Tryd.f166.name, by decide, Tryd.func166.trans (congrArg some (by kernel_rfl))⟩
  t0 := Tryd.underlying0
  a0 := Tryd.isAgg0
  z0 := Tryd.sizeOf0
  v0 := Tryd.zeroValue0
  t3 := Tryd.underlying3
  a3 := Tryd.isAgg3
  z3 := Tryd.sizeOf3
  v3 := Tryd.zeroValue3
  t4 := Tryd.underlying4
  a4 := Tryd.isAgg4
  z4 := Tryd.sizeOf4
  v4 := Tryd.zeroValue4
  t5 := Tryd.underlying5
  a5 := Tryd.isAgg5
  z5 := Tryd.sizeOf5
  v5 := Tryd.zeroValue5
  t9 := Tryd.underlying9
  a9 := Tryd.isAgg9
  z9 := Tryd.sizeOf9
  v9 := Tryd.zeroValue9
  t22 := Tryd.underlying121
  a22 := Tryd.isAgg121
  z22 := Tryd.sizeOf121
  v22 := Tryd.zeroValue121
  t25 := Tryd.underlying173
  a25 := Tryd.isAgg173
  z25 := Tryd.sizeOf173
  v25 := Tryd.zeroValue173
  t39 := Tryd.underlying84
  a39 := Tryd.isAgg84
  z39 := Tryd.sizeOf84
  v39 := Tryd.zeroValue84
  t45 := Tryd.underlying182
  a45 := Tryd.isAgg182
  z45 := Tryd.sizeOf182
  v45 := Tryd.zeroValue182
  t46 := Tryd.underlying183
  a46 := Tryd.isAgg183
  z46 := Tryd.sizeOf183
  v46 := Tryd.zeroValue183
  t50 := Tryd.underlying92
  a50 := Tryd.isAgg92
  z50 := Tryd.sizeOf92
  v50 := Tryd.zeroValue92
  t53 := Tryd.underlying189
  a53 := Tryd.isAgg189
  z53 := Tryd.sizeOf189
  v53 := Tryd.zeroValue189
  t55 := Tryd.underlying191
  a55 := Tryd.isAgg191
  z55 := Tryd.sizeOf191
  v55 := Tryd.zeroValue191
  t66 := Tryd.underlying199
  a66 := Tryd.isAgg199
  z66 := Tryd.sizeOf199
  v66 := Tryd.zeroValue199
  t70 := Tryd.underlying203
  a70 := Tryd.isAgg203
  z70 := Tryd.sizeOf203
  v70 := Tryd.zeroValue203
  t76 := Tryd.underlying205
  a76 := Tryd.isAgg205
  z76 := Tryd.sizeOf205
  v76 := Tryd.zeroValue205
  t77 := Tryd.underlying206
  a77 := Tryd.isAgg206
  z77 := Tryd.sizeOf206
  v77 := Tryd.zeroValue206 }
def flatI : List It → List Value
  | [] => []
  | p :: l => itV p ++ flatI l
theorem flatI_len : ∀ l : List It, (flatI l).length = l.length * 2
  | [] => rfl
  | p :: l => by
    rw [flatI, List.length_append, flatI_len l]
    simp [itV]
    omega
theorem flatI_get : ∀ (l : List It) (t : Nat), t < l.length * 2 → (flatI l)[t]? = some (itV (l.getD (t / 2) (0, 0)))[t % 2]!
  | [], t, h => by simp at h
  | p :: l, 0, h => rfl
  | p :: l, 1, h => rfl
  | p :: l, t + 2, h => by
    have ih := flatI_get l t (by simp at h; omega)
    show (itV p ++ flatI l)[t + 2]? = _
    rw [List.getElem?_append_right (by simp [itV])]
    show (flatI l)[t + 2 - 2]? = _
    rw [Nat.add_sub_cancel, ih, show (t + 2) / 2 = t / 2 + 1 by omega, show (t + 2) % 2 = t % 2 by omega]
    rfl
theorem flatK_I (d : Array It) : (Go.Sort.flatK itV 2 d).toList = flatI d.toList := by
  apply List.ext_getElem?
  intro t
  by_cases h : t < d.size * 2
  · have h1 : t < (Go.Sort.flatK itV 2 d).size := by rw [Go.Sort.size_flatK]; exact h
    rw [flatI_get d.toList t (by simpa using h)]
    have := Go.Sort.get_flatK itV 2 d t h
    rw [getElem!_pos _ t h1] at this
    rw [Array.getElem?_toList, Array.getElem?_eq_getElem h1, this]
    have h2 : t / 2 < d.size := by omega
    rw [getElem!_pos d (t / 2) h2]
    simp [h2]
  · rw [List.getElem?_eq_none (by simp; omega), List.getElem?_eq_none (by rw [flatI_len]; simp; omega)]
theorem own_blockI {C e sz n : Nat} {w : World} {v : Value} {xs : List Value} (h : w.ownsRow C e sz v n xs) (h0 : 0 < n) :
    ∃ g cap cur, v = .slice (some ⟨g, 0, none⟩) n cap ∧ C ≤ g ∧ w.heap[g]? = some (.cells cur e (0, 0)) ∧ n ≤ cap ∧ cap ≤ maxLen ∧ cur.size = cap * sz ∧ cur.toList.take (n * sz) = xs := by
  obtain ⟨_, ⟨_, q⟩ | h⟩ := h
  · omega
  · exact h
theorem flatI_of : ∀ {l : List It} {cs : List Value}, cs.length = l.length * 2 → (∀ j p, l[j]? = some p → (cs.drop (j * 2)).take 2 = itV p) → cs = flatI l
  | [], cs, h1, h2 => List.eq_nil_of_length_eq_zero (by simpa using h1)
  | x :: l, cs, h1, h2 => by
    have a := h2 0 x rfl
    rw [Nat.zero_mul, List.drop_zero] at a
    have b := flatI_of (l := l) (cs := cs.drop 2) (by rw [List.length_drop, h1]; simp; omega) (fun j p hj => by
      have := h2 (j + 1) p (by simpa using hj)
      rw [List.drop_drop, show 2 + j * 2 = (j + 1) * 2 by omega]
      exact this)
    rw [flatI, ← b, ← a]
    exact (List.take_append_drop 2 cs).symm
theorem flatI_at : ∀ {l : List It} {j : Nat} {p : It}, l[j]? = some p → ((flatI l).drop (j * 2)).take 2 = itV p
  | [], j, p, h => by simp at h
  | x :: l, 0, p, h => by
    have : x = p := by simpa using h
    subst this
    rfl
  | x :: l, j + 1, p, h => by
    have ih := flatI_at (l := l) (j := j) (p := p) (by simpa using h)
    rw [flatI, show (j + 1) * 2 = 2 + j * 2 by omega, ← List.drop_drop, show (itV x ++ flatI l).drop 2 = flatI l from rfl]
    exact ih
theorem ki_m {w : World} {B : Nat} {ok : Nat → Prop} {x : It} {c : List Value} : KI.M w B ok x c ↔ c = itV x := by
  constructor
  · rintro ⟨c0, c1, rfl, e0, e1⟩
    rw [show c0 = [.int .i64 (x.1 : Nat)] from e0, show c1 = [.int .i64 (x.2 : Nat)] from e1]
    rfl
  · rintro rfl
    exact ki_rep x
theorem ri_flat {ty B : Nat} {w : World} {ok : Nat → Prop} {v : Value} {l : List It} (h : Kd.R KI ty w B ok v l) : w.ownsRow B ty 2 v l.length (flatI l) := by
  obtain ⟨h0, inner, ho, hr⟩ := h
  have e : inner = flatI l := flatI_of hr.1 fun j p hj => ki_m.1 (hr.2 j p hj)
  rw [← e]
  exact ho
theorem ri_of_flat {ty B : Nat} {w : World} {v : Value} {l : List It} (h : w.ownsRow B ty 2 v l.length (flatI l)) : Kd.R KI ty w B (fun _ => True) v l :=
  ⟨fun _ _ => trivial, flatI l, h, ⟨flatI_len l, fun j p hj => ki_m.2 (flatI_at hj)⟩⟩
abbrev RI (B : Nat) (w : World) (v : Value) (l : List It) : Prop := Kd.R KI 122 w B (fun _ => True) v l
theorem sort_its {B : Nat} {w : World} {v : Value} {l : List It} (h : RI B w v l) (h0 : 0 < l.length) (hl : l.length < 4611686018427387904) :
    Calls Tryd.prog 129 #[v, .func (.func 130) #[] #[]] w fun e w' => e = .returned (.tuple #[]) ∧ ∃ l', l'.Perm l ∧ l'.Pairwise (fun p q => ltI q p = false) ∧ RI B w' v l' ∧ w.grownBy w' v.ownBlock := by
  obtain ⟨g, cap, cur, rfl, hC, hb, hn, hm, hs, ht⟩ := own_blockI (ri_flat h) h0
  have hflat : (Go.Sort.flatK itV 2 l.toArray).toList = flatI l := flatK_I _
  have hH : Go.Sort.HoldsK itV 2 w g 0 l.toArray := fun j hj => by
    have hj2 : j < l.length * 2 := by simpa using hj
    rw [Nat.zero_add]
    refine ⟨?_, blk_frozen hb j⟩
    have e : (cur.toList.take (l.length * 2))[j]? = (Go.Sort.flatK itV 2 l.toArray).toList[j]? := by rw [ht, hflat]
    rw [List.getElem?_take, if_pos hj2, Array.getElem?_toList, Array.getElem?_toList, Array.getElem?_eq_getElem hj] at e
    rw [getElem!_pos _ j hj]
    unfold World.cell?
    simp only [hb]
    simpa using e
  have eg : ∀ args w, (callFunc 130 args).run Tryd.prog w = .ok (.enter 130 args) w := enters_of Tryd.func130 (by kernel_rfl) rfl
  have hcon := AnyQ.slices_SortFunc sortI 2 Tryd.isAgg122 Tryd.sizeOf122 itV (fun _ => rfl) (fun x v hv => by simp [itV] at hv; rcases hv with rfl | rfl <;> rfl) cmpI swoI 130 #[] g 0 cap l.toArray w eg (cmpI_lays g 0 _ w) hH (Array.getElem?_eq_some_iff.1 hb).1 (by simpa using hl)
  change Calls Tryd.prog 129 _ _ _ at hcon
  have hz : l.toArray.size = l.length := by simp
  rw [hz] at hcon
  refine hcon.mono ?_
  rintro e w' ⟨rfl, d', m, os, hp, hsrt, rfl⟩
  obtain ⟨p1, -, p3⟩ := hp
  rw [hz] at p1
  have hp3 : d'.toList.Perm l := by
    rw [← p1] at p3
    rw [Array.extract_size] at p3
    rw [p1, ← hz, Array.extract_size] at p3
    exact p3
  have hk : (Go.Sort.flatK itV 2 d').size = l.length * 2 := by rw [Go.Sort.size_flatK, p1]
  obtain ⟨⟨cur', c1, c2, c3⟩, hg⟩ := row_put id w m g (Go.Sort.flatK itV 2 d') os hb (by rw [hk, hs]; exact Nat.mul_le_mul_right 2 hn)
  have hlen : d'.toList.length = l.length := by simpa using p1
  refine ⟨rfl, d'.toList, hp3, ?_, ?_, hg⟩
  · rw [List.pairwise_iff_getElem]
    intro i j hi hj hij
    have := hsrt i j (Nat.zero_le _) hij (by simpa [p1] using hj)
    rw [lt_cmpI] at this
    rw [getElem!_pos d' j (by simpa using hj), getElem!_pos d' i (by simpa using hi)] at this
    simpa using this
  · have hfin : (Go.Sort.grow (Go.Sort.putRow id (Go.Sort.ahead w m) g 0 (Go.Sort.flatK itV 2 d')) os).ownsRow B 122 2 (.slice (some ⟨g, 0, none⟩) l.length cap) d'.toList.length (flatI d'.toList) := by
      refine ⟨by rw [flatI_len], .inr ⟨g, cap, cur', by rw [hlen], hC, c1, by omega, hm, by rw [c2, hs], ?_⟩⟩
      rw [hk] at c3
      rw [hlen, c3, List.map_id, flatK_I]
    exact ri_of_flat hfin
end Go.Proofs.YtjpfalanoifpbaaDoor.X
end

section
set_option linter.unusedVariables false
set_option linter.unusedSimpArgs false
namespace Go.Proofs.YtjpfalanoifpbaaDoor.X
open Go.RowKit Go.Proofs.YtjpfalanoifpbaaDoorW.PrintWords Go.Proofs.YtjpfalanoifpbaaDoorW.PrintLast Go.Proofs.YtjpfalanoifpbaaDoorW.PrintMore Go.Proofs.YtjpfalanoifpbaaDoor.T
theorem info122 : (Tryd.prog.info? 122).map (fun i => (i.zero, i.size, i.bytes)) = some (some (.agg #[.int .i64 0, .int .i64 0]), 2, 16) := by kernel_rfl
structure CloW (w0 w : World) (v0 : Value) (wr : World) (v : Value) (l : List It) : Prop where
  row : RI w0.heap.size wr v l
  bl : Below w0.heap.size w0 wr
  gr : w.grownBy wr v0.ownBlock
  ob : v.ownBlock = v0.ownBlock ∨ ∃ b, v.ownBlock = some b ∧ w.heap.size ≤ b
theorem CloW.start {w0 w : World} {v : Value} {l : List It} (hr : RI w0.heap.size w v l) (hb : Below w0.heap.size w0 w) : CloW w0 w v w v l :=
  ⟨hr, hb, ⟨rfl, rfl, rfl, Nat.le_refl _, fun _ _ _ => rfl⟩, .inl rfl⟩
theorem CloW.later {w0 w wr w2 : World} {v0 v : Value} {l : List It} (h : CloW w0 w v0 wr v l) (hb : Below wr.heap.size wr w2) : CloW w0 w v0 w2 v l :=
  ⟨Kd.R_below h.row hb, h.bl.trans (hb.mono h.bl.size), ⟨hb.os.trans h.gr.os, hb.tape.trans h.gr.tape, hb.output.trans h.gr.output, Nat.le_trans h.gr.size hb.size, fun k hk hne => (hb.block k (Nat.lt_of_lt_of_le hk h.gr.size)).trans (h.gr.block k hk hne)⟩, h.ob⟩
theorem CloW.push {w0 w wr w3 : World} {v0 v v1 : Value} {l l1 : List It} (h : CloW w0 w v0 wr v l) (hv : RI w0.heap.size w3 v1 l1) (hb : Below w0.heap.size w0 w3) (hg : wr.grownBy w3 v.ownBlock) (hat : v1.ownBlock = v.ownBlock ∨ ∃ b, v1.ownBlock = some b ∧ wr.heap.size ≤ b) : CloW w0 w v0 w3 v1 l1 := by
  refine ⟨hv, hb, ⟨hg.os.trans h.gr.os, hg.tape.trans h.gr.tape, hg.output.trans h.gr.output, Nat.le_trans h.gr.size hg.size, fun k hk hne => ?_⟩, ?_⟩
  · refine (hg.block k (Nat.lt_of_lt_of_le hk h.gr.size) (fun e => ?_)).trans (h.gr.block k hk hne)
    rcases h.ob with q | ⟨b, q, hle⟩
    · exact hne (e.trans q)
    · rw [q] at e
      injection e with e
      omega
  · rcases hat with q | ⟨b, q, hle⟩
    · rcases h.ob with z | ⟨b, z, hle⟩
      · exact .inl (q.trans z)
      · exact .inr ⟨b, q.trans z, hle⟩
    · exact .inr ⟨b, q, Nat.le_trans h.gr.size hle⟩
theorem CloW.sorted {w0 w wr w3 : World} {v0 v : Value} {l l1 : List It} (h : CloW w0 w v0 wr v l) (hv : RI w0.heap.size w3 v l1) (hg : wr.grownBy w3 v.ownBlock) : CloW w0 w v0 w3 v l1 := by
  obtain ⟨inner, ho⟩ := Kd.R_own h.row
  exact h.push hv (own_growS h.bl ho hg) hg (.inl rfl)
set_option maxHeartbeats 16000000 in
set_option maxRecDepth 100000 in
theorem closure_calls (A : Option Addr) (n c : Nat) (L : Nat → Int) (R : Nat → ByteArray) (S : It → Prop) (w0 w : World) (v0 : Value) (l0 : List It) (hA : Sr w0 A n c L R) (hg : Gr L R n) (hB : Below w0.heap.size w0 w) (hv : RI w0.heap.size w v0 l0) (h0 : 0 < l0.length) (hnd : l0.Nodup) (hS : ∀ y, S y ↔ y ∈ l0) (hf : ∀ y, S y → Fits L R n y) :
    Calls Tryd.prog 110 #[.slice A n c, v0] w fun e w' => ∃ v, e = .returned v ∧ CloW w0 w v0 w' v (clo L R n S) := by
  have hn1 := hg.n1
  have hn8 := hg.n8
  have h4 : R4 R n := hg.sz
  obtain ⟨b, off, rfl, hnc, hP⟩ := hA.open hn1
  have HA := Lib.hid hA
  have HP := Lib.hid hP
  have H4 := Lib.hid h4
  have HF := Lib.hid hf
  have HL0 := Lib.hid ((hg.ok 0 hn1).1)
  have HC := Lib.hid (CloI.start (L := L) (R := R) (n := n) hnd hS)
  have HW := Lib.hid (CloW.start hv hB)
  have HLZ := Lib.hid h0
  clear hA hg hB hv hnd hS hf hP h4 h0
  obtain ⟨A0, c0, e0⟩ := Kd.R_slice HW.out.row
  rw [e0] at HW ⊢
  clear e0
  go_enter Tryd.func110, Tryd.ntmps110
  go_wp2_with fail
  go_loopw [5, 1] (fun i v wr => ∃ (x : Nat) (l : List It), x ≤ l.length ∧ i = .int .i64 x ∧ Hid (CloI L R n S l x) ∧ Hid (CloW w0 w (.slice A0 l0.length c0) wr v l) ∧ Hid (0 < l.length)) (fun i _ _ => 46 - (intOf i).toNat)
  case atStart => exact ⟨0, l0, by omega, rfl, HC, HW, HLZ⟩
  case round =>
    clear HC HW HLZ
    obtain ⟨x, l, hx, rfl, HC, HW, HLZ⟩ := hrel
    have hlen := HC.out.len H4.out HF.out
    have hlen2 : l.length ≤ 45 := by omega
    clear hlen
    obtain ⟨A1, c1, e1, hI⟩ := ki_read HW.out.row
    subst e1
    by_cases hxl : x < l.length
    · have hxI : (x : Int) < (l.length : Int) := by omega
      obtain ⟨y, hy⟩ : ∃ y, l[x]? = some y := ⟨_, List.getElem?_eq_getElem hxl⟩
      obtain ⟨b1, o1, e1, hm1, hP1⟩ := hI.open (by omega)
      subst e1
      have f0 := hP1.c0 x _ hy
      have f1 := hP1.c1 x _ hy
      have HK := Lib.hid (HC.out.row hy)
      have HFY := Lib.hid (inC_fits HF.out (HC.out.inc y (List.mem_of_getElem? hy)))
      have hxc : x < c1 := by omega
      clear hy hP1 hI
      go_wp2_with fail
      refine (behind_calls _ n c L R y wr (HA.out.later HW.out.bl) hn1 hn8 HFY.out H4.out HL0.out).mono ?_
      rintro e w1 ⟨rfl, hb1⟩
      have HW1 := Lib.hid (HW.out.later hb1)
      clear hb1 f0 f1 HW
      obtain ⟨z, hz⟩ : ∃ z, bh L R n y = z := ⟨_, rfl⟩
      rw [hz]
      have HZ := Lib.hid hz
      clear hz
      go_wp2_with fail
      go_loopw [24, 1] (fun i v wr => ∃ (k : Nat) (l : List It), k ≤ n ∧ i = .int .i64 k ∧ Hid (CloK L R n S l x k y) ∧ Hid (CloW w0 w (.slice A0 l0.length c0) wr v l) ∧ Hid (0 < l.length)) (fun i _ _ => n - (intOf i).toNat)
      case atStart => exact ⟨0, l, by omega, rfl, HK, HW1, HLZ⟩
      case round =>
        clear HK HW1 HLZ HC hlen2 hx hxl hxI hxc hm1
        obtain ⟨k, l, hk, rfl, HK, HW, HLZ⟩ := hrel
        have hlen := HK.out.ci.len H4.out HF.out
        have hlen2 : l.length ≤ 45 := by omega
        clear hlen
        obtain ⟨A2, c2, e2, hI⟩ := ki_read HW.out.row
        subst e2
        by_cases hkn : k < n
        · have hkI : (k : Int) < (n : Int) := by omega
          have g0 := (HP.out.later HW.out.bl).c0 k hkn
          have g1 := (HP.out.later HW.out.bl).c1 k hkn
          have hkc : k < c := by omega
          obtain ⟨lk, hlk⟩ : ∃ lk, L k = lk := ⟨_, rfl⟩
          obtain ⟨sk, hsk⟩ : ∃ sk, R k = sk := ⟨_, rfl⟩
          rw [hlk] at g0
          rw [hsk] at g1
          have HLK := Lib.hid hlk
          clear hlk hsk
          have HI := Lib.hid hI
          clear hI
          have hbA := below_one (w := wr) (.cells #[.int .u8 lk, .string sk] 60)
          have hbB := below_one (w := wr.alloc (.cells #[.int .u8 lk, .string sk] 60)) (.cells #[.int .i64 (k : Nat), .int .i64 ((0 : Nat) : Nat)] 122)
          obtain ⟨d0, d1⟩ := rule_new wr 60 lk sk
          obtain ⟨e0, e1⟩ := it_new (wr.alloc (.cells #[.int .u8 lk, .string sk] 60)) 122 (k : Nat) ((0 : Nat) : Nat)
          have d0' := (hbB.cell (p := ⟨wr.heap.size, 0, none⟩) (World.block_lt_of_cell? _ _ d0)).trans d0
          have hbAB := hbA.trans (hbB.mono hbA.size)
          have HW2 := Lib.hid (HW.out.later hbAB)
          have HI2 := Lib.hid (HI.out.later hbAB)
          clear d0 d1 hbA hbB hbAB
          by_cases hzk : lk = z
          · have HZK : Hid (bh L R n y = L k) := Lib.hid (by rw [HZ.out, HLK.out, hzk])
            subst hzk
            obtain ⟨r, hr⟩ : ∃ r : Bool, r = true ↔ (k, 0) ∈ l := ⟨decide ((k, 0) ∈ l), by simp⟩
            have HR := Lib.hid hr
            clear hr
            go_wp2_with fail
            refine (containsI_calls A2 l.length c2 l (k, 0) _ HI2.out (by omega) r HR.out).mono ?_
            rintro e w3 ⟨rfl, hb3⟩
            have HW3 := Lib.hid (HW2.out.later hb3)
            have hsz : (wr.alloc (.cells #[.int .u8 lk, .string sk] 60)).heap.size = wr.heap.size + 1 := by simp
            rw [hsz] at e0 e1
            have e0' := (hb3.cell (p := ⟨wr.heap.size + 1, 0, none⟩) (World.block_lt_of_cell? _ _ e0)).trans e0
            have e1' := (hb3.cell (p := ⟨wr.heap.size + 1, 1, none⟩) (World.block_lt_of_cell? _ _ e1)).trans e1
            clear hb3 HW2 HI2 HW HI e0 e1 d0' g0 g1 hsz
            cases r with
            | true =>
              have HIN := Lib.hid (HR.out.1 rfl)
              go_wp2_with fail
              refine ⟨⟨k + 1, l, by omega, by go_num, Lib.hid (HK.out.skip fun _ => HIN.out), HW3, HLZ⟩, by simp [intOf]; omega⟩
            | false =>
              have HIN : Hid ((k, 0) ∉ l) := Lib.hid (fun q => by have := HR.out.2 q; cases this)
              have HXS := Lib.hid (show (l.length + 1) * 16 ≤ 140737488355328 by omega)
              go_wp2_with (at_builtin; refine Kd.R_append KI (w0 := w0) w0.heap.size rfl (.tmp 41) (.tmp 43) 121 122 (.agg #[.int .i64 0, .int .i64 0]) 16 rfl Tryd.underlying121 info122 rfl (by decide) (by decide) (.slice A2 l.length c2) l (k, 0) [.int .i64 (k : Nat), .int .i64 ((0 : Nat) : Nat)] (fun _ => True) (fun _ => False) rfl rfl (ki_rep (k, 0)) (fun _ h => h.elim) (fun _ _ => trivial) HW3.out.row HW3.out.bl HW3.out.bl.size HXS.out ?_; intro v1 w4 hv hb hg hat; have HW4 := Lib.hid (HW3.out.push hv hb hg hat); clear hv hb hg hat)
              refine ⟨⟨k + 1, _, by omega, by go_num, Lib.hid (HK.out.push hkn HZK.out HIN.out), HW4, Lib.hid (by simp)⟩, by simp [intOf]; omega⟩
          · have HZK : Hid (¬ bh L R n y = L k) := Lib.hid (by rw [HZ.out, HLK.out]; exact fun e => hzk e.symm)
            go_wp2_with fail
            refine ⟨⟨k + 1, l, by omega, by go_num, Lib.hid (HK.out.skip fun e => absurd e HZK.out), HW2, HLZ⟩, by simp [intOf]; omega⟩
        · obtain rfl : k = n := by omega
          have HCN := Lib.hid HK.out.next
          have hxl := (List.getElem?_eq_some_iff.1 HK.out.at_).1
          clear hI
          go_wp2_with fail
          refine ⟨⟨x + 1, l, by omega, by go_num, HCN, HW, HLZ⟩, by simp [intOf]; omega⟩
    · obtain rfl : x = l.length := by omega
      clear hI
      go_wp2_with fail
      refine (sort_its HW.out.row HLZ.out (by omega)).mono ?_
      rintro e w2 ⟨rfl, l', hp, hs, hr, hg⟩
      have HCL : Hid (l' = clo L R n S) := Lib.hid (HC.out.done H4.out HF.out hp hs)
      have HW2 := Lib.hid (HW.out.sorted hr hg)
      rw [HCL.out] at HW2
      clear hp hs hr hg
      go_wp2
      go_ret
      exact ⟨_, rfl, HW2.out⟩
end Go.Proofs.YtjpfalanoifpbaaDoor.X
end

section
set_option linter.unusedVariables false
set_option linter.unusedSimpArgs false
namespace Go.Proofs.YtjpfalanoifpbaaDoor.X
open Go.RowKit Go.Proofs.YtjpfalanoifpbaaDoorW.PrintWords Go.Proofs.YtjpfalanoifpbaaDoorW.PrintLast Go.Proofs.YtjpfalanoifpbaaDoorW.PrintMore Go.Proofs.YtjpfalanoifpbaaDoor.T
def StR (w : World) (A : Option Addr) (n c : Nat) (out : List (List It)) : Prop :=
  n = out.length ∧ (n = 0 ∨ ∃ b off, A = some ⟨b, off, none⟩ ∧ n ≤ c ∧ ∀ (i : Nat) s, out[i]? = some s → ∃ A' c', w.cell? ⟨b, off + i, none⟩ = some (.slice A' s.length c') ∧ Ir w A' s.length c' s)
theorem StR.later {w w' : World} {A : Option Addr} {n c : Nat} {out : List (List It)} (h : StR w A n c out) (hb : Below w.heap.size w w') : StR w' A n c out := by
  obtain ⟨h0, h | ⟨b, off, h1, h2, h3⟩⟩ := h
  · exact ⟨h0, .inl h⟩
  · refine ⟨h0, .inr ⟨b, off, h1, h2, fun i s hi => ?_⟩⟩
    obtain ⟨A', c', a, q⟩ := h3 i s hi
    exact ⟨A', c', (hb.cell (p := ⟨b, off + i, none⟩) (World.block_lt_of_cell? _ _ a)).trans a, q.later hb⟩
theorem StR.open {w : World} {A : Option Addr} {n c : Nat} {out : List (List It)} (h : StR w A n c out) (h0 : 0 < n) : ∃ b off, A = some ⟨b, off, none⟩ ∧ n ≤ c ∧ ∀ (i : Nat) s, out[i]? = some s → ∃ A' c', w.cell? ⟨b, off + i, none⟩ = some (.slice A' s.length c') ∧ Ir w A' s.length c' s := by
  rcases h.2 with h | h
  · omega
  · exact h
theorem ks_str {ty : TypeId} {w : World} {A : Option Addr} {n c : Nat} {out : List (List It)} (h : (Kd.slice ty KI).C w A n out) (hc : n ≤ c) : StR w A n c out := by
  refine ⟨h.1.symm, ?_⟩
  rcases Nat.eq_zero_or_pos n with h0 | h0
  · exact .inl h0
  · obtain ⟨ad, rfl, hr⟩ := h.2.2 h0
    have hl : out.length = n := h.1
    have key : ∀ j s, out[j]? = some s → ∃ A' c', w.cell? (ad.add j) = some (.slice A' s.length c') ∧ Ir w A' s.length c' s := fun j s hp => by
      obtain ⟨cs, hs, ⟨A', c', rfl, hle, hC⟩, hcell⟩ := hr j _ hp
      have := hcell 0 _ rfl
      rw [show j * (Kd.slice ty KI).sz + 0 = j from by show j * 1 + 0 = j; omega] at this
      exact ⟨A', c', this, ki_ir hC hle⟩
    have hsp : ad.spot = none := by
      have hp : out[0]? = some (out[0]'(by omega)) := List.getElem?_eq_getElem (by omega)
      obtain ⟨A', c', this, -⟩ := key 0 _ hp
      rw [show ad.add 0 = ad by simp [Addr.add]] at this
      exact World.cell?_spot this
    have ha : ∀ j, ad.add j = ⟨ad.block, ad.off + j, none⟩ := fun j => by
      unfold Addr.add
      by_cases hj : j = 0
      · subst hj
        rw [if_pos rfl, ← hsp]
        simp
      · rw [if_neg hj]
    refine .inr ⟨ad.block, ad.off, by rw [← hsp], hc, fun i s hi => ?_⟩
    rw [← ha]
    exact key i s hi
theorem ks_read {ty ty2 B : Nat} {w : World} {ok : Nat → Prop} {v : Value} {out : List (List It)} (h : Kd.R (Kd.slice ty KI) ty2 w B ok v out) : ∃ A c, v = .slice A out.length c ∧ StR w A out.length c out := by
  obtain ⟨A, c, rfl, hc, hC⟩ := Kd.R_reads h
  exact ⟨A, c, rfl, ks_str hC hc⟩
def Fnd (out : List (List It)) (l : List It) (r : Int) : Prop := (r = -1 ∧ l ∉ out) ∨ ∃ k : Nat, r = k ∧ k < out.length ∧ out[k]? = some l ∧ l ∈ out ∧ ∀ j, j < k → out[j]? ≠ some l
set_option maxHeartbeats 4000000 in
set_option maxRecDepth 100000 in
theorem sameS_calls {A1 A2 : Option Addr} {c1 c2 G : Nat} {s l : List It} {w : World} (h1 : Ir w A1 s.length c1 s) (hc : w.cell? ⟨G, 0, none⟩ = some (.slice A2 l.length c2)) (h2 : Ir w A2 l.length c2 l) (hn : s.length ≤ 1000 ∧ l.length ≤ 1000) (r : Bool) (hr : r = true ↔ s = l) :
    Calls Tryd.prog 113 #[.slice A1 s.length c1, .pointer (some ⟨G, 0, none⟩)] w fun e w' => e = .returned (.bool r) ∧ Below w.heap.size w w' := by
  have H := Lib.hid (eqI_calls h1 h2 hn r hr)
  clear h1 h2 hr
  go_enter Tryd.func113, Tryd.ntmps113
  go_wp2_with fail
  refine H.out.mono ?_
  rintro e w2 ⟨rfl, hb⟩
  have HB := Lib.hid hb
  clear hb
  go_wp2
  go_ret
  exact ⟨rfl, HB.out⟩
set_option maxHeartbeats 8000000 in
set_option maxRecDepth 100000 in
theorem idxS_calls {A A2 : Option Addr} {n c c2 G : Nat} {out : List (List It)} {l : List It} {w : World} (hS : StR w A n c out) (hn : n ≤ 1000) (hle : ∀ s ∈ out, s.length ≤ 1000) (hl : l.length ≤ 1000) (hc : w.cell? ⟨G, 0, none⟩ = some (.slice A2 l.length c2)) (h2 : Ir w A2 l.length c2 l) :
    Calls Tryd.prog 112 #[.slice A n c, .func (.func 113) #[] #[.pointer (some ⟨G, 0, none⟩)]] w fun e w' => (∃ r : Int, e = .returned (.int .i64 r) ∧ Fnd out l r) ∧ Below w.heap.size w w' := by
  have HS := Lib.hid hS
  have HL := Lib.hid hle
  have HC := Lib.hid hc
  have H2 := Lib.hid h2
  have HNO := Lib.hid hS.1
  have eg : ∀ args w, (callFunc 113 args).run Tryd.prog w = .ok (.enter 113 args) w := enters_of Tryd.func113 (by kernel_rfl) rfl
  clear hS hle hc h2
  go_enter Tryd.func112, Tryd.ntmps112
  go_wp2_with fail
  have HB := Lib.hid (Below.refl w.heap.size w)
  go_loopw [8] (fun i wr => ∃ k : Nat, k ≤ n ∧ i = .int .i64 k ∧ Hid (Below w.heap.size w wr) ∧ Hid (∀ j, j < k → out[j]? ≠ some l)) (fun i _ => n - (intOf i).toNat)
  case atStart => exact ⟨0, by omega, rfl, HB, Lib.hid (fun j hj => by omega)⟩
  case round =>
    clear HB
    obtain ⟨k, hk, rfl, HB, HN⟩ := hrel
    by_cases hkl : k < n
    · have hkI : (k : Int) < (n : Int) := by omega
      obtain ⟨b, off, rfl, hnc, hP⟩ := HS.out.open (by omega)
      obtain ⟨s, hs⟩ : ∃ s, out[k]? = some s := ⟨_, List.getElem?_eq_getElem (by have := HNO.out; omega)⟩
      obtain ⟨A', c', c0, hI⟩ := hP k s hs
      have c0' := (HB.out.cell (p := ⟨b, off + k, none⟩) (World.block_lt_of_cell? _ _ c0)).trans c0
      have HI := Lib.hid (hI.later HB.out)
      have HCC := Lib.hid ((HB.out.cell (p := ⟨G, 0, none⟩) (World.block_lt_of_cell? _ _ HC.out)).trans HC.out)
      have hkc : k < c := by omega
      have HSS := Lib.hid hs
      obtain ⟨r, hr⟩ : ∃ r : Bool, r = true ↔ s = l := ⟨decide (s = l), by simp⟩
      have HR := Lib.hid hr
      clear hs hP c0 hI hr
      go_wp2_with fail
      refine (sameS_calls HI.out HCC.out (H2.out.later HB.out) ⟨HL.out s (List.mem_of_getElem? HSS.out), hl⟩ r HR.out).mono ?_
      rintro e w2 ⟨rfl, hb2⟩
      have HB2 := Lib.hid (HB.out.trans (hb2.mono HB.out.size))
      clear hb2 c0'
      cases r with
      | true =>
        have HE := Lib.hid (HR.out.1 rfl)
        go_wp2
        go_ret
        exact ⟨⟨_, rfl, .inr ⟨k, rfl, by have := HNO.out; omega, by rw [HSS.out, HE.out], by rw [← HE.out]; exact List.mem_of_getElem? HSS.out, HN.out⟩⟩, HB2.out⟩
      | false =>
        have HE : Hid (s ≠ l) := Lib.hid (fun q => by have := HR.out.2 q; cases this)
        go_wp2_with fail
        refine ⟨⟨k + 1, by omega, by go_num, HB2, Lib.hid (fun j hj => ?_)⟩, by simp [intOf]; omega⟩
        by_cases e : j = k
        · rw [e, HSS.out]
          intro q
          injection q with q
          exact HE.out q
        · exact HN.out j (by omega)
    · obtain rfl : k = n := by omega
      go_wp2
      go_ret
      refine ⟨⟨_, rfl, .inl ⟨rfl, fun q => ?_⟩⟩, HB.out⟩
      obtain ⟨j, hj⟩ := List.getElem?_of_mem q
      exact HN.out j (by have := (List.getElem?_eq_some_iff.1 hj).1; have := HNO.out; omega) hj
end Go.Proofs.YtjpfalanoifpbaaDoor.X
end

section
set_option linter.unusedVariables false
set_option linter.unusedSimpArgs false
namespace Go.Proofs.YtjpfalanoifpbaaDoor.X
open Go.RowKit Go.Proofs.YtjpfalanoifpbaaDoorW.PrintWords Go.Proofs.YtjpfalanoifpbaaDoorW.PrintLast Go.Proofs.YtjpfalanoifpbaaDoorW.PrintMore Go.Proofs.YtjpfalanoifpbaaDoor.T
abbrev KS : Kd (List It) := Kd.slice 122 KI
abbrev KM : Kd Nat := Kd.scalar (fun r : Nat => Value.map (some r)) (fun _ => rfl)
abbrev GoL := List (Int × Nat)
def cells8 (gs vS vG : Value) (F : Nat → Nat) : Array Value := #[gs, vS, vG, .int .i64 (F 0), .int .i64 (F 1), .int .i64 (F 2), .int .i64 (F 3), .int .i64 (F 4)]
structure Tb (w0 w : World) (G : Nat) (gs vS vG : Value) (F : Nat → Nat) (out : List (List It)) (rs : List Nat) (ms : List GoL) : Prop where
  blk : w.heap[G]? = some (.cells (cells8 gs vS vG F) 116 (0, 0))
  st : Kd.R KS 121 w w0.heap.size (fun _ => True) vS out
  go : Kd.R KM 124 w w0.heap.size (fun _ => True) vG rs
  ln : rs.length = ms.length
  mp : ∀ (i r : Nat) m, rs[i]? = some r → ms[i]? = some m → IsM (Value.int .u8) natV w r m
  lo : ∀ r ∈ rs, w0.heap.size ≤ r
  nd : rs.Nodup
  bl : Below w0.heap.size w0 w
  hG : w0.heap.size ≤ G
section
variable {w0 w : World} {G : Nat} {gs vS vG : Value} {F : Nat → Nat} {out : List (List It)} {rs : List Nat} {ms : List GoL}
theorem Tb.lt (h : Tb w0 w G gs vS vG F out rs ms) : G < w.heap.size := (Array.getElem?_eq_some_iff.1 h.blk).1
theorem Tb.later {w1 : World} (h : Tb w0 w G gs vS vG F out rs ms) (hb : Below w.heap.size w w1) : Tb w0 w1 G gs vS vG F out rs ms :=
  ⟨(hb.block _ h.lt).trans h.blk, Kd.R_below h.st hb, Kd.R_below h.go hb, h.ln, fun i r m h1 h2 => (h.mp i r m h1 h2).below hb, h.lo, h.nd, h.bl.trans (hb.mono h.bl.size), h.hG⟩
theorem Tb.c0 (h : Tb w0 w G gs vS vG F out rs ms) : w.cell? ⟨G, 0, none⟩ = some gs := by rw [blk_cell h.blk]; rfl
theorem Tb.c1 (h : Tb w0 w G gs vS vG F out rs ms) : w.cell? ⟨G, 1, none⟩ = some vS := by rw [blk_cell h.blk]; rfl
theorem Tb.c2 (h : Tb w0 w G gs vS vG F out rs ms) : w.cell? ⟨G, 2, none⟩ = some vG := by rw [blk_cell h.blk]; rfl
theorem Tb.fz (h : Tb w0 w G gs vS vG F out rs ms) (i : Nat) : w.frozen? ⟨G, i, none⟩ = false := blk_frozen h.blk i
theorem Tb.map_ne (h : Tb w0 w G gs vS vG F out rs ms) {i r : Nat} (hr : rs[i]? = some r) {k : Nat} {cs : Array Value} {t : TypeId} (hk : w.heap[k]? = some (.cells cs t (0, 0))) : r ≠ k := by
  have hi := (List.getElem?_eq_some_iff.1 hr).1
  obtain ⟨m, hm⟩ : ∃ m, ms[i]? = some m := ⟨_, List.getElem?_eq_getElem (by rw [← h.ln]; exact hi)⟩
  obtain ⟨es, clock, hb, -⟩ := h.mp i r m hr hm
  rintro rfl
  rw [hk] at hb
  cases hb
theorem Tb.setS {w1 : World} {v1 : Value} {l : List It} (h : Tb w0 w G gs vS vG F out rs ms) (hv : Kd.R KS 121 w1 w0.heap.size (fun _ => True) v1 (out ++ [l])) (hb : Below w0.heap.size w0 w1) (hg : w.grownBy w1 vS.ownBlock) : Tb w0 (w1.setCell ⟨G, 1, none⟩ v1) G gs v1 vG F (out ++ [l]) rs ms := by
  obtain ⟨i1, ho1⟩ := Kd.R_own h.st
  have hGS : some G ≠ vS.ownBlock := fun e => by
    obtain ⟨cs, hc⟩ := own_typed ho1 G e.symm
    rw [h.blk] at hc
    injection hc with hc
    injection hc with _ hc
    exact absurd hc (by decide)
  have hG1 : w1.heap[G]? = some (.cells (cells8 gs vS vG F) 116 (0, 0)) := (hg.block G h.lt hGS).trans h.blk
  have hgo1 : Kd.R KM 124 w1 w0.heap.size (fun _ => True) vG rs := by
    refine Kd.R_mono (Kd.R_grown (ok := fun k => some k ≠ vS.ownBlock) (Kd.R_mono (Kd.R_bound h.go) fun k hk e => ?_) hg fun k hk => hk) (fun _ _ => trivial)
    obtain ⟨_, _, _, q, hq, cells, hc⟩ := hk
    obtain ⟨cs, hc2⟩ := own_typed ho1 k e.symm
    rw [hc] at hc2
    injection hc2 with hc2
    injection hc2 with _ hc2
    rw [hc2] at hq
    exact absurd hq (by decide)
  refine ⟨?_, Kd.R_set hv hG1 (by decide) 1 v1, Kd.R_set hgo1 hG1 (by decide) 1 v1, h.ln, fun i r m h1 h2 => ?_, h.lo, h.nd, hb.setCell (p := ⟨G, 1, none⟩) h.hG _, h.hG⟩
  · rw [blk_set hG1]
    rfl
  · have hm := h.mp i r m h1 h2
    have hlt := hm.lt
    have e1 : w1.heap[r]? = w.heap[r]? := hg.block r hlt (fun e => by
      obtain ⟨cs, hc⟩ := own_typed ho1 r e.symm
      exact h.map_ne h1 hc rfl)
    exact hm.of_heap ((Below.heap_setCell w1 ⟨G, 1, none⟩ v1 r (h.map_ne h1 h.blk)).trans e1)
theorem Tb.setG {w1 : World} {v1 : Value} {r : Nat} (h : Tb w0 w G gs vS vG F out rs ms) (hr : IsM (Value.int .u8) natV w r []) (hlo : w0.heap.size ≤ r) (hn : r ∉ rs) (hv : Kd.R KM 124 w1 w0.heap.size (fun _ => True) v1 (rs ++ [r])) (hb : Below w0.heap.size w0 w1) (hg : w.grownBy w1 vG.ownBlock) : Tb w0 (w1.setCell ⟨G, 2, none⟩ v1) G gs vS v1 F out (rs ++ [r]) (ms ++ [[]]) := by
  obtain ⟨i1, ho1⟩ := Kd.R_own h.go
  have hGS : some G ≠ vG.ownBlock := fun e => by
    obtain ⟨cs, hc⟩ := own_typed ho1 G e.symm
    rw [h.blk] at hc
    injection hc with hc
    injection hc with _ hc
    exact absurd hc (by decide)
  have hG1 : w1.heap[G]? = some (.cells (cells8 gs vS vG F) 116 (0, 0)) := (hg.block G h.lt hGS).trans h.blk
  have hst1 : Kd.R KS 121 w1 w0.heap.size (fun _ => True) vS out := by
    refine Kd.R_mono (Kd.R_grown (ok := fun k => some k ≠ vG.ownBlock) (Kd.R_mono (Kd.R_bound h.st) fun k hk e => ?_) hg fun k hk => hk) (fun _ _ => trivial)
    obtain ⟨_, _, _, q, hq, cells, hc⟩ := hk
    obtain ⟨cs, hc2⟩ := own_typed ho1 k e.symm
    rw [hc] at hc2
    injection hc2 with hc2
    injection hc2 with _ hc2
    rw [hc2] at hq
    exact absurd hq (by decide)
  have mv : ∀ (r' : Nat) m, IsM (Value.int .u8) natV w r' m → IsM (Value.int .u8) natV (w1.setCell ⟨G, 2, none⟩ v1) r' m := fun r' m hm => by
    have hne : ∀ (k : Nat) cs t, w.heap[k]? = some (.cells cs t (0, 0)) → r' ≠ k := fun k cs t hk => by
      obtain ⟨es, clock, hb2, -⟩ := hm
      rintro rfl
      rw [hk] at hb2
      cases hb2
    have e1 : w1.heap[r']? = w.heap[r']? := hg.block r' hm.lt (fun e => by
      obtain ⟨cs, hc⟩ := own_typed ho1 r' e.symm
      exact hne r' _ _ hc rfl)
    exact hm.of_heap ((Below.heap_setCell w1 ⟨G, 2, none⟩ v1 r' (hne G _ _ h.blk)).trans e1)
  refine ⟨?_, Kd.R_set hst1 hG1 (by decide) 2 v1, Kd.R_set hv hG1 (by decide) 2 v1, by rw [List.length_append, List.length_append, h.ln]; rfl, fun i r' m h1 h2 => ?_, fun r' hr' => ?_, ?_, hb.setCell (p := ⟨G, 2, none⟩) h.hG _, h.hG⟩
  · rw [blk_set hG1]
    rfl
  · by_cases hi : i < rs.length
    · rw [List.getElem?_append_left hi] at h1
      rw [List.getElem?_append_left (by rw [← h.ln]; exact hi)] at h2
      exact mv r' m (h.mp i r' m h1 h2)
    · have hi2 : i = rs.length := by
        have := (List.getElem?_eq_some_iff.1 h1).1
        simp at this
        omega
      subst hi2
      rw [h.ln] at h2
      simp at h1 h2
      subst h1 h2
      exact mv r [] hr
  · rcases List.mem_append.1 hr' with q | q
    · exact h.lo r' q
    · rw [List.mem_singleton] at q
      rw [q]
      exact hlo
  · rw [List.nodup_append]
    refine ⟨h.nd, by simp, fun a ha b hb2 e => ?_⟩
    rw [List.mem_singleton] at hb2
    subst hb2
    subst e
    exact hn ha
theorem Tb.put {w1 : World} {i r : Nat} {m m' : GoL} (h : Tb w0 w G gs vS vG F out rs ms) (hr : rs[i]? = some r) (hm : ms[i]? = some m) (hM : IsM (Value.int .u8) natV w1 r m') (hk : KeepBut w w1 r none) (hb : Below w0.heap.size w0 w1) : Tb w0 w1 G gs vS vG F out rs (ms.set i m') := by
  have hrG := h.map_ne hr h.blk
  have mvc : ∀ {α : Type} {d : Kd α} {e : Nat} {v : Value} {xs : List α}, Kd.R d e w w0.heap.size (fun _ => True) v xs → Kd.R d e w1 w0.heap.size (fun _ => True) v xs := fun hR => by
    refine Kd.R_mono (Kd.R_keep (ok := fun k => k ≠ r) (Kd.R_mono (Kd.R_bound hR) fun k hk2 e => ?_) hk fun k hk2 => hk2) (fun _ _ => trivial)
    obtain ⟨_, _, _, q, hq, cells, hc⟩ := hk2
    exact h.map_ne hr hc e.symm
  refine ⟨(hk.2 G h.lt (Ne.symm hrG) (by simp)).trans h.blk, mvc h.st, mvc h.go, by rw [List.length_set]; exact h.ln, fun j r' m2 h1 h2 => ?_, h.lo, h.nd, hb, h.hG⟩
  by_cases e : i = j
  · subst e
    rw [hr] at h1
    injection h1 with h1
    subst h1
    rw [List.getElem?_set_self (List.getElem?_eq_some_iff.1 hm).1] at h2
    injection h2 with h2
    subst h2
    exact hM
  · rw [List.getElem?_set_ne e] at h2
    have hm2 := h.mp j r' m2 h1 h2
    have hne : r' ≠ r := fun q => by
      subst q
      obtain ⟨a1, a2⟩ := List.getElem?_eq_some_iff.1 hr
      obtain ⟨b1, b2⟩ := List.getElem?_eq_some_iff.1 h1
      have hnd := h.nd
      unfold List.Nodup at hnd
      rw [List.pairwise_iff_getElem] at hnd
      rcases Nat.lt_or_ge i j with q | q
      · exact hnd i j a1 b1 q (by rw [a2, b2])
      · exact hnd j i b1 a1 (by omega) (by rw [a2, b2])
    exact hm2.of_heap (hk.2 r' hm2.lt hne (by simp))
end
section
variable (L : Nat → Int) (R : Nat → ByteArray) (n : Nat)
noncomputable def leadsTo (out : List (List It)) (st : List It) (c : Int) : Nat := out.findIdx (fun s => s == ovr L R n st c)
structure GoM (out : List (List It)) (st : List It) (cs : List Int) (m : GoL) : Prop where
  mem : ∀ c ∈ cs, nxt L R n st c ≠ [] → ovr L R n st c ∈ out
  get : ∀ c, findL m c = if c ∈ cs ∧ nxt L R n st c ≠ [] then some (leadsTo L R n out st c) else none
variable {L R n}
theorem GoM.start (out : List (List It)) (st : List It) : GoM L R n out st [] [] :=
  ⟨fun c hc => (by cases hc), fun c => by simp [findL]⟩
theorem leads_snoc {out : List (List It)} {st : List It} {c : Int} {l : List It} (h : ovr L R n st c ∈ out) : leadsTo L R n (out ++ [l]) st c = leadsTo L R n out st c := by
  unfold leadsTo
  rw [List.findIdx_append]
  have : out.findIdx (fun s => s == ovr L R n st c) < out.length := List.findIdx_lt_length_of_exists ⟨_, h, by simp⟩
  rw [if_pos this]
theorem GoM.snoc {out : List (List It)} {st l : List It} {cs : List Int} {m : GoL} (h : GoM L R n out st cs m) : GoM L R n (out ++ [l]) st cs m :=
  ⟨fun c hc hx => List.mem_append_left _ (h.mem c hc hx), fun c => by
    rw [h.get]
    by_cases q : c ∈ cs ∧ nxt L R n st c ≠ []
    · rw [if_pos q, if_pos q, leads_snoc (h.mem c q.1 q.2)]
    · rw [if_neg q, if_neg q]⟩
theorem GoM.skip {out : List (List It)} {st : List It} {cs : List Int} {m : GoL} {c : Int} (h : GoM L R n out st cs m) (hc : nxt L R n st c = []) : GoM L R n out st (cs ++ [c]) m :=
  ⟨fun d hd hx => by
    rcases List.mem_append.1 hd with q | q
    · exact h.mem d q hx
    · rw [List.mem_singleton] at q
      rw [q] at hx
      exact absurd hc hx, fun d => by
    rw [h.get]
    by_cases q : d = c
    · subst q
      rw [if_neg (fun z => z.2 hc), if_neg (fun z => z.2 hc)]
    · have : d ∈ cs ++ [c] ↔ d ∈ cs := by simp [q]
      simp only [this]⟩
theorem GoM.put {out : List (List It)} {st : List It} {cs : List Int} {m : GoL} {c : Int} (h : GoM L R n out st cs m) (hc : nxt L R n st c ≠ []) (ho : ovr L R n st c ∈ out) : GoM L R n out st (cs ++ [c]) (putL m c (leadsTo L R n out st c)) :=
  ⟨fun d hd hx => by
    rcases List.mem_append.1 hd with q | q
    · exact h.mem d q hx
    · rw [List.mem_singleton] at q
      rw [q]
      exact ho, fun d => by
    rw [findL_putL]
    by_cases q : c = d
    · subst q
      rw [if_pos rfl, if_pos ⟨by simp, hc⟩]
    · rw [if_neg q, h.get]
      have : d ∈ cs ++ [c] ↔ d ∈ cs := by simp [Ne.symm q]
      simp only [this]⟩
theorem fnd_leads {out : List (List It)} {st : List It} {c : Int} {k : Nat} (h : out[k]? = some (ovr L R n st c)) (hn : ∀ j, j < k → out[j]? ≠ some (ovr L R n st c)) : leadsTo L R n out st c = k := by
  unfold leadsTo
  obtain ⟨hk, e⟩ := List.getElem?_eq_some_iff.1 h
  rw [List.findIdx_eq hk]
  refine ⟨by simp [e], fun j hj => ?_⟩
  have := hn j hj
  rw [List.getElem?_eq_getElem (by omega)] at this
  simp only [beq_eq_false_iff_ne]
  exact fun q => this (by rw [q])
def GoA (L : Nat → Int) (R : Nat → ByteArray) (n : Nat) (out : List (List It)) (ms : List GoL) (cs : Nat → List Int) : Prop := ∀ (i : Nat) st m, out[i]? = some st → ms[i]? = some m → GoM L R n out st (cs i) m
theorem GoA.snoc {out : List (List It)} {ms : List GoL} {cs : Nat → List Int} {l : List It} (h : GoA L R n out ms cs) (hl : ms.length ≤ out.length) : GoA L R n (out ++ [l]) ms cs := fun i st m h1 h2 => by
  have hi := (List.getElem?_eq_some_iff.1 h2).1
  rw [List.getElem?_append_left (by omega)] at h1
  exact (h i st m h1 h2).snoc
end
theorem nxt_nodup {L : Nat → Int} {R : Nat → ByteArray} {n : Nat} {st : List It} (h : Asc st) (c : Int) : (nxt L R n st c).Nodup := by
  unfold nxt
  have h1 : (st.filter fun x => bh L R n x == c).Pairwise fun x y => cd x < cd y := List.Pairwise.filter _ h
  unfold List.Nodup
  rw [List.pairwise_map]
  refine h1.imp fun {a b} hab e => ?_
  obtain ⟨e1, e2⟩ := Prod.mk.inj e
  unfold cd at hab
  omega
theorem nxt_take {L : Nat → Int} {R : Nat → ByteArray} {n : Nat} {st : List It} {q : Nat} {x : It} (h : st[q]? = some x) (c : Int) : nxt L R n (st.take (q + 1)) c = if bh L R n x = c then nxt L R n (st.take q) c ++ [(x.1, x.2 + 1)] else nxt L R n (st.take q) c := by
  unfold nxt
  rw [take_succ_of h, List.filter_append, List.map_append]
  by_cases e : bh L R n x = c
  · rw [if_pos e]
    simp [e]
  · rw [if_neg e]
    simp [e]
structure Lv (W wr : World) (H : Nat) (v : Value) (l : List It) : Prop where
  blk : wr.heap[H]? = some (.cells #[v] 121 (0, 0))
  row : RI W.heap.size wr v l
  bl : Below W.heap.size W wr
  hH : W.heap.size ≤ H
  nl : l = [] → v = .slice none 0 0
section
variable {W wr : World} {H : Nat} {v : Value} {l : List It}
theorem Lv.start (W : World) : Lv W (W.alloc (.cells #[.slice none 0 0] 121)) W.heap.size (.slice none 0 0) [] :=
  ⟨blk_new W _, Kd.R_nil _ _ _ _ _, below_one _, Nat.le_refl _, fun _ => rfl⟩
theorem Lv.lt (h : Lv W wr H v l) : H < wr.heap.size := (Array.getElem?_eq_some_iff.1 h.blk).1
theorem Lv.later {w1 : World} (h : Lv W wr H v l) (hb : Below wr.heap.size wr w1) : Lv W w1 H v l :=
  ⟨(hb.block _ h.lt).trans h.blk, Kd.R_below h.row hb, h.bl.trans (hb.mono h.bl.size), h.hH, h.nl⟩
theorem Lv.c0 (h : Lv W wr H v l) : wr.cell? ⟨H, 0, none⟩ = some v := by rw [blk_cell h.blk]; rfl
theorem Lv.fz (h : Lv W wr H v l) : wr.frozen? ⟨H, 0, none⟩ = false := blk_frozen h.blk 0
theorem Lv.set {w1 : World} {v1 : Value} {l1 : List It} (h : Lv W wr H v l) (hv : RI W.heap.size w1 v1 l1) (hb : Below W.heap.size W w1) (hg : wr.grownBy w1 v.ownBlock) (h1 : l1 ≠ []) : Lv W (w1.setCell ⟨H, 0, none⟩ v1) H v1 l1 := by
  obtain ⟨i1, ho1⟩ := Kd.R_own h.row
  have hHS : some H ≠ v.ownBlock := fun e => by
    obtain ⟨cs, hc⟩ := own_typed ho1 H e.symm
    rw [h.blk] at hc
    injection hc with hc
    injection hc with _ hc
    exact absurd hc (by decide)
  have hH1 : w1.heap[H]? = some (.cells #[v] 121 (0, 0)) := (hg.block H h.lt hHS).trans h.blk
  refine ⟨?_, Kd.R_set hv hH1 (by decide) 0 v1, hb.setCell (p := ⟨H, 0, none⟩) h.hH _, h.hH, fun e => absurd e h1⟩
  rw [blk_set hH1]
  rfl
end
end Go.Proofs.YtjpfalanoifpbaaDoor.X
end

section
set_option linter.unusedVariables false
set_option linter.unusedSimpArgs false
namespace Go.Proofs.YtjpfalanoifpbaaDoor.X
open Go.RowKit Go.Proofs.YtjpfalanoifpbaaDoorW.PrintWords Go.Proofs.YtjpfalanoifpbaaDoorW.PrintLast Go.Proofs.YtjpfalanoifpbaaDoorW.PrintMore Go.Proofs.YtjpfalanoifpbaaDoor.T
theorem ri_lit (W : World) {B : Nat} (hB : B ≤ W.heap.size) (x : It) : RI B (W.alloc (.cells #[.int .i64 (x.1 : Nat), .int .i64 (x.2 : Nat)] 122)) (.slice (some ⟨W.heap.size, 0, none⟩) 1 1) [x] :=
  ⟨fun _ _ => trivial, OwnRow.lit (ps := [x]) (inner := [.int .i64 (x.1 : Nat), .int .i64 (x.2 : Nat)]) W B (Reps.snoc (ps := []) (cs := []) (Reps.none _ _) (ki_rep x) rfl) hB (by simp)⟩
theorem rs_lit (W : World) {B : Nat} {v : Value} {st : List It} (hB : B ≤ W.heap.size) (h : RI B W v st) : Kd.R KS 121 (W.alloc (.cells #[v] 121)) B (fun _ => True) (.slice (some ⟨W.heap.size, 0, none⟩) 1 1) [st] := by
  refine ⟨fun _ _ => trivial, OwnRow.lit (ps := [st]) (inner := [v]) W B (Reps.snoc (ps := []) (cs := []) (Reps.none _ _) ⟨v, rfl, ?_⟩ rfl) hB (by simp)⟩
  refine Kd.R_mono (Kd.R_below (Kd.R_bound h) (below_one _)) fun k hk => ⟨trivial, fun e => ?_⟩
  have h3 : k = W.heap.size := by simpa [Value.ownBlock] using e
  have := hk.2.2.1
  omega
theorem Tb.first {w0 w4 : World} {G : Nat} {gs v : Value} {F : Nat → Nat} {st : List It} (hG : w4.heap[G]? = some (.cells (cells8 gs (.slice none 0 0) (.slice none 0 0) F) 116 (0, 0))) (hv : RI w0.heap.size w4 v st) (hb : Below w0.heap.size w0 w4) (hGw : w0.heap.size ≤ G) :
    Tb w0 ((w4.alloc (.cells #[v] 121)).setCell ⟨G, 1, none⟩ (.slice (some ⟨w4.heap.size, 0, none⟩) 1 1)) G gs (.slice (some ⟨w4.heap.size, 0, none⟩) 1 1) (.slice none 0 0) F [st] [] [] := by
  have hba := below_one (w := w4) (.cells #[v] 121)
  have hG1 := (hba.block _ (Array.getElem?_eq_some_iff.1 hG).1).trans hG
  refine ⟨?_, Kd.R_set (rs_lit w4 hb.size hv) hG1 (by decide) 1 _, Kd.R_nil _ _ _ _ _, rfl, fun i r m h => by simp at h, fun r h => by simp at h, by simp, (hb.trans (hba.mono hb.size)).setCell (p := ⟨G, 1, none⟩) hGw _, hGw⟩
  rw [blk_set hG1]
  rfl
theorem km_read {w : World} {B : Nat} {ok : Nat → Prop} {v : Value} {rs : List Nat} (h : Kd.R KM 124 w B ok v rs) : ∃ A c, v = .slice A rs.length c ∧ ∀ (i r : Nat), rs[i]? = some r → ∃ b off, A = some ⟨b, off, none⟩ ∧ rs.length ≤ c ∧ w.cell? ⟨b, off + i, none⟩ = some (.map (some r)) := by
  obtain ⟨A, c, rfl, hc, hC⟩ := Kd.R_reads h
  refine ⟨A, c, rfl, fun i r hi => ?_⟩
  have hlt := (List.getElem?_eq_some_iff.1 hi).1
  obtain ⟨ad, rfl, hr⟩ := hC.2.2 (by omega)
  obtain ⟨cs, hs, hk, hcell⟩ := hr i _ hi
  have e : cs = [.map (some r)] := hk
  subst e
  have h0 := hcell 0 _ rfl
  rw [show i * KM.sz + 0 = i from by show i * 1 + 0 = i; omega] at h0
  have hsp : ad.spot = none := by
    have hp : rs[0]? = some (rs[0]'(by omega)) := List.getElem?_eq_getElem (by omega)
    obtain ⟨cs, hs, hk, hcell⟩ := hr 0 _ hp
    have e : cs = [.map (some _)] := hk
    subst e
    have := hcell 0 _ rfl
    rw [show ad.add (0 * KM.sz + 0) = ad by simp [Addr.add]] at this
    exact World.cell?_spot this
  have ha : ad.add i = ⟨ad.block, ad.off + i, none⟩ := by
    unfold Addr.add
    by_cases hj : i = 0
    · subst hj
      rw [if_pos rfl, ← hsp]
      simp
    · rw [if_neg hj]
  rw [ha] at h0
  exact ⟨ad.block, ad.off, by rw [← hsp], hc, h0⟩
theorem info124 : (Tryd.prog.info? 124).map (fun i => (i.zero, i.size, i.bytes)) = some (some (.map none), 1, 8) := by kernel_rfl
theorem info121 : (Tryd.prog.info? 121).map (fun i => (i.zero, i.size, i.bytes)) = some (some (.slice none 0 0), 1, 24) := by kernel_rfl
theorem Tb.keptG {w0 w w1 : World} {G : Nat} {gs vS vG : Value} {F : Nat → Nat} {out : List (List It)} {rs : List Nat} {ms : List GoL} (h : Tb w0 w G gs vS vG F out rs ms) (hg : w.grownBy w1 vG.ownBlock) : w1.heap[G]? = some (.cells (cells8 gs vS vG F) 116 (0, 0)) := by
  obtain ⟨i1, ho1⟩ := Kd.R_own h.go
  refine (hg.block G h.lt fun e => ?_).trans h.blk
  obtain ⟨cs, hc⟩ := own_typed ho1 G e.symm
  rw [h.blk] at hc
  injection hc with hc
  injection hc with _ hc
  exact absurd hc (by decide)
theorem Tb.keptS {w0 w w1 : World} {G : Nat} {gs vS vG : Value} {F : Nat → Nat} {out : List (List It)} {rs : List Nat} {ms : List GoL} (h : Tb w0 w G gs vS vG F out rs ms) (hg : w.grownBy w1 vS.ownBlock) {g : Nat} {cs : Array Value} {t : TypeId} {fr : Nat × Nat} (hb : w.heap[g]? = some (.cells cs t fr)) (ht : t ≠ 121) : w1.heap[g]? = some (.cells cs t fr) := by
  obtain ⟨i1, ho1⟩ := Kd.R_own h.st
  refine (hg.block g (Array.getElem?_eq_some_iff.1 hb).1 fun e => ?_).trans hb
  obtain ⟨cs2, hc⟩ := own_typed ho1 g e.symm
  rw [hb] at hc
  injection hc with hc
  injection hc with _ hc
  exact ht hc
def letC : Array Value := #[.int .u8 65, .int .u8 66, .int .u8 67, .int .u8 68, .int .u8 69, .int .u8 97, .int .u8 98, .int .u8 99, .int .u8 100]
theorem letC_at {w : World} {H : Nat} (h : w.heap[H]? = some (.cells letC 5 (9, 10))) {k : Nat} (hk : k < 9) : w.cell? ⟨H, k, none⟩ = some (.int .u8 (lets[k]'hk)) := by
  rw [cell_of_row w H k letC 5 (9, 10) h]
  match k, hk with
  | 0, _ => rfl
  | 1, _ => rfl
  | 2, _ => rfl
  | 3, _ => rfl
  | 4, _ => rfl
  | 5, _ => rfl
  | 6, _ => rfl
  | 7, _ => rfl
  | 8, _ => rfl
theorem Tb.rs_lt {w0 w : World} {G : Nat} {gs vS vG : Value} {F : Nat → Nat} {out : List (List It)} {rs : List Nat} {ms : List GoL} (h : Tb w0 w G gs vS vG F out rs ms) {r : Nat} (hr : r ∈ rs) : r < w.heap.size := by
  obtain ⟨i, hi⟩ := List.getElem?_of_mem hr
  have hlt := (List.getElem?_eq_some_iff.1 hi).1
  obtain ⟨m, hm⟩ : ∃ m, ms[i]? = some m := ⟨_, List.getElem?_eq_getElem (by rw [← h.ln]; exact hlt)⟩
  exact (h.mp i r m hi hm).lt
theorem isM_new {w : World} {r : Nat} (h : w.heap[r]? = some (.map #[] 0)) : IsM (Value.int .u8) natV w r [] := ⟨#[], 0, h, rfl, Go.MapKept.stamped_empty 0⟩
theorem goA_start {L : Nat → Int} {R : Nat → ByteArray} {n : Nat} {out : List (List It)} {ms : List GoL} {x : Nat} {st : List It} (h : GoA L R n out ms (fun _ => lets)) (hx : ms.length = x) (hst : out[x]? = some st) : GoA L R n out (ms ++ [[]]) (fun i => if i = x then lets.take 0 else lets) := fun i s m h1 h2 => by
  show GoM L R n out s (if i = x then lets.take 0 else lets) m
  by_cases e : i = x
  · subst e
    rw [if_pos rfl]
    rw [← hx, List.getElem?_append_right (Nat.le_refl _)] at h2
    simp at h2
    subst h2
    exact GoM.start out s
  · rw [if_neg e]
    have hi : i < ms.length := by
      have := (List.getElem?_eq_some_iff.1 h2).1
      simp at this
      omega
    rw [List.getElem?_append_left hi] at h2
    exact h i s m h1 h2
theorem letC_conv (G : Nat) (W : World) (u : Value) : (convert 74 74 (.slice (some ⟨W.heap.size, 0, none⟩) 9 9)).run Tryd.prog ((W.setCell ⟨G, 2, none⟩ u).alloc (.cells #[.int .u8 65, .int .u8 66, .int .u8 67, .int .u8 68, .int .u8 69, .int .u8 97, .int .u8 98, .int .u8 99, .int .u8 100] 5)) = .ok (.slice (some ⟨W.heap.size, 0, none⟩) 9 9) ((W.setCell ⟨G, 2, none⟩ u).alloc (.cells #[.int .u8 65, .int .u8 66, .int .u8 67, .int .u8 68, .int .u8 69, .int .u8 97, .int .u8 98, .int .u8 99, .int .u8 100] 5 (9, 10))) :=
  Go.Joins.run_convert_bytes_const_at (P := Tryd.prog) (W.setCell ⟨G, 2, none⟩ u) 74 5 letC 9 9 W.heap.size (by simp [World.setCell]) Tryd.underlying74 Tryd.underlying5
theorem Lv.kept {W wr w1 : World} {H : Nat} {v : Value} {l : List It} (h : Lv W wr H v l) (hg : wr.grownBy w1 v.ownBlock) : w1.heap[H]? = some (.cells #[v] 121 (0, 0)) := by
  obtain ⟨i1, ho1⟩ := Kd.R_own h.row
  refine (hg.block H h.lt fun e => ?_).trans h.blk
  obtain ⟨cs, hc⟩ := own_typed ho1 H e.symm
  rw [h.blk] at hc
  injection hc with hc
  injection hc with _ hc
  exact absurd hc (by decide)
theorem ki_up {w : World} {B : Nat} {ok : Nat → Prop} (a b : Nat) : KI.M w B ok (a, b + 1) [.int .i64 (a : Nat), .int .i64 ((b : Int) + 1)] := ki_rep (a, b + 1)
theorem ri_ir {B : Nat} {w : World} {A : Option Addr} {m c : Nat} {l : List It} (h : RI B w (.slice A m c) l) : Ir w A l.length c l := by
  obtain ⟨A', c', e, hI⟩ := ki_read h
  injection e with e1 e2 e3
  subst e1 e3
  exact hI
theorem state_len {L : Nat → Int} {R : Nat → ByteArray} {n : Nat} (h4 : R4 R n) (hn : n ≤ 8) {s : List It} (h : Asc s ∧ ∀ x ∈ s, Fits L R n x) : s.length ≤ 45 := by
  have := list_le (n := n) (l := s) (h.1.imp fun {a b} h e => by rw [e] at h; omega) (fun x hx => ⟨(h.2 x hx).1, (h.2 x hx).lt5 h4⟩)
  omega
theorem ovr_ne {L : Nat → Int} {R : Nat → ByteArray} {n : Nat} (h4 : R4 R n) {st : List It} (hs : ∀ x ∈ st, Fits L R n x) {c : Int} (hc : c ≠ 0) (h : nxt L R n st c ≠ []) : ovr L R n st c ≠ [] := by
  obtain ⟨y, hy⟩ := List.exists_mem_of_ne_nil _ h
  have : y ∈ ovr L R n st c := (clo_mem h4 (nxt_fits hs hc)).2 (inC_of hy)
  intro e
  rw [e] at this
  cases this
theorem goA_at {L : Nat → Int} {R : Nat → ByteArray} {n : Nat} {out : List (List It)} {ms : List GoL} {x k : Nat} (h : GoA L R n out ms (fun i => if i = x then lets.take k else lets)) {i : Nat} {s : List It} {m : GoL} (h1 : out[i]? = some s) (h2 : ms[i]? = some m) : GoM L R n out s (if i = x then lets.take k else lets) m := h i s m h1 h2
theorem goA_skip {L : Nat → Int} {R : Nat → ByteArray} {n : Nat} {out : List (List It)} {ms : List GoL} {x k : Nat} {st : List It} {z : Int} (h : GoA L R n out ms (fun i => if i = x then lets.take k else lets)) (hz : lets[k]? = some z) (hst : out[x]? = some st) (hn : nxt L R n st z = []) : GoA L R n out ms (fun i => if i = x then lets.take (k + 1) else lets) := fun i s m h1 h2 => by
  show GoM L R n out s (if i = x then lets.take (k + 1) else lets) m
  have := goA_at h h1 h2
  by_cases e : i = x
  · subst e
    rw [if_pos rfl] at this ⊢
    rw [hst] at h1
    injection h1 with h1
    subst h1
    rw [take_succ_of hz]
    exact this.skip hn
  · rw [if_neg e] at this ⊢
    exact this
theorem goA_put {L : Nat → Int} {R : Nat → ByteArray} {n : Nat} {out : List (List It)} {ms : List GoL} {x k : Nat} {st : List It} {z : Int} {mx : GoL} (h : GoA L R n out ms (fun i => if i = x then lets.take k else lets)) (hz : lets[k]? = some z) (hst : out[x]? = some st) (hm : ms[x]? = some mx) (hn : nxt L R n st z ≠ []) (ho : ovr L R n st z ∈ out) : GoA L R n out (ms.set x (putL mx z (leadsTo L R n out st z))) (fun i => if i = x then lets.take (k + 1) else lets) := fun i s m h1 h2 => by
  show GoM L R n out s (if i = x then lets.take (k + 1) else lets) m
  by_cases e : i = x
  · subst e
    rw [if_pos rfl]
    rw [hst] at h1
    injection h1 with h1
    subst h1
    rw [List.getElem?_set_self (List.getElem?_eq_some_iff.1 hm).1] at h2
    injection h2 with h2
    subst h2
    rw [take_succ_of hz]
    have := goA_at h hst hm
    rw [if_pos rfl] at this
    exact this.put hn ho
  · rw [if_neg e]
    rw [List.getElem?_set_ne (Ne.symm e)] at h2
    have := goA_at h h1 h2
    rw [if_neg e] at this
    exact this
theorem leads_new {L : Nat → Int} {R : Nat → ByteArray} {n : Nat} {out : List (List It)} {st : List It} {c : Int} (h : ovr L R n st c ∉ out) : leadsTo L R n (out ++ [ovr L R n st c]) st c = out.length := by
  refine fnd_leads (by simp) fun j hj q => ?_
  rw [List.getElem?_append_left hj] at q
  exact h (List.mem_of_getElem? q)
set_option maxHeartbeats 32000000 in
set_option maxRecDepth 100000 in
theorem build_calls (A : Option Addr) (n c : Nat) (L : Nat → Int) (R : Nat → ByteArray) (w : World) (hA : Sr w A n c L R) (hg : Gr L R n) :
    Calls Tryd.prog 91 #[.slice A n c] w fun e w' => ((∃ G vS vG out rs ms, e = .returned (.tuple #[.pointer (some ⟨G, 0, none⟩), .int .i64 0]) ∧ StaI L R n out out.length ∧ Tb w w' G (.slice A n c) vS vG (nextN L R n 25) out rs ms ∧ GoA L R n out ms (fun _ => lets) ∧ ms.length = out.length) ∨ (stas L R n = none ∧ e = .returned (.tuple #[.pointer none, .int .i64 6]))) ∧ Below w.heap.size w w' := by
  have hn1 := hg.n1
  have hn8 := hg.n8
  have h4 : R4 R n := hg.sz
  obtain ⟨b, off, rfl, hnc, hP⟩ := hA.open hn1
  have HA := Lib.hid hA
  have HGR := Lib.hid hg
  have H4 := Lib.hid h4
  have HL0 := Lib.hid ((hg.ok 0 hn1).1)
  have HNX := Lib.hid (next_calls _ n c L R w hA hg)
  clear hA hg hP h4
  obtain ⟨F, hF⟩ : ∃ F, nextN L R n 25 = F := ⟨_, rfl⟩
  rw [hF] at HNX ⊢
  clear hF
  unfold agg5 at HNX
  obtain ⟨gs, hgs⟩ : ∃ gs, gs = Value.slice (some ⟨b, off, none⟩) n c := ⟨_, rfl⟩
  go_enter Tryd.func91, Tryd.ntmps91
  go_wp2_with fail
  refine HNX.out.mono ?_
  rintro e w1 ⟨rfl, hb1⟩
  have HB1 := Lib.hid hb1
  clear hb1 HNX
  go_wp2_with ((with_reducible refine gate_dst (N := 16) rfl ?_); refine box_event ?hg (N := 16) ?hd (cs := cells8 (.slice (some ⟨b, off, none⟩) n c) (.slice none 0 0) (.slice none 0 0) F) (t := 116) ?hr ?_; (case hd => rfl); (case hg => rfl); (case hr => first | (unfold cells8; go_simp; done) | (unfold cells8; go_simp; rfl)); intro G hG w2 hw2 hb2; have HGB := Lib.hid hw2; have HGE := Lib.hid hG; have HB2 := Lib.hid (below_step HB1.out hb2); clear hG hw2 hb2)
  have HGL : Hid (w.heap.size ≤ G) := Lib.hid (by rw [HGE.out]; exact HB1.out.size)
  have hGlt := (Array.getElem?_eq_some_iff.1 HGB.out).1
  have hbL := below_one (w := w2) (.cells #[.int .i64 (n : Nat), .int .i64 ((0 : Nat) : Nat)] 122)
  have HB3 := Lib.hid (HB2.out.trans (hbL.mono HB2.out.size))
  have HRI := Lib.hid (ri_lit w2 (B := w.heap.size) HB2.out.size (n, 0))
  have HGB3 := Lib.hid ((hbL.block _ hGlt).trans HGB.out)
  have HNE : Hid (G ≠ w2.heap.size) := Lib.hid (Nat.ne_of_lt hGlt)
  clear hbL hGlt HB1
  go_wp2_with fail
  refine (closure_calls _ n c L R (fun x => x = (n, 0)) w _ _ [(n, 0)] HA.out HGR.out HB3.out HRI.out (by simp) (by simp) (fun y => by simp) sta0_fits).mono ?_
  rintro e w4 ⟨v, rfl, hcl⟩
  rw [show (clo L R n fun x => x = (n, 0)) = sta0 L R n from rfl] at hcl
  obtain ⟨A4, c4, e4⟩ := Kd.R_slice hcl.row
  subst e4
  have hGB4 : w4.heap[G]? = some (.cells (cells8 (.slice (some ⟨b, off, none⟩) n c) (.slice none 0 0) (.slice none 0 0) F) 116 (0, 0)) := (hcl.gr.block G (Array.getElem?_eq_some_iff.1 HGB3.out).1 (fun e => by
    have : G = w2.heap.size := by simpa [Value.ownBlock] using e
    exact HNE.out this)).trans HGB3.out
  have HT := Lib.hid (Tb.first hGB4 hcl.row hcl.bl HGL.out)
  have HB4 := Lib.hid hcl.bl
  have hbA := below_one (w := w4) (.cells #[.slice A4 (sta0 L R n).length c4] 121)
  have hG5 := (hbA.block _ (Array.getElem?_eq_some_iff.1 hGB4).1).trans hGB4
  have g1 := blk_cell hG5 1
  have g2 := blk_frozen hG5 1
  simp only [cells8] at g1
  simp at g1
  clear hcl hGB4 hbA hG5 HGB HGB3 HRI HB3 HB2 HNE HGE
  clear HB4
  have HSI := Lib.hid (StaI.start (L := L) (R := R) (n := n) H4.out)
  have HGA : Hid (GoA L R n [sta0 L R n] [] (fun _ => lets)) := Lib.hid (fun i st m h1 h2 => by simp at h2)
  go_wp2_with fail
  clear g1 g2
  rw [← hgs] at HT
  generalize (w4.alloc (.cells #[.slice A4 (sta0 L R n).length c4] 121)).setCell ⟨G, 1, none⟩ (.slice (some ⟨w4.heap.size, 0, none⟩) 1 1) = w5 at HT ⊢
  generalize (Value.slice (some ⟨w4.heap.size, 0, none⟩) 1 1) = vS0 at HT ⊢
  go_loopw [5] (fun i wr => ∃ (x : Nat) (vS vG : Value) (out : List (List It)) (rs : List Nat) (ms : List GoL), i = .int .i64 x ∧ x ≤ 64 ∧ Hid (StaI L R n out x) ∧ Hid (Tb w wr G gs vS vG F out rs ms) ∧ Hid (GoA L R n out ms (fun _ => lets)) ∧ Hid (ms.length = x)) (fun i _ => 65 - (intOf i).toNat)
  case atStart => exact ⟨0, _, _, _, _, _, rfl, by omega, HSI, HT, HGA, Lib.hid rfl⟩
  case round =>
    clear HSI HT HGA
    obtain ⟨x, vS, vG, out, rs, ms, rfl, hx64, HSI, HT, HGA, HML⟩ := hrel
    obtain ⟨AS, cS, eS, hSt⟩ := ks_read HT.out.st
    subst eS
    have d1 := HT.out.c1
    by_cases hxl : x < out.length
    · have hxI : (x : Int) < (out.length : Int) := by omega
      obtain ⟨st, hst⟩ : ∃ st, out[x]? = some st := ⟨_, List.getElem?_eq_getElem hxl⟩
      have HST := Lib.hid hst
      have HSK := Lib.hid (HSI.out.row hst)
      obtain ⟨AG, cG, eG⟩ := Kd.R_slice HT.out.go
      subst eG
      have hol := HSI.out.le
      have hrl : rs.length ≤ 64 := by have := HT.out.ln; have := HML.out; omega
      have d2 := HT.out.c2
      have d3 := HT.out.fz 2
      have hcv := letC_conv G
      clear hst hSt
      go_wp2_with (first | ((with_reducible refine gate_op (op := .makeMap 124 none) rfl ?_); refine map_make_event rfl 124 rfl ?_; intro r wm hr hm hb; have HMR := Lib.hid hm; have HTM := Lib.hid (HT.out.later hb); have HRE := Lib.hid hr; clear hm hb hr) | (at_builtin; refine Kd.R_append KM (w0 := w) w.heap.size rfl (.tmp 40) (.tmp 42) 114 124 (.map none) 8 rfl Tryd.underlying114 info124 rfl (by decide) (by decide) (.slice AG rs.length cG) rs r [.map (some r)] (fun _ => True) (fun _ => False) rfl rfl rfl (fun _ h => h.elim) (fun _ _ => trivial) HTM.out.go HTM.out.bl HTM.out.bl.size (by omega) ?_; intro v6 w6 hv hb hg hat; have hG6 := HTM.out.keptG hg; have k1 := blk_cell hG6 2; have k2 := blk_frozen hG6 2; simp only [cells8] at k1; simp at k1; have HT6 := Lib.hid (HTM.out.setG (isM_new HMR.out) (by rw [HRE.out]; exact HT.out.bl.size) (fun q => by have := HT.out.rs_lt q; rw [HRE.out] at this; omega) hv hb hg); obtain ⟨A6, c6, e6⟩ := Kd.R_slice hv; subst e6; clear hv hb hg hat hG6))
      have hbL := below_one (w := w6.setCell ⟨G, 2, none⟩ (.slice A6 (rs ++ [r]).length c6)) (.cells letC 5 (9, 10))
      have HT7 := Lib.hid (HT6.out.later hbL)
      have HLB := Lib.hid (blk_new (w6.setCell ⟨G, 2, none⟩ (.slice A6 (rs ++ [r]).length c6)) (.cells letC 5 (9, 10)))
      have hsz : (w6.setCell ⟨G, 2, none⟩ (.slice A6 (rs ++ [r]).length c6)).heap.size = w6.heap.size := by simp [World.setCell]
      rw [hsz] at HLB
      have HGA7 := Lib.hid (goA_start HGA.out HML.out HST.out)
      have HML7 : Hid ((ms ++ [[]]).length = x + 1) := Lib.hid (by rw [List.length_append, HML.out]; rfl)
      have HRX : Hid ((rs ++ [r])[x]? = some r) := Lib.hid (by
        have e : x = rs.length := by rw [HT.out.ln, HML.out]
        rw [e, List.getElem?_append_right (Nat.le_refl _)]
        simp)
      rw [show rs.length + 1 = (rs ++ [r]).length by simp]
      unfold letC at HLB HT7
      generalize (w6.setCell ⟨G, 2, none⟩ (.slice A6 (rs ++ [r]).length c6)).alloc (.cells #[.int .u8 65, .int .u8 66, .int .u8 67, .int .u8 68, .int .u8 69, .int .u8 97, .int .u8 98, .int .u8 99, .int .u8 100] 5 (9, 10)) = w7 at HLB HT7 ⊢
      have HLB : Hid (w7.heap[w6.heap.size]? = some (.cells letC 5 (9, 10))) := HLB
      generalize w6.heap.size = HL at HLB ⊢
      clear k1 k2 d1 d2 d3 hbL hsz HT6 HT HTM HMR HRE HGA HML hcv hrl hol HSI
      generalize (rs ++ [r]) = rs7 at HT7 HRX ⊢
      generalize (ms ++ [[]]) = ms7 at HT7 HGA7 HML7
      obtain ⟨AG7, cG7, eG7, hGm⟩ := km_read HT7.out.go
      injection eG7 with z1 z2 z3
      subst z1 z3
      obtain ⟨b7, o7, e7, hrc, -⟩ := hGm x r HRX.out
      subst e7
      have hxr : x < rs7.length := (List.getElem?_eq_some_iff.1 HRX.out).1
      clear hGm z2
      go_loopw [49] (fun i wr => ∃ (k : Nat) (vS : Value) (out : List (List It)) (ms : List GoL), i = .int .i64 k ∧ k ≤ 9 ∧ Hid (StaK L R n st out x k) ∧ Hid (Tb w wr G gs vS (.slice (some ⟨b7, o7, none⟩) rs7.length c6) F out rs7 ms) ∧ Hid (GoA L R n out ms (fun i => if i = x then lets.take k else lets)) ∧ Hid (ms.length = x + 1) ∧ Hid (wr.heap[HL]? = some (.cells letC 5 (9, 10)))) (fun i _ => 9 - (intOf i).toNat)
      case atStart => exact ⟨0, _, _, _, rfl, by omega, HSK, HT7, HGA7, HML7, HLB⟩
      case round =>
        clear HSK HT7 HGA7 HML7 HLB HST
        obtain ⟨k, vS, out, ms, rfl, hk9, HSK, HT, HGA, HML, HLB⟩ := hrel
        obtain ⟨AS, cS, eS, hSt⟩ := ks_read HT.out.st
        subst eS
        by_cases hkl : k < 9
        · have hkI : (k : Int) < 9 := by omega
          have a0 := letC_at HLB.out hkl
          obtain ⟨z, hz⟩ : ∃ z, lets[k]'hkl = z := ⟨_, rfl⟩
          rw [hz] at a0
          have HZ := Lib.hid hz
          have hx65 : x < out.length := (List.getElem?_eq_some_iff.1 HSK.out.at_).1
          have hbA := below_one (w := wr) (.cells #[.slice none 0 0] 121)
          have HLV := Lib.hid (Lv.start wr)
          obtain ⟨bS, oS, eS, hnS, hcS⟩ := hSt.open (by omega)
          subst eS
          obtain ⟨A', c', s0w, hI⟩ := hcS x st HSK.out.at_
          have s0 := (hbA.cell (p := ⟨bS, oS + x, none⟩) (World.block_lt_of_cell? _ _ s0w)).trans s0w
          have d1 := (HT.out.later hbA).c1
          have HIS := Lib.hid hI
          have HAW := Lib.hid (HA.out.later HT.out.bl)
          have HFS := Lib.hid ((HSK.out.fits st (List.mem_of_getElem? HSK.out.at_)).2)
          have HAS := Lib.hid ((HSK.out.fits st (List.mem_of_getElem? HSK.out.at_)).1)
          have hxcS : x < cS := by omega
          have hsl : st.length ≤ 45 := by
            have := list_le (n := n) (l := st) (HAS.out.imp fun {a b} h e => by rw [e] at h; omega) (fun x hx => ⟨(HFS.out x hx).1, (HFS.out x hx).lt5 H4.out⟩)
            omega
          have HStW := Lib.hid hSt
          have HBS : Hid (bS < wr.heap.size) := Lib.hid (World.block_lt_of_cell? _ _ s0w)
          have HZQ : Hid (lets[k]? = some z) := Lib.hid (by rw [List.getElem?_eq_getElem hkl, HZ.out])
          clear hz hSt hcS s0w hI hbA
          obtain ⟨W, hW⟩ : ∃ W, W = wr := ⟨_, rfl⟩
          subst hW
          go_wp2_with fail
          generalize W.alloc (.cells #[.slice none 0 0] 121) = wa at HLV ⊢
          have HLV : Hid (Lv W wa W.heap.size (.slice none 0 0) (nxt L R n (st.take 0) z)) := HLV
          obtain ⟨H, hH⟩ : ∃ H, W.heap.size = H := ⟨_, rfl⟩
          rw [hH] at HLV ⊢
          have HHH := Lib.hid hH
          clear s0 d1 a0 hH
          go_loopw [61] (fun j wr => ∃ (q : Nat) (v : Value), j = .int .i64 q ∧ q ≤ st.length ∧ Hid (Lv W wr H v (nxt L R n (st.take q) z))) (fun j _ => st.length - (intOf j).toNat)
          case atStart => exact ⟨0, _, rfl, by omega, HLV⟩
          case round =>
            clear HLV
            obtain ⟨q, v, rfl, hql, HLV⟩ := hrel
            obtain ⟨A5, c5, e5⟩ := Kd.R_slice HLV.out.row
            subst e5
            by_cases hqs : q < st.length
            · have hqI : (q : Int) < (st.length : Int) := by omega
              obtain ⟨b1, o1, e1, hm1, hP1⟩ := (HIS.out.later HLV.out.bl).open (by omega)
              subst e1
              obtain ⟨⟨y1, y2⟩, hy⟩ : ∃ y, st[q]? = some y := ⟨_, List.getElem?_eq_getElem hqs⟩
              have f0 := hP1.c0 q _ hy
              have f1 := hP1.c1 q _ hy
              simp only at f0 f1
              have HFY := Lib.hid (HFS.out (y1, y2) (List.mem_of_getElem? hy))
              have HNT := Lib.hid (nxt_take (L := L) (R := R) (n := n) hy z)
              have hqc : q < c' := by omega
              have hy4 : y2 ≤ 4 := Nat.le_trans HFY.out.2 (rs_le H4.out HFY.out.1)
              clear hy hP1
              have hbB := below_one (w := wr) (.cells #[.int .i64 (y1 : Nat), .int .i64 (y2 : Nat)] 122)
              obtain ⟨i0, i1⟩ := it_new wr 122 (y1 : Nat) (y2 : Nat)
              have HLV2 := Lib.hid (HLV.out.later hbB)
              clear hbB
              go_wp2_with fail
              refine (behind_calls _ n c L R (y1, y2) _ (HAW.out.later HLV2.out.bl) hn1 hn8 HFY.out H4.out HL0.out).mono ?_
              rintro e w4 ⟨rfl, hb4⟩
              have HLV4 := Lib.hid (HLV2.out.later hb4)
              have i0' := (hb4.cell (p := ⟨wr.heap.size, 0, none⟩) (World.block_lt_of_cell? _ _ i0)).trans i0
              have i1' := (hb4.cell (p := ⟨wr.heap.size, 1, none⟩) (World.block_lt_of_cell? _ _ i1)).trans i1
              clear hb4 HLV2 HLV i0 i1 f0 f1
              obtain ⟨zz, hzz⟩ : ∃ zz, bh L R n (y1, y2) = zz := ⟨_, rfl⟩
              rw [hzz] at HNT ⊢
              clear hzz
              by_cases hyz : zz = z
              · subst hyz
                rw [if_pos rfl] at HNT
                obtain ⟨l5, hl5⟩ : ∃ l5, nxt L R n (st.take q) zz = l5 := ⟨_, rfl⟩
                rw [hl5] at HNT HLV4
                have m0 := HLV4.out.c0
                have m1 := HLV4.out.fz
                have hl5l : l5.length ≤ 64 := by
                  rw [← hl5]
                  unfold nxt
                  rw [List.length_map]
                  refine Nat.le_trans (List.length_filter_le _ _) ?_
                  rw [List.length_take]
                  omega
                clear hl5
                go_wp2_with (at_builtin; refine Kd.R_append KI (w0 := W) W.heap.size rfl (.tmp 70) (.tmp 77) 121 122 (.agg #[.int .i64 0, .int .i64 0]) 16 rfl Tryd.underlying121 info122 rfl (by decide) (by decide) (.slice A5 l5.length c5) l5 (y1, y2 + 1) [.int .i64 (y1 : Nat), .int .i64 ((y2 : Int) + 1)] (fun _ => True) (fun _ => False) rfl rfl (ki_up y1 y2) (fun _ h => h.elim) (fun _ _ => trivial) HLV4.out.row HLV4.out.bl HLV4.out.bl.size (by omega) ?_; intro v6 w6 hv hb hg hat; have hG6 := HLV4.out.kept hg; have k1 := blk_cell hG6 0; have k2 := blk_frozen hG6 0; simp at k1; have HLV6 := Lib.hid (HLV4.out.set hv hb hg (by simp)); obtain ⟨A6, c6, e6⟩ := Kd.R_slice hv; subst e6; rw [show (l5 ++ [(y1, y2 + 1)]).length = l5.length + 1 by simp] at HLV6; clear hv hb hg hat hG6)
                refine ⟨⟨q + 1, _, by go_num, by omega, by rw [HNT.out]; exact HLV6⟩, by simp [intOf]; omega⟩
              · rw [if_neg hyz] at HNT
                go_wp2_with fail
                refine ⟨⟨q + 1, _, by go_num, by omega, by rw [HNT.out]; exact HLV4⟩, by simp [intOf]; omega⟩
            · obtain rfl : q = st.length := by omega
              rw [List.take_length] at HLV
              have hol := HSK.out.le
              by_cases hnx : nxt L R n st z = []
              · have e := HLV.out.nl hnx
                injection e with e1 e2 e3
                subst e1 e3
                have m0 := HLV.out.c0
                have hx : ∀ W : World, (binOp .eql 121 (.slice none (nxt L R n st z).length 0) (.slice none 0 0)).run Tryd.prog W = .ok (.bool true) W := fun W => Lib.run_eql_slice_nil (P := Tryd.prog) W 121 122 none (nxt L R n st z).length 0 0 0 Tryd.underlying121
                have HSK2 := Lib.hid (HSK.out.none_ hkl (by rw [HZ.out]; exact hnx))
                have HGA2 := Lib.hid (goA_skip HGA.out HZQ.out HSK.out.at_ hnx)
                have HT2 := Lib.hid (HT.out.later HLV.out.bl)
                have HLB2 := Lib.hid ((HLV.out.bl.block _ (Array.getElem?_eq_some_iff.1 HLB.out).1).trans HLB.out)
                clear hnx e2
                generalize (nxt L R n st z).length = lnx at m0 hx ⊢
                go_wp2_with fail
                refine ⟨⟨k + 1, _, out, ms, by go_num, by omega, HSK2, HT2, HGA2, HML, HLB2⟩, by simp [intOf]; omega⟩
              · have HNX := Lib.hid hnx
                have h0 : 0 < (nxt L R n st z).length := List.length_pos_iff.2 hnx
                obtain ⟨b5, o5, e5, hm5, -⟩ := (ri_ir HLV.out.row).open h0
                subst e5
                have m0 := HLV.out.c0
                have hx := fun W : World => Lib.run_eql_slice_nil (P := Tryd.prog) W 121 122 (some ⟨b5, o5, none⟩) (nxt L R n st z).length c5 0 0 Tryd.underlying121
                have hzn : z ≠ 0 := by rw [← HZ.out]; exact lets_ne hkl
                have HON := Lib.hid (ovr_ne H4.out HFS.out hzn hnx)
                have HOK := Lib.hid (ovr_ok H4.out HFS.out hzn)
                have HCL := Lib.hid (closure_calls _ n c L R (fun y => y ∈ nxt L R n st z) W wr _ (nxt L R n st z) HAW.out HGR.out HLV.out.bl HLV.out.row h0 (nxt_nodup HAS.out z) (fun y => Iff.rfl) (nxt_fits HFS.out hzn))
                rw [show (clo L R n fun y => y ∈ nxt L R n st z) = ovr L R n st z from rfl] at HCL
                have hol45 := state_len H4.out hn8 HOK.out
                clear hnx h0 hm5 hzn
                go_wp2_with fail
                refine HCL.out.mono ?_
                rintro e w8 ⟨v8, rfl, hcl⟩
                obtain ⟨A8, c8, e8⟩ := Kd.R_slice hcl.row
                subst e8
                have hG8 := HLV.out.kept hcl.gr
                have k1 := blk_cell hG8 0
                have k2 := blk_frozen hG8 0
                simp at k1
                have HLV8 := Lib.hid (HLV.out.set hcl.row hcl.bl hcl.gr HON.out)
                have HT8 := Lib.hid (HT.out.later HLV8.out.bl)
                have d1 := HT8.out.c1
                have HLB8 := Lib.hid ((HLV8.out.bl.block _ (Array.getElem?_eq_some_iff.1 HLB.out).1).trans HLB.out)
                clear hcl hG8 HLV HCL m0 hx
                obtain ⟨ov, hov⟩ : ∃ ov, ovr L R n st z = ov := ⟨_, rfl⟩
                rw [hov] at HLV8 HT8 HOK HON hol45 d1 HLB8 ⊢
                have HOV := Lib.hid hov
                clear hov
                go_wp2_with fail
                have hle : ∀ s ∈ out, s.length ≤ 1000 := fun s hs => Nat.le_trans (state_len H4.out hn8 (HSK.out.fits s hs)) (by decide)
                refine (idxS_calls (HStW.out.later HLV8.out.bl) (by omega) hle (by omega) HLV8.out.c0 (ri_ir HLV8.out.row)).mono ?_
                rintro e w9 ⟨⟨r', rfl, hf⟩, hb9⟩
                have HLV9 := Lib.hid (HLV8.out.later hb9)
                have HT9 := Lib.hid (HT8.out.later hb9)
                have HLB9 := Lib.hid ((hb9.block _ (Array.getElem?_eq_some_iff.1 HLB8.out).1).trans HLB8.out)
                obtain ⟨mx, hmx⟩ : ∃ mx, ms[x]? = some mx := ⟨_, List.getElem?_eq_getElem (by have := HML.out; omega)⟩
                have HMX := Lib.hid hmx
                clear hb9 HLV8 HT8 HLB8 d1 hle hmx k1 k2
                have d1 := HT9.out.c1
                rcases hf with ⟨rfl, hnew⟩ | ⟨k', rfl, hk', hat, hmem, hno⟩
                · have HNEW := Lib.hid hnew
                  clear hnew
                  have d4 := HLV9.out.c0
                  have HTd := Lib.hid (HT9.out.later (Below.refl _ w9).drew)
                  have HLVd := Lib.hid (HLV9.out.later (Below.refl _ w9).drew)
                  have HLBd := Lib.hid (((Below.refl _ w9).drew.block _ (Array.getElem?_eq_some_iff.1 HLB9.out).1).trans HLB9.out)
                  have HRO : Hid (Kd.R KI 122 w9.drew w.heap.size (fun k => W.heap.size ≤ k) (.slice A8 ov.length c8) ov) := Lib.hid (Kd.R_lower (Kd.R_mono (Kd.R_bound HLVd.out.row) (fun k hk => hk.2.1)) HT.out.bl.size)
                  have HNX2 : Hid (nxt L R n st (lets[k]'hkl) ≠ []) := Lib.hid (by rw [HZ.out]; exact HNX.out)
                  have HNW2 : Hid (ovr L R n st (lets[k]'hkl) ∉ out) := Lib.hid (by rw [HZ.out, HOV.out]; exact HNEW.out)
                  clear HT9 HLV9 HLB9
                  go_wp2_with fail
                  refine start_ (n := 11) (S := fun w' => w'.cell? ⟨G, 1, none⟩ = some (.slice (some ⟨bS, oS, none⟩) out.length cS) ∧ w'.cell? ⟨H, 0, none⟩ = some (.slice A8 ov.length c8)) (ds := [7,10]) #[false, false, false, false, false, false, false, false, false, false, false] (by kernel_rfl) rfl rfl ⟨by simpa using d1, by simpa using d4⟩ (fun hHeld => ?_)
                  refine pure_ (i := 0) (N := (some 98)) (v := ?_) (a' := ?_) #[true, false, false, false, false, false, false, false, false, false, false] rfl rfl (by kernel_rfl) (fun _ _ _ h => h) (Or.inl ⟨by rfl, ?_⟩) ?_ ?_
                  rotate_left
                  · intro w'; go_simp; first | done | with_reducible rfl
                  rotate_left
                  · simp only [Act.put, List.setIfInBounds_toArray, List.set_cons_zero, List.set_cons_succ, i64_w, i32_w]; rfl
                  refine pure_ (i := 1) (N := (some 99)) (v := ?_) (a' := ?_) #[true, true, false, false, false, false, false, false, false, false, false] rfl rfl (by kernel_rfl) (fun _ _ _ h => h) (Or.inl ⟨by rfl, ?_⟩) ?_ ?_
                  rotate_left
                  · intro w'; go_simp; first | done | with_reducible rfl
                  rotate_left
                  · simp only [Act.put, List.setIfInBounds_toArray, List.set_cons_zero, List.set_cons_succ, i64_w, i32_w]; rfl
                  refine pure_ (i := 2) (N := (some 100)) (v := ?_) (a' := ?_) #[true, true, true, false, false, false, false, false, false, false, false] rfl rfl (by kernel_rfl) (fun _ _ _ h => h) (Or.inl ⟨by rfl, ?_⟩) ?_ ?_
                  rotate_left
                  · intro w'; go_simp; first | done | with_reducible rfl
                  rotate_left
                  · simp only [Act.put, List.setIfInBounds_toArray, List.set_cons_zero, List.set_cons_succ, i64_w, i32_w]; rfl
                  refine pure_ (i := 3) (N := (some 101)) (v := ?_) (a' := ?_) #[true, true, true, true, false, false, false, false, false, false, false] rfl rfl (by kernel_rfl) (fun _ _ _ h => h) (Or.inl ⟨by rfl, ?_⟩) ?_ ?_
                  rotate_left
                  · intro w'; go_simp; first | done | with_reducible rfl
                  rotate_left
                  · simp only [Act.put, List.setIfInBounds_toArray, List.set_cons_zero, List.set_cons_succ, i64_w, i32_w]; rfl
                  refine take_ (i := 4) (N := (some 102)) (v := ?_) (a' := ?_) #[true, true, true, true, true, false, false, false, false, false, false] rfl rfl (by kernel_rfl) (fun _ _ _ h => h) (Or.inl ⟨by rfl, ?_⟩) hHeld ?_ ?_
                  rotate_left
                  · rintro w' ⟨s0, s1⟩; go_simp; first | done | with_reducible rfl
                  rotate_left
                  · simp only [Act.put, List.setIfInBounds_toArray, List.set_cons_zero, List.set_cons_succ, i64_w, i32_w]; rfl
                  refine take_ (i := 5) (N := (some 103)) (v := ?_) (a' := ?_) #[true, true, true, true, true, true, false, false, false, false, false] rfl rfl (by kernel_rfl) (fun _ _ _ h => h) (Or.inl ⟨by rfl, ?_⟩) hHeld ?_ ?_
                  rotate_left
                  · rintro w' ⟨s0, s1⟩; go_simp; first | done | with_reducible rfl
                  rotate_left
                  · simp only [Act.put, List.setIfInBounds_toArray, List.set_cons_zero, List.set_cons_succ, i64_w, i32_w]; rfl
                  refine one_ (i := 6) (N := (some 104)) #[true, true, true, true, true, true, true, false, false, false, false] rfl rfl (by kernel_rfl) (by decide) (fun K hK => ?_)
                  generalize w9.drew = wd at HTd HLVd HLBd HRO hHeld ⊢
                  obtain ⟨q1, q4⟩ := hHeld
                  have hbE := below_one (w := wd) (.cells #[.slice A8 ov.length c8] 121)
                  have p1 := (hbE.cell (p := ⟨G, 1, none⟩) (World.block_lt_of_cell? _ _ q1)).trans q1
                  have p4 := (hbE.cell (p := ⟨H, 0, none⟩) (World.block_lt_of_cell? _ _ q4)).trans q4
                  clear d1 d4 q1 q4 hbE
                  refine value_step (v := .slice (some ⟨wd.heap.size, 0, none⟩) 1 1) (w1 := wd.alloc (.cells #[.slice A8 ov.length c8] 121)) (by rfl) rfl (by go_simp) ?_
                  refine hK.out _ _ ⟨p1, p4⟩ (fun hHeld => ?_)
                  clear hK K
                  refine norm_ (a' := ?_) ?_ ?_
                  rotate_left
                  · show Act.put _ (some 104) _ = _; simp only [Act.put, List.setIfInBounds_toArray, List.set_cons_zero, List.set_cons_succ, i64_w, i32_w]; rfl
                  clear p1 p4 hHeld
                  refine last_ (i := 7) (N := (some 105)) #[true, true, true, true, true, true, true, true, false, false, false] rfl rfl (by kernel_rfl) (by decide) (fun K hK => ?_)
                  refine Kd.R_append_step KS (w0 := w) w.heap.size (by rfl) (.tmp 102) (.tmp 104) 62 121 (.slice none 0 0) 24 rfl Tryd.underlying62 info121 rfl (by decide) (by decide) (.slice (some ⟨bS, oS, none⟩) out.length cS) out ov [.slice A8 ov.length c8] (fun _ => True) (fun k => W.heap.size ≤ k) rfl rfl ⟨_, rfl, HRO.out⟩ (fun k hk => ⟨trivial, fun e => by
                    have e2 : k = bS := by simpa [Value.ownBlock] using e
                    have := HBS.out
                    omega⟩) (fun _ _ => trivial) HTd.out.st HTd.out.bl HTd.out.bl.size (by omega) ?_
                  intro v1 w11 hv hb hg hat
                  have hG11 := HTd.out.keptS hg HTd.out.blk (by decide)
                  have k1 := blk_cell hG11 1
                  have k2 := blk_frozen hG11 1
                  simp only [cells8] at k1
                  simp at k1
                  have HT11 := Lib.hid (HTd.out.setS hv hb hg)
                  have hne : HL ≠ G := fun e => by
                    have h1 := HLBd.out
                    rw [e, HTd.out.blk] at h1
                    injection h1 with h1
                    injection h1 with _ h1
                    exact absurd h1 (by decide)
                  have HLB11 := Lib.hid ((Below.heap_setCell w11 ⟨G, 1, none⟩ v1 HL hne).trans (HTd.out.keptS hg HLBd.out (by decide)))
                  obtain ⟨A11, c11, e11⟩ := Kd.R_slice hv
                  subst e11
                  clear hv hb hg hat hG11 hne
                  refine hK.out _ _ ?_
                  clear hK K
                  refine norm_ (a' := ?_) ?_ ?_
                  rotate_left
                  · show Act.put _ (some 105) _ = _; simp only [Act.put, List.setIfInBounds_toArray, List.set_cons_zero, List.set_cons_succ, i64_w, i32_w]; rfl
                  refine pure_ (i := 8) (N := (some 106)) (v := ?_) (a' := ?_) #[true, true, true, true, true, true, true, true, true, false, false] rfl rfl (by kernel_rfl) (fun _ _ _ h => h) (Or.inl ⟨by rfl, ?_⟩) ?_ ?_
                  rotate_left
                  · intro w'; go_simp; first | done | with_reducible rfl
                  rotate_left
                  · simp only [Act.put, List.setIfInBounds_toArray, List.set_cons_zero, List.set_cons_succ, i64_w, i32_w]; rfl
                  refine pure_ (i := 9) (N := (some 107)) (v := ?_) (a' := ?_) #[true, true, true, true, true, true, true, true, true, true, false] rfl rfl (by kernel_rfl) (fun _ _ _ h => h) (Or.inl ⟨by rfl, ?_⟩) ?_ ?_
                  rotate_left
                  · intro w'; go_simp; first | done | with_reducible rfl
                  rotate_left
                  · simp only [Act.put, List.setIfInBounds_toArray, List.set_cons_zero, List.set_cons_succ, i64_w, i32_w]; rfl
                  refine last_ (i := 10) (N := none) #[true, true, true, true, true, true, true, true, true, true, true] rfl rfl (by kernel_rfl) (by decide) (fun K hK => ?_)
                  refine skip_step (w1 := w11.setCell ⟨G, 1, none⟩ (.slice A11 (out ++ [ov]).length c11)) (by rfl) (by go_simp) ?_
                  refine hK.out _ _ ?_
                  clear hK K
                  refine norm_ (a' := ?_) ?_ ?_
                  rotate_left
                  · show Act.put _ none _ = _; simp only [Act.put, List.setIfInBounds_toArray, List.set_cons_zero, List.set_cons_succ, i64_w, i32_w]; rfl
                  refine done_ (by kernel_rfl) ?_
                  clear k1 k2
                  generalize w11.setCell ⟨G, 1, none⟩ (.slice A11 (out ++ [ov]).length c11) = w12 at HT11 HLB11 ⊢
                  have d1 := HT11.out.c1
                  rw [show (out ++ [ov]).length = out.length + 1 by simp] at HT11 d1
                  by_cases h64 : out.length < 64
                  · have h64I : ¬ (64 : Int) < ((out.length : Int) + 1) := by omega
                    have d2 := HT11.out.c2
                    obtain ⟨AG, cG, eG, hGm⟩ := km_read HT11.out.go
                    injection eG with z1 z2 z3
                    subst z1 z3
                    obtain ⟨b8, o8, e8, -, g7⟩ := hGm x r HRX.out
                    injection e8 with e8
                    injection e8 with e8 e9
                    subst e8 e9
                    have HISM := Lib.hid (HT11.out.mp x r mx HRX.out HMX.out)
                    have HSK2 := Lib.hid (HSK.out.new H4.out hkl HNX2.out HNW2.out h64)
                    rw [HZ.out, HOV.out] at HSK2
                    have hxc6 : x < c6 := by omega
                    clear hGm z2
                    go_wp2_with ((with_reducible refine gate_op (op := .mapUpdate 124 (.tmp 120) (.tmp 121) (.tmp 122)) rfl ?_); refine map_put_event rfl 124 (.tmp 120) (.tmp 121) (.tmp 122) (.inr rfl) Tryd.underlying124 (keyOk_int Tryd.underlying5) z out.length rfl rfl rfl HISM.out ?_; intro w10 hm10 hk10 hb10; have HT10 := Lib.hid (HT11.out.put HRX.out HMX.out hm10 hk10 (hb10 _ _ HT11.out.bl (HT11.out.lo r (List.mem_of_getElem? HRX.out)))); have HLB10 := Lib.hid ((hk10.2 HL (Array.getElem?_eq_some_iff.1 HLB11.out).1 (fun e => by obtain ⟨es, clock, hbm, -⟩ := HISM.out; rw [← e, HLB11.out] at hbm; cases hbm) (by simp)).trans HLB11.out); clear hm10 hk10 hb10)
                    have hmem : ovr L R n st z ∈ out ++ [ov] := by rw [HOV.out]; simp
                    have hat : (out ++ [ov])[x]? = some st := by rw [List.getElem?_append_left hx65]; exact HSK.out.at_
                    have HGA2 := Lib.hid (goA_put (HGA.out.snoc (l := ov) (by have := HML.out; omega)) HZQ.out hat HMX.out HNX.out hmem)
                    have hld : leadsTo L R n (out ++ [ov]) st z = out.length := by
                      have := leads_new (L := L) (R := R) (n := n) (out := out) (st := st) (c := z) (by rw [HOV.out]; exact HNEW.out)
                      rwa [HOV.out] at this
                    rw [hld] at HGA2
                    refine ⟨⟨k + 1, _, out ++ [ov], _, by go_num, by omega, HSK2, HT10, HGA2, Lib.hid (by rw [List.length_set]; exact HML.out), HLB10⟩, by simp [intOf]; omega⟩
                  · have h64I : (64 : Int) < ((out.length : Int) + 1) := by omega
                    have HFU := Lib.hid (HSK.out.full hkl HNX2.out HNW2.out h64)
                    go_wp2
                    go_ret2
                    exact ⟨.inr ⟨HFU.out, rfl⟩, HT11.out.bl⟩
                · have hkI2 : ¬ (k' : Int) < 0 := by omega
                  have HLD := Lib.hid (fnd_leads (L := L) (R := R) (n := n) (st := st) (c := z) (by rw [HOV.out]; exact hat) (by rw [HOV.out]; exact hno))
                  have HMEM : Hid (ovr L R n st z ∈ out) := Lib.hid (by rw [HOV.out]; exact hmem)
                  have d2 := HT9.out.c2
                  obtain ⟨AG, cG, eG, hGm⟩ := km_read HT9.out.go
                  injection eG with z1 z2 z3
                  subst z1 z3
                  obtain ⟨b8, o8, e8, -, g7⟩ := hGm x r HRX.out
                  injection e8 with e8
                  injection e8 with e8 e9
                  subst e8 e9
                  have HISM := Lib.hid (HT9.out.mp x r mx HRX.out HMX.out)
                  have HSK2 := Lib.hid (HSK.out.old hkl (by rw [HZ.out]; exact HMEM.out))
                  clear hat hmem hno hGm z2
                  have hxc6 : x < c6 := by omega
                  go_wp2_with ((with_reducible refine gate_op (op := .mapUpdate 124 (.tmp 120) (.tmp 121) (.tmp 122)) rfl ?_); refine map_put_event rfl 124 (.tmp 120) (.tmp 121) (.tmp 122) (.inr rfl) Tryd.underlying124 (keyOk_int Tryd.underlying5) z k' rfl rfl rfl HISM.out ?_; intro w10 hm10 hk10 hb10; have HT10 := Lib.hid (HT9.out.put HRX.out HMX.out hm10 hk10 (hb10 _ _ HT9.out.bl (HT9.out.lo r (List.mem_of_getElem? HRX.out)))); have HLB10 := Lib.hid ((hk10.2 HL (Array.getElem?_eq_some_iff.1 HLB9.out).1 (fun e => by obtain ⟨es, clock, hbm, -⟩ := HISM.out; rw [← e, HLB9.out] at hbm; cases hbm) (by simp)).trans HLB9.out); clear hm10 hk10 hb10)
                  have HGA2 := Lib.hid (goA_put HGA.out HZQ.out HSK.out.at_ HMX.out HNX.out HMEM.out)
                  rw [HLD.out] at HGA2
                  refine ⟨⟨k + 1, _, out, _, by go_num, by omega, HSK2, HT10, HGA2, Lib.hid (by rw [List.length_set]; exact HML.out), HLB10⟩, by simp [intOf]; omega⟩
        · obtain rfl : k = 9 := by omega
          have HSI9 := Lib.hid HSK.out.next
          have HGA9 : Hid (GoA L R n out ms (fun _ => lets)) := Lib.hid (fun i s m h1 h2 => by
            have := HGA.out i s m h1 h2
            have e9 : lets.take 9 = lets := rfl
            rw [e9] at this
            by_cases e : i = x
            · simpa [e] using this
            · simpa [e] using this)
          have hx65 : x < out.length := (List.getElem?_eq_some_iff.1 HSK.out.at_).1
          have hol := HSK.out.le
          clear hSt
          go_wp2_with fail
          refine ⟨⟨x + 1, _, _, _, _, _, by go_num, by omega, HSI9, HT, HGA9, HML⟩, by simp [intOf]; omega⟩
    · obtain rfl : x = out.length := by have := HSI.out.ile; omega
      clear hSt
      go_wp2
      go_ret2
      refine ⟨.inl ⟨G, _, _, _, _, _, rfl, HSI.out, hgs ▸ HT.out, HGA.out, HML.out⟩, HT.out.bl⟩
end Go.Proofs.YtjpfalanoifpbaaDoor.X
end

section
set_option linter.unusedVariables false
set_option linter.unusedSimpArgs false
namespace Go.Proofs.YtjpfalanoifpbaaDoor.X
open Go.RowKit Go.Proofs.YtjpfalanoifpbaaDoorW.PrintWords Go.Proofs.YtjpfalanoifpbaaDoorW.PrintLast Go.Proofs.YtjpfalanoifpbaaDoorW.PrintMore Go.Proofs.YtjpfalanoifpbaaDoor.T
def Made (L : Nat → Int) (R : Nat → ByteArray) (n : Nat) (gs : Value) (w w' : World) (G : Nat) (out : List (List It)) : Prop :=
  ∃ vS vG rs ms, StaI L R n out out.length ∧ Tb w w' G gs vS vG (nextN L R n 25) out rs ms ∧ GoA L R n out ms (fun _ => lets) ∧ ms.length = out.length
theorem Made.later {L : Nat → Int} {R : Nat → ByteArray} {n : Nat} {gs : Value} {w w' w2 : World} {G : Nat} {out : List (List It)} (h : Made L R n gs w w' G out) (hb : Below w'.heap.size w' w2) : Made L R n gs w w2 G out := by
  obtain ⟨vS, vG, rs, ms, h1, h2, h3, h4⟩ := h
  exact ⟨vS, vG, rs, ms, h1, h2.later hb, h3, h4⟩
theorem build_made (A : Option Addr) (n c : Nat) (L : Nat → Int) (R : Nat → ByteArray) (w : World) (hA : Sr w A n c L R) (hg : Gr L R n) :
    Calls Tryd.prog 91 #[.slice A n c] w fun e w' => ((∃ G out, e = .returned (.tuple #[.pointer (some ⟨G, 0, none⟩), .int .i64 0]) ∧ Made L R n (.slice A n c) w w' G out) ∨ (stas L R n = none ∧ e = .returned (.tuple #[.pointer none, .int .i64 6]))) ∧ Below w.heap.size w w' := by
  refine (build_calls A n c L R w hA hg).mono ?_
  rintro e w1 ⟨h | h, hb⟩
  · obtain ⟨G, vS, vG, out, rs, ms, he, h1, h2, h3, h4⟩ := h
    exact ⟨.inl ⟨G, out, he, vS, vG, rs, ms, h1, h2, h3, h4⟩, hb⟩
  · exact ⟨.inr h, hb⟩
set_option maxHeartbeats 2000000 in
set_option maxRecDepth 100000 in
theorem read_yes (A : Option Addr) (n c : Nat) (L : Nat → Int) (R : Nat → ByteArray) (w : World) (hA : Sr w A n c L R) (hg : Gram L R n) :
    Calls Tryd.prog 84 #[.slice A n c] w fun e w' => ((∃ G out W, e = .returned (.tuple #[.pointer (some ⟨G, 0, none⟩), .int .i64 0]) ∧ Made L R n (.slice A n c) W w' G out ∧ Below w.heap.size w W) ∨ (stas L R n = none ∧ e = .returned (.tuple #[.pointer none, .int .i64 6]))) ∧ Below w.heap.size w w' := by
  have HA := Lib.hid hA
  have HG := Lib.hid hg
  have h8 := hg.1.2
  have h4 : ∀ k, k < n → (R k).size ≤ 1000 := fun k hk => Nat.le_trans (hg.2 k hk).sz (by decide)
  have HV := Lib.hid (valid_calls A n c L R w hA (by omega) h4 true (by simp [hg]))
  clear hA hg h4
  go_enter Tryd.func84, Tryd.ntmps84
  go_wp2_with fail
  refine HV.out.mono ?_
  rintro e w1 ⟨rfl, hb1⟩
  have HB := Lib.hid hb1
  clear hb1
  go_wp2_with fail
  refine (build_made A n c L R w1 (HA.out.later HB.out) HG.out.gr).mono ?_
  rintro e w2 ⟨h | ⟨hn, rfl⟩, hb2⟩
  · obtain ⟨G, out, rfl, hM⟩ := h
    have HM := Lib.hid hM
    have HB2 := Lib.hid (HB.out.trans (hb2.mono HB.out.size))
    clear hM hb2
    go_wp2
    go_ret2
    exact ⟨.inl ⟨G, out, w1, rfl, HM.out, HB.out⟩, HB2.out⟩
  · have HN := Lib.hid hn
    have HB2 := Lib.hid (HB.out.trans (hb2.mono HB.out.size))
    clear hn hb2
    go_wp2
    go_ret2
    exact ⟨.inr ⟨HN.out, rfl⟩, HB2.out⟩
set_option maxHeartbeats 2000000 in
set_option maxRecDepth 100000 in
theorem read_no (A : Option Addr) (n c : Nat) (L : Nat → Int) (R : Nat → ByteArray) (w : World) (hA : Sr w A n c L R) (hn : n ≤ 1000) (hsz : ∀ k, k < n → (R k).size ≤ 1000) (hg : ¬ Gram L R n) :
    Calls Tryd.prog 84 #[.slice A n c] w fun e w' => e = .returned (.tuple #[.pointer none, .int .i64 2]) ∧ Below w.heap.size w w' := by
  have HV := Lib.hid (valid_calls A n c L R w hA hn hsz false (by simp [hg]))
  clear hA hg hsz
  go_enter Tryd.func84, Tryd.ntmps84
  go_wp2_with fail
  refine HV.out.mono ?_
  rintro e w1 ⟨rfl, hb1⟩
  have HB := Lib.hid hb1
  clear hb1
  go_wp2
  go_ret2
  exact ⟨rfl, HB.out⟩
set_option maxHeartbeats 2000000 in
set_option maxRecDepth 100000 in
theorem States_yes (A : Option Addr) (n c : Nat) (L : Nat → Int) (R : Nat → ByteArray) (w : World) (hA : Sr w A n c L R) (hg : Gram L R n) :
    Calls Tryd.prog 44 #[.slice A n c] w fun e w' => ((∃ A' c' out, e = .returned (.tuple #[.slice A' out.length c', .int .i64 0]) ∧ StaI L R n out out.length ∧ StR w' A' out.length c' out) ∨ (stas L R n = none ∧ e = .returned (.tuple #[.slice none 0 0, .int .i64 6]))) ∧ Below w.heap.size w w' := by
  have HR := Lib.hid (read_yes A n c L R w hA hg)
  clear hA hg
  go_enter Tryd.func44, Tryd.ntmps44
  go_wp2_with fail
  refine HR.out.mono ?_
  rintro e w1 ⟨h | ⟨hn, rfl⟩, hb1⟩
  · obtain ⟨G, out, W, rfl, ⟨vS, vG, rs, ms, h1, h2, -, -⟩, -⟩ := h
    have HB := Lib.hid hb1
    have HS := Lib.hid h1
    obtain ⟨A', c', rfl, hS⟩ := ks_read h2.st
    have HSR := Lib.hid hS
    have d1 := h2.c1
    clear hb1 h1 h2 hS
    go_wp2
    go_ret2
    exact ⟨.inl ⟨A', c', out, rfl, HS.out, HSR.out⟩, HB.out⟩
  · have HB := Lib.hid hb1
    have HN := Lib.hid hn
    clear hb1 hn
    go_wp2
    go_ret2
    exact ⟨.inr ⟨HN.out, rfl⟩, HB.out⟩
set_option maxHeartbeats 2000000 in
set_option maxRecDepth 100000 in
theorem States_no (A : Option Addr) (n c : Nat) (L : Nat → Int) (R : Nat → ByteArray) (w : World) (hA : Sr w A n c L R) (hn : n ≤ 1000) (hsz : ∀ k, k < n → (R k).size ≤ 1000) (hg : ¬ Gram L R n) :
    Calls Tryd.prog 44 #[.slice A n c] w fun e w' => e = .returned (.tuple #[.slice none 0 0, .int .i64 2]) ∧ Below w.heap.size w w' := by
  have HR := Lib.hid (read_no A n c L R w hA hn hsz hg)
  clear hA hg hsz
  go_enter Tryd.func44, Tryd.ntmps44
  go_wp2_with fail
  refine HR.out.mono ?_
  rintro e w1 ⟨rfl, hb1⟩
  have HB := Lib.hid hb1
  clear hb1
  go_wp2
  go_ret2
  exact ⟨rfl, HB.out⟩
end Go.Proofs.YtjpfalanoifpbaaDoor.X
end

section
set_option linter.unusedVariables false
set_option linter.unusedSimpArgs false
namespace Go.Proofs.YtjpfalanoifpbaaDoor.X
open Go.RowKit Go.Proofs.YtjpfalanoifpbaaDoorW.PrintWords Go.Proofs.YtjpfalanoifpbaaDoorW.PrintLast Go.Proofs.YtjpfalanoifpbaaDoorW.PrintMore Go.Proofs.YtjpfalanoifpbaaDoor.T
theorem conv_one (l : Int) (W : World) : (convert 74 9 (.slice (some ⟨W.heap.size, 0, none⟩) 1 1)).run Tryd.prog (W.alloc (.cells #[.int .u8 l] 5)) = .ok (.string (sg l)) (W.alloc (.cells #[.int .u8 l] 5)) := by
  have := run_convert_bytes_arg (P := Tryd.prog) (W.alloc (.cells #[.int .u8 l] 5)) 74 5 Tryd.underlying74 Tryd.underlying5 W.heap.size 0 1 1 [l] rfl (fun i hi => by
    obtain rfl : i = 0 := by omega
    simp) 9 Tryd.underlying9
  rw [this]
  rfl
def c45 (P : It → Bool) : Array Value := Array.ofFn (n := 45) fun q => .bool (P (q.val / 5, q.val % 5))
theorem c45_at (P : It → Bool) {i d : Nat} (hi : i < 9) (hd : d < 5) : (c45 P)[i * 5 + d]? = some (.bool (P (i, d))) := by
  unfold c45
  rw [Array.getElem?_ofFn, dif_pos (by omega)]
  rw [show (i * 5 + d) / 5 = i by omega, show (i * 5 + d) % 5 = d by omega]
def T45 (w : World) (g : Nat) (P : It → Bool) : Prop := w.heap[g]? = some (.cells (c45 P) 147 (0, 0))
theorem T45.later {w w' : World} {g : Nat} {P : It → Bool} (h : T45 w g P) (hb : Below w.heap.size w w') : T45 w' g P := (hb.block _ (Array.getElem?_eq_some_iff.1 h).1).trans h
theorem T45.at {w : World} {g : Nat} {P : It → Bool} (h : T45 w g P) {i d : Nat} (hi : i < 9) (hd : d < 5) : w.cell? ⟨g, i * 5 + d, none⟩ = some (.bool (P (i, d))) := by
  rw [blk_cell h]
  exact c45_at P hi hd
theorem info73 : (Tryd.prog.info? 73).map (fun i => (i.zero, i.size, i.bytes)) = some (some (.agg #[.int .i64 0, .int .i64 0]), 2, 16) := by kernel_rfl
end Go.Proofs.YtjpfalanoifpbaaDoor.X
end

section
set_option linter.unusedVariables false
set_option linter.unusedSimpArgs false
namespace Go.Proofs.YtjpfalanoifpbaaDoor.X
open Go.RowKit Go.Proofs.YtjpfalanoifpbaaDoorW.PrintWords Go.Proofs.YtjpfalanoifpbaaDoorW.PrintLast Go.Proofs.YtjpfalanoifpbaaDoorW.PrintMore Go.Proofs.YtjpfalanoifpbaaDoor.T
abbrev KS73 : Kd (List It) := Kd.slice 73 KI
abbrev RS73 (B : Nat) (w : World) (v : Value) (out : List (List It)) : Prop := Kd.R KS73 69 w B (fun _ => True) v out
theorem info69 : (Tryd.prog.info? 69).map (fun i => (i.zero, i.size, i.bytes)) = some (some (.slice none 0 0), 1, 24) := by kernel_rfl
end Go.Proofs.YtjpfalanoifpbaaDoor.X
end

section
set_option linter.unusedVariables false
set_option linter.unusedSimpArgs false
namespace Go.Proofs.YtjpfalanoifpbaaDoor.X
open Go.RowKit Go.Proofs.YtjpfalanoifpbaaDoorW.PrintWords Go.Proofs.YtjpfalanoifpbaaDoorW.PrintLast Go.Proofs.YtjpfalanoifpbaaDoorW.PrintMore Go.Proofs.YtjpfalanoifpbaaDoor.T
set_option maxHeartbeats 8000000 in
set_option maxRecDepth 100000 in
theorem items_calls {A : Option Addr} {n c : Nat} {out : List (List It)} {w : World} (h1 : StR w A n c out) (hn : n ≤ 1000) (hle : ∀ s ∈ out, s.length ≤ 1000) :
    Calls Tryd.prog 47 #[.slice A n c] w fun e w' => (∃ v, e = .returned v ∧ RS73 w.heap.size w' v out) ∧ Below w.heap.size w w' := by
  have H1 := Lib.hid h1
  have HL := Lib.hid hle
  have HNO := Lib.hid h1.1
  clear h1 hle
  go_enter Tryd.func47, Tryd.ntmps47
  go_wp2_with fail
  have HR : Hid (RS73 w.heap.size w (.slice none 0 0) (out.take 0)) := Lib.hid (Kd.R_nil _ _ _ _ _)
  have HB := Lib.hid (Below.refl w.heap.size w)
  go_loopw [11, 3] (fun i v wr => ∃ k : Nat, k ≤ n ∧ i = .int .i64 k ∧ Hid (RS73 w.heap.size wr v (out.take k)) ∧ Hid (Below w.heap.size w wr)) (fun i _ _ => n - (intOf i).toNat)
  case atStart => exact ⟨0, by omega, rfl, HR, HB⟩
  case round =>
    clear HR HB
    obtain ⟨k, hk, rfl, HR, HB⟩ := hrel
    by_cases hkl : k < n
    · have hkI : (k : Int) < (n : Int) := by omega
      obtain ⟨b1, o1, e1, hn1, hP1⟩ := (H1.out.later HB.out).open (by omega)
      subst e1
      obtain ⟨x, hx⟩ : ∃ x, out[k]? = some x := ⟨_, List.getElem?_eq_getElem (by have := HNO.out; omega)⟩
      obtain ⟨A3, c3, f0, hI3⟩ := hP1 k x hx
      have hxl := HL.out x (List.mem_of_getElem? hx)
      have HTK := Lib.hid (take_succ_of hx)
      have HI := Lib.hid hI3
      have hk1 : k < c := by omega
      obtain ⟨AS, cS, eS⟩ := Kd.R_slice HR.out
      subst eS
      have htl : (out.take k).length = k := by rw [List.length_take]; have := HNO.out; omega
      rw [htl] at HR ⊢
      obtain ⟨xs, hxs⟩ : ∃ xs, out.take k = xs := ⟨_, rfl⟩
      rw [hxs] at HR HTK htl
      obtain ⟨W, hW⟩ : ∃ W, W = wr := ⟨_, rfl⟩
      subst hW
      have HBS : Hid (∀ j, (Value.slice AS k cS).ownBlock = some j → j < W.heap.size) := Lib.hid (Kd.R_lt HR.out)
      have HRI : Hid (Kd.R KI 73 W W.heap.size (fun _ => True) (.slice none 0 0) (x.take 0)) := Lib.hid (Kd.R_nil _ _ _ _ _)
      have HBI := Lib.hid (Below.refl W.heap.size W)
      clear hx hP1 hI3 hxs
      go_wp2_with fail
      clear f0
      go_loopw [17, 6] (fun i v wr => ∃ q : Nat, q ≤ x.length ∧ i = .int .i64 q ∧ Hid (Kd.R KI 73 wr W.heap.size (fun _ => True) v (x.take q)) ∧ Hid (Below W.heap.size W wr)) (fun i _ _ => x.length - (intOf i).toNat)
      case atStart => exact ⟨0, by omega, rfl, HRI, HBI⟩
      case round =>
        clear HRI HBI
        obtain ⟨q, hq, rfl, HRI, HBI⟩ := hrel
        obtain ⟨A5, c5, e5⟩ := Kd.R_slice HRI.out
        subst e5
        have hql : (x.take q).length = q := by rw [List.length_take]; omega
        rw [hql] at HRI ⊢
        by_cases hqx : q < x.length
        · have hqI : (q : Int) < (x.length : Int) := by omega
          obtain ⟨b6, o6, e6, hm6, hP6⟩ := (HI.out.later HBI.out).open (by omega)
          subst e6
          obtain ⟨⟨p, d⟩, hy⟩ : ∃ y, x[q]? = some y := ⟨_, List.getElem?_eq_getElem hqx⟩
          have g0 := hP6.c0 q _ hy
          have g1 := hP6.c1 q _ hy
          simp only at g0 g1
          have HTQ := Lib.hid (take_succ_of hy)
          have hqc : q < c3 := by omega
          have hbA := below_one (w := wr) (.cells #[.int .i64 (p : Nat), .int .i64 (d : Nat)] 122)
          obtain ⟨i0, i1⟩ := it_new wr 122 (p : Nat) (d : Nat)
          have HR2 := Lib.hid (Kd.R_below HRI.out hbA)
          have HB2 := Lib.hid (HBI.out.trans (hbA.mono HBI.out.size))
          obtain ⟨ys, hys⟩ : ∃ ys, x.take q = ys := ⟨_, rfl⟩
          rw [hys] at HR2 HTQ hql
          clear hy hP6 hbA hys HRI HBI
          go_upto_region 9 with fail
          generalize wr.alloc (.cells #[.int .i64 (p : Nat), .int .i64 (d : Nat)] 122) = wa at i0 i1 HR2 HB2 ⊢
          generalize wr.heap.size = G8 at i0 i1 ⊢
          go_wp2_with (at_builtin; refine Kd.R_append KI (w0 := W) W.heap.size rfl (.tmp 21) (.tmp 27) 69 73 (.agg #[.int .i64 0, .int .i64 0]) 16 rfl Tryd.underlying69 info73 rfl (by decide) (by decide) (.slice A5 q c5) ys (p, d) [.int .i64 (p : Nat), .int .i64 (d : Nat)] (fun _ => True) (fun _ => False) rfl rfl (ki_rep (p, d)) (fun _ h => h.elim) (fun _ _ => trivial) HR2.out HB2.out HB2.out.size (by omega) ?_; intro v6 w6 hv hb hg hat; have HR6 := Lib.hid hv; have HB6 := Lib.hid hb; clear hv hb hg hat)
          refine ⟨⟨q + 1, by omega, by go_num, by rw [HTQ.out]; exact HR6, HB6⟩, by simp [intOf]; omega⟩
        · obtain rfl : q = x.length := by omega
          rw [List.take_length] at HRI
          have HRO : Hid (Kd.R KI 73 wr w.heap.size (fun k => W.heap.size ≤ k) (.slice A5 x.length c5) x) := Lib.hid (Kd.R_lower (Kd.R_mono (Kd.R_bound HRI.out) (fun k hk => hk.2.1)) HB.out.size)
          have HR2 := Lib.hid (Kd.R_below HR.out HBI.out)
          have HB2 := Lib.hid (HB.out.trans (HBI.out.mono HB.out.size))
          clear HRI HBI
          go_wp2_with (at_builtin; refine Kd.R_append KS73 (w0 := w) w.heap.size rfl (.tmp 30) (.tmp 32) 65 69 (.slice none 0 0) 24 rfl Tryd.underlying65 info69 rfl (by decide) (by decide) (.slice AS k cS) xs x [.slice A5 x.length c5] (fun _ => True) (fun k => W.heap.size ≤ k) rfl rfl ⟨_, rfl, HRO.out⟩ (fun j hj => ⟨trivial, fun e => by have := HBS.out j e.symm; omega⟩) (fun _ _ => trivial) HR2.out HB2.out HB2.out.size (by omega) ?_; intro v7 w7 hv hb hg hat; have HR7 := Lib.hid hv; have HB7 := Lib.hid hb; clear hv hb hg hat)
          refine ⟨⟨k + 1, by omega, by go_num, by rw [HTK.out]; exact HR7, HB7⟩, by simp [intOf]; omega⟩
    · obtain rfl : k = n := by omega
      rw [show out.take k = out from by rw [HNO.out, List.take_length]] at HR
      go_wp2
      go_ret
      exact ⟨⟨_, rfl, HR.out⟩, HB.out⟩
end Go.Proofs.YtjpfalanoifpbaaDoor.X
end

section
set_option linter.unusedVariables false
set_option linter.unusedSimpArgs false
namespace Go.Proofs.YtjpfalanoifpbaaDoor.X
open Go.RowKit Go.Proofs.YtjpfalanoifpbaaDoorW.PrintWords Go.Proofs.YtjpfalanoifpbaaDoorW.PrintLast Go.Proofs.YtjpfalanoifpbaaDoorW.PrintMore Go.Proofs.YtjpfalanoifpbaaDoor.T
theorem sta_same {L : Nat → Int} {R : Nat → ByteArray} {n : Nat} {o1 o2 : List (List It)} (h1 : StaI L R n o1 o1.length) (h2 : StaI L R n o2 o2.length) : o1 = o2 := by
  have a := h1.done
  rw [h2.done] at a
  injection a with a
  exact a.symm
theorem sta_not {L : Nat → Int} {R : Nat → ByteArray} {n : Nat} {o1 : List (List It)} (h1 : StaI L R n o1 o1.length) (h2 : stas L R n = none) : False := by
  have a := h1.done
  rw [h2] at a
  cases a
theorem sta_len {L : Nat → Int} {R : Nat → ByteArray} {n : Nat} {out : List (List It)} (h4 : R4 R n) (hn : n ≤ 8) (h : StaI L R n out out.length) : ∀ s ∈ out, s.length ≤ 1000 := fun s hs => Nat.le_trans (state_len h4 hn (h.fits s hs)) (by decide)
end Go.Proofs.YtjpfalanoifpbaaDoor.X
end

section
set_option linter.unusedVariables false
set_option linter.unusedSimpArgs false
namespace Go.Proofs.YtjpfalanoifpbaaDoor.X
open Go.RowKit Go.Proofs.YtjpfalanoifpbaaDoorW.PrintWords Go.Proofs.YtjpfalanoifpbaaDoorW.PrintLast Go.Proofs.YtjpfalanoifpbaaDoorW.PrintMore Go.Proofs.YtjpfalanoifpbaaDoor.T
theorem letC_conv0 (W : World) : (convert 74 74 (.slice (some ⟨W.heap.size, 0, none⟩) 9 9)).run Tryd.prog (W.alloc (.cells #[.int .u8 65, .int .u8 66, .int .u8 67, .int .u8 68, .int .u8 69, .int .u8 97, .int .u8 98, .int .u8 99, .int .u8 100] 5)) = .ok (.slice (some ⟨W.heap.size, 0, none⟩) 9 9) (W.alloc (.cells #[.int .u8 65, .int .u8 66, .int .u8 67, .int .u8 68, .int .u8 69, .int .u8 97, .int .u8 98, .int .u8 99, .int .u8 100] 5 (9, 10))) :=
  Go.Joins.run_convert_bytes_const_at (P := Tryd.prog) W 74 5 letC 9 9 W.heap.size rfl Tryd.underlying74 Tryd.underlying5
set_option maxHeartbeats 4000000 in
set_option maxRecDepth 100000 in
theorem indexB_calls {w : World} {H : Nat} (h : w.heap[H]? = some (.cells letC 5 (9, 10))) (x : Int) (r : Bool) (hr : r = true ↔ x ∈ lets) :
    Calls Tryd.prog 108 #[.slice (some ⟨H, 0, none⟩) 9 9, .int .u8 x] w fun e w' => (∃ i : Int, e = .returned (.int .i64 i) ∧ (decide (0 ≤ i)) = r) ∧ w' = w := by
  have HH := Lib.hid h
  have HR := Lib.hid hr
  clear h hr
  go_enter Tryd.func108, Tryd.ntmps108
  go_wp2_with fail
  go_loopw [8] (fun i wr => ∃ k : Nat, k ≤ 9 ∧ i = .int .i64 k ∧ Hid (∀ j, j < k → lets[j]? ≠ some x) ∧ wr = w) (fun i _ => 9 - (intOf i).toNat)
  case atStart => exact ⟨0, by omega, rfl, Lib.hid (fun j h => by omega), rfl⟩
  case round =>
    obtain ⟨k, hk, rfl, HK, rfl⟩ := hrel
    by_cases hlt : k < 9
    · have hkI : (k : Int) < 9 := by omega
      have a0 := letC_at HH.out hlt
      have hzq : lets[k]? = some (lets[k]'hlt) := List.getElem?_eq_getElem hlt
      obtain ⟨z, hz⟩ : ∃ z, lets[k]'hlt = z := ⟨_, rfl⟩
      rw [hz] at a0 hzq
      have HZ := Lib.hid hzq
      clear hz hzq
      by_cases e : z = x
      · subst e
        have hrt : r = true := HR.out.2 (List.mem_of_getElem? HZ.out)
        have HRT := Lib.hid hrt
        clear hrt
        go_wp2
        go_ret
        exact ⟨⟨k, rfl, by rw [HRT.out]; simp⟩, rfl⟩
      · have e2 : ¬ x = z := fun q => e q.symm
        go_wp2_with fail
        refine ⟨⟨k + 1, by omega, by go_num, Lib.hid (fun j hj => ?_), by first | rfl | trivial⟩, by simp [intOf]; omega⟩
        by_cases q : j = k
        · rw [q, HZ.out]
          intro w
          injection w with w
          exact e w
        · exact HK.out j (by omega)
    · have hk9 : k = 9 := by omega
      have hkI : ¬ (k : Int) < 9 := by omega
      have hrf : r = false := by
        rw [Bool.eq_false_iff]
        intro q
        obtain ⟨j, hj⟩ := List.getElem?_of_mem (HR.out.1 q)
        have : j < 9 := (List.getElem?_eq_some_iff.1 hj).1
        exact HK.out j (by omega) hj
      have HRF := Lib.hid hrf
      clear hrf hk9
      go_wp2
      go_ret
      exact ⟨⟨-1, rfl, by rw [HRF.out]; rfl⟩, rfl⟩
set_option maxHeartbeats 1000000 in
set_option maxRecDepth 100000 in
theorem containsB_calls {w : World} {H : Nat} (h : w.heap[H]? = some (.cells letC 5 (9, 10))) (x : Int) (r : Bool) (hr : r = true ↔ x ∈ lets) :
    Calls Tryd.prog 88 #[.slice (some ⟨H, 0, none⟩) 9 9, .int .u8 x] w fun e w' => e = .returned (.bool r) ∧ w' = w := by
  have H0 := Lib.hid (indexB_calls h x r hr)
  clear h hr
  go_enter Tryd.func88, Tryd.ntmps88
  go_wp2_with fail
  refine H0.out.mono ?_
  rintro e w1 ⟨⟨i, rfl, hi⟩, rfl⟩
  have HI := Lib.hid hi
  clear hi
  go_wp2
  go_ret
  exact ⟨ret_bool HI.out, rfl⟩
def GoP (L : Nat → Int) (R : Nat → ByteArray) (n : Nat) (state letter x err : Int) : Prop :=
  (letter ∉ lets ∧ x = 0 ∧ err = 2) ∨ (letter ∈ lets ∧ ((stas L R n = none ∧ x = 0 ∧ err = 6) ∨ ∃ out, StaI L R n out out.length ∧ ((¬ (0 ≤ state ∧ state < out.length) ∧ x = 0 ∧ err = 2) ∨ ∃ (i : Nat) (st : List It), state = i ∧ out[i]? = some st ∧ ((nxt L R n st letter = [] ∧ x = 0 ∧ err = 4) ∨ (nxt L R n st letter ≠ [] ∧ ovr L R n st letter ∈ out ∧ x = leadsTo L R n out st letter ∧ err = 0)))))
set_option maxHeartbeats 8000000 in
set_option maxRecDepth 100000 in
theorem Go_yes (A : Option Addr) (n c : Nat) (L : Nat → Int) (R : Nat → ByteArray) (state letter : Int) (w : World) (hA : Sr w A n c L R) (hg : Gram L R n) :
    Calls Tryd.prog 49 #[.slice A n c, .int .i64 state, .int .u8 letter] w fun e w' => (∃ x err, e = .returned (.tuple #[.int .i64 x, .int .i64 err]) ∧ GoP L R n state letter x err) ∧ Below w.heap.size w w' := by
  have HA := Lib.hid hA
  have HG := Lib.hid hg
  obtain ⟨r, hr⟩ : ∃ r : Bool, r = true ↔ letter ∈ lets := ⟨decide (letter ∈ lets), by simp⟩
  have HR := Lib.hid hr
  have hcv := letC_conv0
  clear hA hg hr
  go_enter Tryd.func49, Tryd.ntmps49
  go_wp2_with fail
  have hbL := below_one (w := w) (.cells letC 5 (9, 10))
  have HLB := Lib.hid (blk_new w (.cells letC 5 (9, 10)))
  have HB := Lib.hid hbL
  unfold letC at HB HLB
  clear hbL hcv
  generalize w.alloc (.cells #[.int .u8 65, .int .u8 66, .int .u8 67, .int .u8 68, .int .u8 69, .int .u8 97, .int .u8 98, .int .u8 99, .int .u8 100] 5 (9, 10)) = w1 at HLB HB ⊢
  refine (containsB_calls HLB.out letter r HR.out).mono ?_
  rintro e w2 ⟨rfl, rfl⟩
  clear HLB
  cases r with
  | false =>
    have HN : Hid (letter ∉ lets) := Lib.hid (fun q => by have := HR.out.2 q; cases this)
    go_wp2
    go_ret2
    exact ⟨⟨_, _, rfl, .inl ⟨HN.out, rfl, rfl⟩⟩, HB.out⟩
  | true =>
    have HY := Lib.hid (HR.out.1 rfl)
    clear HR
    go_wp2_with fail
    refine (read_yes A n c L R w2 (HA.out.later HB.out) HG.out).mono ?_
    rintro e w3 ⟨h3, hb3⟩
    have HB3 := Lib.hid (HB.out.trans (hb3.mono HB.out.size))
    clear hb3 HB
    rcases h3 with ⟨G, out, W, rfl, hM, -⟩ | ⟨hno, rfl⟩
    · obtain ⟨vS, vG, rs, ms, hI, hT, hGA, hml⟩ := hM
      have HI := Lib.hid hI
      have HT := Lib.hid hT
      have HGA := Lib.hid hGA
      have HML := Lib.hid hml
      obtain ⟨AS, cS, eS⟩ := Kd.R_slice hT.st
      subst eS
      obtain ⟨AG, cG, eG, hGm⟩ := km_read hT.go
      subst eG
      have HGM := Lib.hid hGm
      have hrl : rs.length = out.length := by rw [hT.ln, hml]
      have d1 := hT.c1
      have d2 := hT.c2
      have hol := hI.le
      clear hI hT hGA hml hGm
      by_cases hst : 0 ≤ state ∧ state < out.length
      · obtain ⟨i, rfl⟩ := Int.eq_ofNat_of_zero_le hst.1
        have hio : i < out.length := by omega
        have hs1 : ¬ (i : Int) < 0 := by omega
        have hs2 : (i : Int) < (out.length : Int) := by omega
        obtain ⟨st, hs⟩ : ∃ st, out[i]? = some st := ⟨_, List.getElem?_eq_getElem hio⟩
        obtain ⟨r, hr⟩ : ∃ r, rs[i]? = some r := ⟨_, List.getElem?_eq_getElem (by omega)⟩
        obtain ⟨m, hm⟩ : ∃ m, ms[i]? = some m := ⟨_, List.getElem?_eq_getElem (by have := HML.out; omega)⟩
        obtain ⟨b7, o7, e7, hrc, c7⟩ := HGM.out i r hr
        subst e7
        have HST := Lib.hid hs
        have hgm := HGA.out i st m hs hm
        have HGO := Lib.hid hgm
        have hlk := run_lookup_is (P := Tryd.prog) Tryd.underlying124 (z := 0) zero3 (keyOk_int Tryd.underlying5) (HT.out.mp i r m hr hm) letter true
        rw [hgm.get, if_pos (show (true : Bool) = true from rfl)] at hlk
        have hic : i < cG := by omega
        have hirs : i < rs.length := by omega
        have hirI : (i : Int) < (rs.length : Int) := by omega
        clear hs hm hr hgm hst
        by_cases hnx : nxt L R n st letter = []
        · rw [if_neg (fun q => q.2 hnx)] at hlk
          have HNX := Lib.hid hnx
          simp only [Option.getD_none, Option.isSome_none, natV] at hlk
          clear hnx
          go_wp2
          go_ret2
          exact ⟨⟨_, _, rfl, .inr ⟨HY.out, .inr ⟨out, HI.out, .inr ⟨i, st, rfl, HST.out, .inl ⟨HNX.out, rfl, rfl⟩⟩⟩⟩⟩, HB3.out⟩
        · rw [if_pos ⟨HY.out, hnx⟩] at hlk
          have HNX := Lib.hid hnx
          have HMEM := Lib.hid (HGO.out.mem letter HY.out hnx)
          simp only [Option.getD_some, Option.isSome_some, natV] at hlk
          obtain ⟨x, hx⟩ : ∃ x, leadsTo L R n out st letter = x := ⟨_, rfl⟩
          rw [hx] at hlk
          have HX := Lib.hid hx
          clear hnx hx
          go_wp2
          go_ret2
          exact ⟨⟨_, _, rfl, .inr ⟨HY.out, .inr ⟨out, HI.out, .inr ⟨i, st, rfl, HST.out, .inr ⟨HNX.out, HMEM.out, by rw [HX.out], rfl⟩⟩⟩⟩⟩, HB3.out⟩
      · have HST := Lib.hid hst
        have hcs : state < 0 ∨ (¬ state < 0 ∧ ¬ state < (out.length : Int)) := by omega
        clear hst
        rcases hcs with hs1 | ⟨hs1, hs2⟩
        · go_wp2
          go_ret2
          exact ⟨⟨_, _, rfl, .inr ⟨HY.out, .inr ⟨out, HI.out, .inl ⟨HST.out, rfl, rfl⟩⟩⟩⟩, HB3.out⟩
        · go_wp2
          go_ret2
          exact ⟨⟨_, _, rfl, .inr ⟨HY.out, .inr ⟨out, HI.out, .inl ⟨HST.out, rfl, rfl⟩⟩⟩⟩, HB3.out⟩
    · have HNO := Lib.hid hno
      clear hno
      go_wp2
      go_ret2
      exact ⟨⟨_, _, rfl, .inr ⟨HY.out, .inl ⟨HNO.out, rfl, rfl⟩⟩⟩, HB3.out⟩
end Go.Proofs.YtjpfalanoifpbaaDoor.X
end

section
set_option linter.unusedVariables false
namespace Go.Proofs.YtjpfalanoifpbaaDoor.T
section
variable {L : Nat → Int} {R : Nat → ByteArray} {n : Nat}
structure Rch (L : Nat → Int) (R : Nat → ByteArray) (n : Nat) (out : List (List It)) : Prop where
  first : out[0]? = some (sta0 L R n)
  nd : out.Nodup
  from_ : ∀ i, 0 < i → i < out.length → ∃ j c st, j < i ∧ c ∈ lets ∧ out[j]? = some st ∧ nxt L R n st c ≠ [] ∧ out[i]? = some (ovr L R n st c)
theorem Rch.snoc {out : List (List It)} (h : Rch L R n out) {j : Nat} {st : List It} {c : Int} (hj : out[j]? = some st) (hc : c ∈ lets) (hn : nxt L R n st c ≠ []) (hno : ovr L R n st c ∉ out) : Rch L R n (out ++ [ovr L R n st c]) := by
  have hlt := (List.getElem?_eq_some_iff.1 hj).1
  refine ⟨by rw [List.getElem?_append_left (by omega)]; exact h.first, ?_, fun i hi hl => ?_⟩
  · rw [List.nodup_append]
    refine ⟨h.nd, by simp, fun a ha b hb e => ?_⟩
    rw [List.mem_singleton] at hb
    subst hb
    subst e
    exact hno ha
  · by_cases e : i = out.length
    · subst e
      exact ⟨j, c, st, hlt, hc, by rw [List.getElem?_append_left hlt]; exact hj, hn, by simp⟩
    · have hi2 : i < out.length := by
        rw [List.length_append] at hl
        simp at hl
        omega
      obtain ⟨j', c', st', h1, h2, h3, h4, h5⟩ := h.from_ i hi hi2
      exact ⟨j', c', st', h1, h2, by rw [List.getElem?_append_left (by omega)]; exact h3, h4, by rw [List.getElem?_append_left hi2]; exact h5⟩
theorem onC_spec {out o : List (List It)} {st : List It} {c : Int} (h : onC L R n out st c = some o) (h64 : out.length ≤ 64) {j : Nat} (hj : out[j]? = some st) (hc : c ∈ lets) (hr : Rch L R n out) : o.length ≤ 64 ∧ out <+: o ∧ Rch L R n o ∧ (nxt L R n st c ≠ [] → ovr L R n st c ∈ o) := by
  unfold onC at h
  split at h
  · rename_i e
    injection h with h
    subst h
    exact ⟨h64, List.prefix_refl _, hr, fun q => absurd e q⟩
  · rename_i hn
    split at h
    · rename_i hm
      injection h with h
      subst h
      exact ⟨h64, List.prefix_refl _, hr, fun _ => hm⟩
    · rename_i hm
      split at h
      · cases h
      · injection h with h
        subst h
        exact ⟨by rw [List.length_append]; simp; omega, List.prefix_append _ _, hr.snoc hj hc hn hm, fun _ => by simp⟩
theorem prefix_at {o p : List (List It)} (h : o <+: p) {j : Nat} {st : List It} (hj : o[j]? = some st) : p[j]? = some st := by
  obtain ⟨t, rfl⟩ := h
  rw [List.getElem?_append_left (List.getElem?_eq_some_iff.1 hj).1]
  exact hj
theorem prefix_mem {o p : List (List It)} (h : o <+: p) {s : List It} (hs : s ∈ o) : s ∈ p := by
  obtain ⟨t, rfl⟩ := h
  exact List.mem_append_left _ hs
theorem onL_spec {st : List It} {j : Nat} : ∀ {cs : List Int} {out o : List (List It)}, onL L R n st cs out = some o → (∀ c ∈ cs, c ∈ lets) → out.length ≤ 64 → out[j]? = some st → Rch L R n out → o.length ≤ 64 ∧ out <+: o ∧ Rch L R n o ∧ ∀ c ∈ cs, nxt L R n st c ≠ [] → ovr L R n st c ∈ o
  | [], out, o, h, _, h64, _, hr => by
    rw [onL] at h
    injection h with h
    subst h
    exact ⟨h64, List.prefix_refl _, hr, fun c hc => by cases hc⟩
  | c :: cs, out, o, h, hl, h64, hj, hr => by
    rw [onL] at h
    cases hq : onC L R n out st c with
    | none =>
      rw [hq] at h
      cases h
    | some p =>
      rw [hq] at h
      obtain ⟨a1, a2, a3, a4⟩ := onC_spec hq h64 hj (hl c (List.mem_cons_self ..)) hr
      obtain ⟨b1, b2, b3, b4⟩ := onL_spec (cs := cs) (out := p) (o := o) h (fun d hd => hl d (List.mem_cons_of_mem _ hd)) a1 (prefix_at a2 hj) a3
      refine ⟨b1, a2.trans b2, b3, fun d hd hn => ?_⟩
      rcases List.mem_cons.1 hd with e | e
      · subst e
        exact prefix_mem b2 (a4 hn)
      · exact b4 d e hn
def Done (L : Nat → Int) (R : Nat → ByteArray) (n : Nat) (out : List (List It)) (j : Nat) : Prop := ∀ st, out[j]? = some st → ∀ c ∈ lets, nxt L R n st c ≠ [] → ovr L R n st c ∈ out
theorem bld_spec : ∀ (f i : Nat) {out o : List (List It)}, bld L R n f i out = some o → 65 ≤ f + i → out.length ≤ 64 → i ≤ out.length → Rch L R n out → (∀ j, j < i → Done L R n out j) → Rch L R n o ∧ ∀ j, j < o.length → Done L R n o j
  | 0, i, out, o, h, hf, h64, hi, hr, hd => by omega
  | f + 1, i, out, o, h, hf, h64, hi, hr, hd => by
    rw [bld] at h
    split at h
    · rename_i hlt
      cases hq : onL L R n out[i] lets out with
      | none =>
        rw [hq] at h
        cases h
      | some p =>
        rw [hq] at h
        obtain ⟨a1, a2, a3, a4⟩ := onL_spec (j := i) hq (fun _ h => h) h64 (List.getElem?_eq_getElem hlt) hr
        have hlen := a2.length_le
        refine bld_spec f (i + 1) h (by omega) a1 (by omega) a3 fun j hj st hst c hc hn => ?_
        have hjo : out[j]? = some st := by
          obtain ⟨t, ht⟩ := a2
          rw [← ht, List.getElem?_append_left (by omega)] at hst
          exact hst
        by_cases e : j = i
        · subst e
          rw [List.getElem?_eq_getElem hlt] at hjo
          injection hjo with hjo
          rw [← hjo] at hn ⊢
          exact a4 c hc hn
        · exact prefix_mem a2 (hd j (by omega) st hjo c hc hn)
    · injection h with h
      subst h
      exact ⟨hr, fun j hj => hd j (by omega)⟩
theorem StaI.rch {out : List (List It)} (h : StaI L R n out out.length) : Rch L R n out ∧ ∀ j, j < out.length → Done L R n out j := by
  have := h.done
  unfold stas at this
  refine bld_spec 65 0 this (by omega) (by simp) (by omega) ⟨rfl, by simp, fun i hi hl => by simp at hl; omega⟩ fun j hj => by omega
theorem onC_ok (h4 : R4 R n) {out o : List (List It)} {st : List It} {c : Int} (h : onC L R n out st c = some o) (hc : c ≠ 0) (hst : ∀ x ∈ st, Fits L R n x) (h64 : out.length ≤ 64) (hf : ∀ s ∈ out, Asc s ∧ ∀ x ∈ s, Fits L R n x) : o.length ≤ 64 ∧ (∀ s ∈ o, Asc s ∧ ∀ x ∈ s, Fits L R n x) := by
  unfold onC at h
  split at h
  · injection h with h
    subst h
    exact ⟨h64, hf⟩
  · split at h
    · injection h with h
      subst h
      exact ⟨h64, hf⟩
    · split at h
      · cases h
      · injection h with h
        subst h
        refine ⟨by rw [List.length_append]; simp; omega, fun s hs => ?_⟩
        rcases List.mem_append.1 hs with q | q
        · exact hf s q
        · rw [List.mem_singleton] at q
          subst q
          exact ovr_ok h4 hst hc
theorem onL_ok (h4 : R4 R n) {st : List It} (hst : ∀ x ∈ st, Fits L R n x) : ∀ {cs : List Int} {out o : List (List It)}, onL L R n st cs out = some o → (∀ c ∈ cs, c ≠ 0) → out.length ≤ 64 → (∀ s ∈ out, Asc s ∧ ∀ x ∈ s, Fits L R n x) → o.length ≤ 64 ∧ (∀ s ∈ o, Asc s ∧ ∀ x ∈ s, Fits L R n x)
  | [], out, o, h, _, h64, hf => by
    rw [onL] at h
    injection h with h
    subst h
    exact ⟨h64, hf⟩
  | c :: cs, out, o, h, hl, h64, hf => by
    rw [onL] at h
    cases hq : onC L R n out st c with
    | none =>
      rw [hq] at h
      cases h
    | some p =>
      rw [hq] at h
      obtain ⟨a1, a2⟩ := onC_ok h4 hq (hl c (List.mem_cons_self ..)) hst h64 hf
      exact onL_ok h4 hst (cs := cs) (out := p) (o := o) h (fun d hd => hl d (List.mem_cons_of_mem _ hd)) a1 a2
theorem bld_ok (h4 : R4 R n) : ∀ (f i : Nat) {out o : List (List It)}, bld L R n f i out = some o → out.length ≤ 64 → (∀ s ∈ out, Asc s ∧ ∀ x ∈ s, Fits L R n x) → o.length ≤ 64 ∧ (∀ s ∈ o, Asc s ∧ ∀ x ∈ s, Fits L R n x)
  | 0, i, out, o, h, h64, hf => by
    rw [bld] at h
    injection h with h
    subst h
    exact ⟨h64, hf⟩
  | f + 1, i, out, o, h, h64, hf => by
    rw [bld] at h
    split at h
    · rename_i hlt
      cases hq : onL L R n out[i] lets out with
      | none =>
        rw [hq] at h
        cases h
      | some p =>
        rw [hq] at h
        obtain ⟨a1, a2⟩ := onL_ok h4 (hf _ (List.getElem_mem hlt)).2 hq (fun c hc => by simp [lets] at hc; omega) h64 hf
        exact bld_ok h4 f (i + 1) h a1 a2
    · injection h with h
      subst h
      exact ⟨h64, hf⟩
theorem sta_of (h4 : R4 R n) {out : List (List It)} (h : stas L R n = some out) : StaI L R n out out.length := by
  obtain ⟨a, b⟩ := bld_ok h4 65 0 (show bld L R n 65 0 [sta0 L R n] = some out from h) (by simp) (fun s hs => by rw [List.mem_singleton] at hs; subst hs; exact sta0_ok h4)
  refine ⟨a, b, ?_, Nat.le_refl _⟩
  rw [h, show 65 - out.length = (64 - out.length) + 1 by omega, bld, dif_neg (Nat.lt_irrefl _)]
def ahd (L : Nat → Int) (R : Nat → ByteArray) (n : Nat) (x : It) : Int := ch (rs L R n x.1) (x.2 - 1)
theorem ovr_ahd (h4 : R4 R n) {st : List It} (hs : ∀ x ∈ st, Fits L R n x) {c : Int} (hc : c ≠ 0) {x : It} (hx : x ∈ ovr L R n st c) : x.2 = 0 ∨ ahd L R n x = c := by
  refine inC_le (Q := fun x => x.2 = 0 ∨ ahd L R n x = c) (fun y hy => ?_) (fun y k _ _ _ => .inl rfl) ((clo_mem h4 (nxt_fits hs hc)).1 hx)
  unfold nxt at hy
  obtain ⟨z, hz, rfl⟩ := List.mem_map.1 hy
  rw [List.mem_filter] at hz
  have e : bh L R n z = c := by simpa using hz.2
  exact .inr e
theorem ovr_dot (h4 : R4 R n) {st : List It} (hs : ∀ x ∈ st, Fits L R n x) {c : Int} (hc : c ≠ 0) (hn : nxt L R n st c ≠ []) : ∃ x ∈ ovr L R n st c, x.2 ≠ 0 := by
  obtain ⟨y, hy⟩ := List.exists_mem_of_ne_nil _ hn
  refine ⟨y, (clo_mem h4 (nxt_fits hs hc)).2 (inC_of hy), ?_⟩
  unfold nxt at hy
  obtain ⟨z, hz, rfl⟩ := List.mem_map.1 hy
  exact Nat.succ_ne_zero _
theorem sta0_dot (h4 : R4 R n) {x : It} (hx : x ∈ sta0 L R n) : x.2 = 0 :=
  inC_le (Q := fun x => x.2 = 0) (fun y e => by rw [e]) (fun y k _ _ _ => rfl) ((clo_mem h4 sta0_fits).1 hx)
def hasDot (l : List It) : Bool := l.any fun x => x.2 != 0
theorem hasDot_snoc {l : List It} {q : Nat} {x : It} (h : l[q]? = some x) : hasDot (l.take (q + 1)) = (hasDot (l.take q) || (x.2 != 0)) := by
  unfold hasDot
  obtain ⟨hq, e⟩ := List.getElem?_eq_some_iff.1 h
  rw [List.take_add_one, h, List.any_append]
  simp
theorem lets_of {c : Int} (h : isP c = true) : c ∈ lets := by
  rw [isP_iff] at h
  have : c = 65 ∨ c = 66 ∨ c = 67 ∨ c = 68 ∨ c = 69 := by omega
  rcases this with rfl | rfl | rfl | rfl | rfl <;> simp [lets]
theorem lets_pos {c : Int} (h : c ∈ lets) : c ≠ 0 := by
  simp [lets] at h
  omega
theorem sta_two (h4 : R4 R n) (hn : 1 ≤ n) (hp : isP (L 0) = true) {out : List (List It)} (h : StaI L R n out out.length) : 2 ≤ out.length := by
  obtain ⟨hr, hd⟩ := h.rch
  have h0 := (List.getElem?_eq_some_iff.1 hr.first).1
  have hb : bh L R n (n, 0) = L 0 := by
    unfold bh rs
    rw [if_pos rfl]
    rw [isP_iff] at hp
    show ch (sg (L 0)) 0 = L 0
    have : L 0 = 65 ∨ L 0 = 66 ∨ L 0 = 67 ∨ L 0 = 68 ∨ L 0 = 69 := by omega
    rcases this with e | e | e | e | e <;> rw [e] <;> rfl
  have hm : (n, 0) ∈ sta0 L R n := (clo_mem h4 sta0_fits).2 (inC_of rfl)
  have hnx : nxt L R n (sta0 L R n) (L 0) ≠ [] := by
    intro e
    have : (n, 0 + 1) ∈ nxt L R n (sta0 L R n) (L 0) := List.mem_map.2 ⟨(n, 0), List.mem_filter.2 ⟨hm, by simp [hb]⟩, rfl⟩
    rw [e] at this
    cases this
  have hov := hd 0 h0 _ hr.first (L 0) (lets_of hp) hnx
  rcases Nat.lt_or_ge 1 out.length with q | q
  · exact q
  · have hl : out.length = 1 := by omega
    obtain ⟨i, hi⟩ := List.getElem?_of_mem hov
    have : i = 0 := by
      have := (List.getElem?_eq_some_iff.1 hi).1
      omega
    subst this
    rw [hr.first] at hi
    injection hi with hi
    obtain ⟨x, hx, hx0⟩ := ovr_dot h4 (sta0_ok (L := L) h4).2 (lets_pos (lets_of hp)) hnx
    rw [← hi] at hx
    exact absurd (sta0_dot h4 hx) hx0
theorem sta_letter (h4 : R4 R n) {out : List (List It)} (h : StaI L R n out out.length) {i : Nat} {st : List It} (hi : out[i]? = some st) : ∃ c ∈ lets, (∀ x ∈ st, x.2 = 0 ∨ ahd L R n x = c) ∧ hasDot st = decide (i ≠ 0) ∧ (i ≠ 0 → ∃ j sj, j < i ∧ out[j]? = some sj ∧ nxt L R n sj c ≠ [] ∧ ovr L R n sj c = st) := by
  obtain ⟨hr, hd⟩ := h.rch
  by_cases h0 : i = 0
  · subst h0
    rw [hr.first] at hi
    injection hi with hi
    subst hi
    refine ⟨65, by simp [lets], fun x hx => .inl (sta0_dot h4 hx), ?_, fun q => absurd rfl q⟩
    unfold hasDot
    rw [decide_eq_false (by simp), List.any_eq_false]
    intro x hx
    simp [sta0_dot h4 hx]
  · obtain ⟨j, c, sj, h1, h2, h3, h5, h6⟩ := hr.from_ i (by omega) (List.getElem?_eq_some_iff.1 hi).1
    rw [hi] at h6
    injection h6 with h6
    have hf := (h.fits sj (List.mem_of_getElem? h3)).2
    refine ⟨c, h2, fun x hx => ?_, ?_, fun _ => ⟨j, sj, h1, h3, h5, h6.symm⟩⟩
    · rw [h6] at hx
      exact ovr_ahd h4 hf (lets_pos h2) hx
    · rw [decide_eq_true h0]
      unfold hasDot
      rw [List.any_eq_true]
      obtain ⟨x, hx, hx0⟩ := ovr_dot h4 hf (lets_pos h2) h5
      rw [← h6] at hx
      exact ⟨x, hx, by simpa using hx0⟩
theorem nodup_place {out : List (List It)} (hn : out.Nodup) {i : Nat} {s : List It} (hi : out[i]? = some s) : ∀ j, j < i → out[j]? ≠ some s := by
  intro j hj e
  obtain ⟨h1, e1⟩ := List.getElem?_eq_some_iff.1 hi
  obtain ⟨h2, e2⟩ := List.getElem?_eq_some_iff.1 e
  unfold List.Nodup at hn
  rw [List.pairwise_iff_getElem] at hn
  exact hn j i h2 h1 hj (by rw [e1, e2])
end
end Go.Proofs.YtjpfalanoifpbaaDoor.T
end

section
set_option linter.unusedVariables false
set_option linter.unusedSimpArgs false
namespace Go.Proofs.YtjpfalanoifpbaaDoor.X
open Go.RowKit Go.Proofs.YtjpfalanoifpbaaDoorW.PrintWords Go.Proofs.YtjpfalanoifpbaaDoorW.PrintLast Go.Proofs.YtjpfalanoifpbaaDoorW.PrintMore Go.Proofs.YtjpfalanoifpbaaDoor.T
def ltr (c : Int) (b : Bool) : Int := if b = true then c else 0
set_option maxHeartbeats 16000000 in
set_option maxRecDepth 100000 in
theorem Reached_some (A : Option Addr) (n c : Nat) (L : Nat → Int) (R : Nat → ByteArray) (w : World) (hA : Sr w A n c L R) (hn : n ≤ 9223372036854775807) (hR : ∀ k, k < n → (R k).size ≤ 9223372036854775807) (hg : Gram L R n) (out : List (List It)) (hso : StaI L R n out out.length) :
    Calls Tryd.prog 10 #[.slice A n c] w fun e w' => e = .returned (.bool true) ∧ Below w.heap.size w w' := by
  have HO := Lib.hid (fun (w : World) (h : Sr w A n c L R) => Of_yes A n c L R w h hn hR hg)
  have HG := Lib.hid (fun (w : World) (h : Sr w A n c L R) => Grammar_calls A n c L R w h hn true (by simp [hg]))
  have HS := Lib.hid (fun (A' : Option Addr) (c' : Nat) (w : World) h => States_yes A' n c' L R w h hg)
  have HGO := Lib.hid (fun (A' : Option Addr) (c' : Nat) (state letter : Int) (w : World) h => Go_yes A' n c' L R state letter w h hg)
  have HA := Lib.hid hA
  have H4 : Hid (R4 R n) := Lib.hid hg.gr.sz
  have hn8 := hg.1.2
  have hn1 := hg.1.1
  have HSO := Lib.hid hso
  have hol := hso.le
  have ho2 := sta_two hg.gr.sz hn1 (hg.gr.ok 0 hn1).1 hso
  obtain ⟨b, off, rfl, hnc, hP⟩ := hA.open hn1
  have HP := Lib.hid hP
  clear hA hR hg hso hP
  go_enter Tryd.func10, Tryd.ntmps10
  go_wp2_with fail
  refine (HO.out w HA.out).mono ?_
  rintro e w1 ⟨⟨A1, c1, rfl, hS1⟩, hb1⟩
  have HB1 := Lib.hid hb1
  have HS1 := Lib.hid hS1
  clear hb1 hS1
  go_wp2_with fail
  refine (HS.out A1 c1 w1 HS1.out).mono ?_
  rintro e w2 ⟨h2, hb2⟩
  have HB2 := Lib.hid (HB1.out.trans (hb2.mono HB1.out.size))
  clear hb2 HB1 HS1 HS
  rcases h2 with ⟨A2, c2, out2, rfl, hI, hSt⟩ | ⟨hno, rfl⟩
  · obtain rfl := sta_same hI HSO.out
    have HT2 := Lib.hid hSt
    clear hI hSt
    go_wp2_with fail
    refine (HG.out w2 (HA.out.later HB2.out)).mono ?_
    rintro e w3 ⟨rfl, hb3⟩
    have HB3 := Lib.hid (HB2.out.trans (hb3.mono HB2.out.size))
    have HT3 := Lib.hid (HT2.out.later hb3)
    have ho2I : ¬ (out2.length : Int) < 2 := by omega
    have ho64I : ¬ (64 : Int) < (out2.length : Int) := by omega
    clear hb3 HB2 HT2 HG
    go_wp2_with fail
    refine (items_calls HT3.out (by omega) (sta_len H4.out hn8 HSO.out)).mono ?_
    rintro e w6 ⟨⟨v, rfl, hv⟩, hb6⟩
    obtain ⟨A6, c6, rfl, hS6⟩ := ks_read hv
    have HB6 := Lib.hid (HB3.out.trans (hb6.mono HB3.out.size))
    have HS6 := Lib.hid hS6
    clear hv hb6 hS6 HB3 HT3
    go_wp2_with fail
    have HBB := Lib.hid (Below.refl w6.heap.size w6)
    obtain ⟨W, hW⟩ : ∃ W, W = w6 := ⟨_, rfl⟩
    subst hW
    go_loopw [48] (fun i wr => ∃ k : Nat, k ≤ out2.length ∧ i = .int .i64 k ∧ Hid (Below W.heap.size W wr)) (fun i _ => out2.length - (intOf i).toNat)
    case atStart => exact ⟨0, by omega, rfl, HBB⟩
    case round =>
      clear HBB
      obtain ⟨i, hi, rfl, HBB⟩ := hrel
      by_cases hil : i < out2.length
      · have hiI : (i : Int) < (out2.length : Int) := by omega
        obtain ⟨b1, o1, e1, hn1', hP1⟩ := (HS6.out.later HBB.out).open (by omega)
        subst e1
        obtain ⟨st, hst⟩ : ∃ st, out2[i]? = some st := ⟨_, List.getElem?_eq_getElem hil⟩
        obtain ⟨A3, c3, f0, hI3⟩ := hP1 i st hst
        have HST := Lib.hid hst
        have hfs := HSO.out.fits st (List.mem_of_getElem? hst)
        have HFS := Lib.hid hfs.2
        have hsl := state_len H4.out hn8 hfs
        obtain ⟨z, hzl, hz1, hz2, hz3⟩ := sta_letter H4.out HSO.out hst
        have HZL := Lib.hid hzl
        have HZ1 := Lib.hid hz1
        have HZ2 := Lib.hid hz2
        have HZ3 := Lib.hid hz3
        have hzn := lets_pos hzl
        have HI3 := Lib.hid hI3
        have hic : i < c6 := by omega
        have HBW := Lib.hid (Below.refl wr.heap.size wr)
        obtain ⟨V, hV⟩ : ∃ V, V = wr := ⟨_, rfl⟩
        subst hV
        clear hst hP1 hI3 hfs hzl hz1 hz2 hz3
        go_wp2_with fail
        clear f0
        go_loopw [55, 7] (fun j v wr => ∃ q : Nat, q ≤ st.length ∧ j = .int .i64 q ∧ v = .int .u8 (ltr z (hasDot (st.take q))) ∧ Hid (Below V.heap.size V wr)) (fun j _ _ => st.length - (intOf j).toNat)
        case atStart => exact ⟨0, by omega, rfl, by simp [ltr, hasDot], HBW⟩
        case round =>
          clear HBW
          obtain ⟨q, hq, rfl, rfl, HBW⟩ := hrel
          by_cases hqs : q < st.length
          · have hqI : (q : Int) < (st.length : Int) := by omega
            obtain ⟨bI, oI, eI, hm1, hP3⟩ := (HI3.out.later HBW.out).open (by omega)
            subst eI
            obtain ⟨⟨y1, y2⟩, hy⟩ : ∃ y, st[q]? = some y := ⟨_, List.getElem?_eq_getElem hqs⟩
            have f0 := hP3.c0 q _ hy
            have f1 := hP3.c1 q _ hy
            simp only at f0 f1
            have HHD := Lib.hid (hasDot_snoc hy)
            have HFY := Lib.hid (HFS.out (y1, y2) (List.mem_of_getElem? hy))
            have HZY := Lib.hid (HZ1.out (y1, y2) (List.mem_of_getElem? hy))
            have hy1 : y1 ≤ n := HFY.out.1
            have hy2 : y2 ≤ (rs L R n y1).size := HFY.out.2
            have hqc : q < c3 := by omega
            have hy1I : ¬ (n : Int) < (y1 : Int) := by omega
            have g0 := (HP.out.later (HB6.out.trans ((HBB.out.trans (HBW.out.mono HBB.out.size)).mono HB6.out.size))).c0 0 hn1
            obtain ⟨l0, hl0⟩ : ∃ l0, L 0 = l0 := ⟨_, rfl⟩
            rw [hl0] at g0
            simp only [Nat.zero_mul, Nat.add_zero] at g0
            have hsz := rs_le (L := L) H4.out hy1
            have hc0 : 0 < c := by omega
            have HHQ : Hid (y2 = 0 → hasDot (st.take (q + 1)) = hasDot (st.take q)) := Lib.hid (fun e => by rw [HHD.out, e]; simp)
            have HHR : Hid (y2 ≠ 0 → hasDot (st.take (q + 1)) = true) := Lib.hid (fun e => by rw [HHD.out]; simp [e])
            have HAH : Hid (y2 ≠ 0 → ch (rs L R n y1) (y2 - 1) = z) := Lib.hid (fun e => HZY.out.resolve_left e)
            have hzz : ltr z (hasDot (st.take q)) = 0 ∨ ltr z (hasDot (st.take q)) = z := by
              cases hasDot (st.take q)
              · exact .inl rfl
              · exact .inr rfl
            have HLQ : Hid (y2 = 0 → ltr z (hasDot (st.take (q + 1))) = ltr z (hasDot (st.take q))) := Lib.hid (fun e => by rw [HHQ.out e])
            have HLR : Hid (y2 ≠ 0 → ltr z (hasDot (st.take (q + 1))) = z) := Lib.hid (fun e => by rw [HHR.out e]; rfl)
            obtain ⟨zz, hzze⟩ : ∃ zz, ltr z (hasDot (st.take q)) = zz := ⟨_, rfl⟩
            rw [hzze] at hzz HLQ ⊢
            have hbA := below_one (w := wr) (.cells #[.int .i64 (y1 : Nat), .int .i64 (y2 : Nat)] 73)
            obtain ⟨i0, i1⟩ := it_new wr 73 (y1 : Nat) (y2 : Nat)
            have HBA := Lib.hid (HBW.out.trans (hbA.mono HBW.out.size))
            have g0a := (hbA.cell (p := ⟨b, off, none⟩) (World.block_lt_of_cell? _ _ g0)).trans g0
            clear hy hP3 hbA HHD HHQ HHR HZY hzze g0
            go_upto_region 13 with fail
            generalize wr.alloc (.cells #[.int .i64 (y1 : Nat), .int .i64 (y2 : Nat)] 73) = wa at i0 i1 HBA g0a ⊢
            generalize wr.heap.size = H9 at i0 i1 ⊢
            have hcv := conv_one l0 wa
            have hbB := below_one (w := wa) (.cells #[.int .u8 l0] 5)
            have j0 := (hbB.cell (p := ⟨H9, 0, none⟩) (World.block_lt_of_cell? _ _ i0)).trans i0
            have j1 := (hbB.cell (p := ⟨H9, 1, none⟩) (World.block_lt_of_cell? _ _ i1)).trans i1
            have HBX := Lib.hid (HBA.out.trans (hbB.mono HBA.out.size))
            clear hbB f0 f1
            obtain ⟨s, hs⟩ : ∃ s, rs L R n y1 = s := ⟨_, rfl⟩
            rw [hs] at hy2 hsz HAH
            by_cases hyn : y1 < n
            · have hynI : (y1 : Int) < (n : Int) := by omega
              have g1 := (HP.out.later (HB6.out.trans ((HBB.out.trans (HBX.out.mono HBB.out.size)).mono HB6.out.size))).c1 y1 hyn
              have hsr : R y1 = s := by
                rw [← hs]
                unfold rs
                rw [if_neg (by omega)]
              rw [hsr] at g1
              have hyc : y1 < c := by omega
              clear hs hsr
              by_cases hy0 : y2 = 0
              · have HE := Lib.hid (HLQ.out hy0)
                subst hy0
                go_wp2_with fail
                refine ⟨⟨q + 1, by omega, by go_num, by rw [HE.out], HBX⟩, by simp [intOf]; omega⟩
              · have HE := Lib.hid (HLR.out hy0)
                have hah := HAH.out hy0
                obtain ⟨m, rfl⟩ : ∃ m, y2 = m + 1 := ⟨y2 - 1, by omega⟩
                rw [Nat.add_sub_cancel] at hah
                have hms : m < s.size := by omega
                have hbt : (((s[m]'hms).toNat : Nat) : Int) = z := (ch_at s m hms).trans hah
                clear hah
                rcases hzz with rfl | rfl
                · go_wp2_with fail
                  refine ⟨⟨q + 1, by omega, by go_num, by rw [HE.out], HBX⟩, by simp [intOf]; omega⟩
                · go_wp2_with fail
                  refine ⟨⟨q + 1, by omega, by go_num, by rw [HE.out], HBX⟩, by simp [intOf]; omega⟩
            · have hynI : ¬ (y1 : Int) < (n : Int) := by omega
              have hsr : sg l0 = s := by
                rw [← hs]
                unfold rs
                rw [if_pos (by omega), hl0]
              rw [hsr] at hcv
              clear hs hsr
              by_cases hy0 : y2 = 0
              · have HE := Lib.hid (HLQ.out hy0)
                subst hy0
                go_wp2_with fail
                refine ⟨⟨q + 1, by omega, by go_num, by rw [HE.out], HBX⟩, by simp [intOf]; omega⟩
              · have HE := Lib.hid (HLR.out hy0)
                have hah := HAH.out hy0
                obtain ⟨m, rfl⟩ : ∃ m, y2 = m + 1 := ⟨y2 - 1, by omega⟩
                rw [Nat.add_sub_cancel] at hah
                have hms : m < s.size := by omega
                have hbt : (((s[m]'hms).toNat : Nat) : Int) = z := (ch_at s m hms).trans hah
                clear hah
                rcases hzz with rfl | rfl
                · go_wp2_with fail
                  refine ⟨⟨q + 1, by omega, by go_num, by rw [HE.out], HBX⟩, by simp [intOf]; omega⟩
                · go_wp2_with fail
                  refine ⟨⟨q + 1, by omega, by go_num, by rw [HE.out], HBX⟩, by simp [intOf]; omega⟩
          · obtain rfl : q = st.length := by omega
            rw [List.take_length]
            have hzz : (i = 0 ∧ ltr z (hasDot st) = 0) ∨ (i ≠ 0 ∧ ltr z (hasDot st) = z) := by
              rw [HZ2.out]
              by_cases e : i = 0
              · exact .inl ⟨e, by rw [decide_eq_false (by omega)]; rfl⟩
              · exact .inr ⟨e, by rw [decide_eq_true e]; rfl⟩
            obtain ⟨zz, hzze⟩ : ∃ zz, ltr z (hasDot st) = zz := ⟨_, rfl⟩
            rw [hzze] at hzz ⊢
            clear hzze
            have HNL : Hid (∀ j : Nat, j < 0 → ∀ sj, out2[j]? = some sj → nxt L R n sj z ≠ [] → leadsTo L R n out2 sj z ≠ i) := Lib.hid (fun j hj => by omega)
            rcases hzz with ⟨hi0, rfl⟩ | ⟨hi0, rfl⟩
            · have hie : ((i : Int) == 0) = true := by simp [hi0]
              have HI0 := Lib.hid hi0
              clear hi0
              go_wp2_with fail
              go_loopw [124, 11] (fun j f wr => ∃ k : Nat, k ≤ i ∧ j = .int .i64 k ∧ f = .bool true ∧ Hid (Below V.heap.size V wr)) (fun j _ _ => i - (intOf j).toNat)
              case atStart => exact ⟨0, by omega, rfl, by first | rfl | simp, HBW⟩
              case round =>
                clear HBW
                obtain ⟨k, hk, rfl, rfl, HBW⟩ := hrel
                have hkI : ¬ (k : Int) < (i : Int) := by have := HI0.out; omega
                have HBB2 := Lib.hid (HBB.out.trans (HBW.out.mono HBB.out.size))
                go_wp2_with fail
                refine ⟨⟨i + 1, by omega, by go_num, HBB2⟩, by simp [intOf]; omega⟩
            · have hie : ((i : Int) == 0) = false := by simp [hi0]
              have hze : ((zz : Int) == 0) = false := by simp [hzn]
              have HI0 := Lib.hid hi0
              clear hi0
              go_wp2_with fail
              go_loopw [124, 11] (fun j f wr => ∃ k : Nat, k ≤ i ∧ j = .int .i64 k ∧ f = .bool false ∧ Hid (Below V.heap.size V wr) ∧ Hid (∀ j : Nat, j < k → ∀ sj, out2[j]? = some sj → nxt L R n sj zz ≠ [] → leadsTo L R n out2 sj zz ≠ i)) (fun j _ _ => i - (intOf j).toNat)
              case atStart => exact ⟨0, by omega, rfl, by first | rfl | simp, HBW, HNL⟩
              case round =>
                clear HBW HNL
                obtain ⟨k, hk, rfl, rfl, HBW, HNL⟩ := hrel
                by_cases hki : k < i
                · have hkI : (k : Int) < (i : Int) := by omega
                  go_wp2_with fail
                  refine (HO.out wr (HA.out.later (HB6.out.trans ((HBB.out.trans (HBW.out.mono HBB.out.size)).mono HB6.out.size)))).mono ?_
                  rintro e w4 ⟨⟨A4, c4, rfl, hS4⟩, hb4⟩
                  have HB4 := Lib.hid (HBW.out.trans (hb4.mono HBW.out.size))
                  have HS4 := Lib.hid hS4
                  clear hb4 hS4
                  go_wp2_with fail
                  refine (HGO.out A4 c4 (k : Nat) zz w4 HS4.out).mono ?_
                  rintro e w5 ⟨⟨x, err, rfl, hgp⟩, hb5⟩
                  have HB5 := Lib.hid (HB4.out.trans (hb5.mono HB4.out.size))
                  clear hb5 HB4 HS4
                  rcases hgp with ⟨hnl, -⟩ | ⟨-, ⟨hno, -⟩ | ⟨out3, hs3, ⟨hnn, -⟩ | ⟨k', sj, he, hsj, ⟨hnx, rfl, rfl⟩ | ⟨hnx, hmem, rfl, rfl⟩⟩⟩⟩
                  · exact absurd HZL.out hnl
                  · exact absurd (sta_not HSO.out hno) id
                  · obtain rfl := sta_same hs3 HSO.out
                    exact absurd ⟨by omega, by omega⟩ hnn
                  · obtain rfl := sta_same hs3 HSO.out
                    have hkk : k = k' := by omega
                    subst hkk
                    have HNL2 : Hid (∀ j : Nat, j < k + 1 → ∀ sj, out3[j]? = some sj → nxt L R n sj zz ≠ [] → leadsTo L R n out3 sj zz ≠ i) := Lib.hid (fun j hj s hs hx => by
                      by_cases e : j = k
                      · subst e
                        rw [hsj] at hs
                        injection hs with hs
                        subst hs
                        exact absurd hnx hx
                      · exact HNL.out j (by omega) s hs hx)
                    clear he hsj hnx hs3
                    go_wp2_with fail
                    refine ⟨⟨k + 1, by omega, by go_num, rfl, HB5, HNL2⟩, by simp [intOf]; omega⟩
                  · obtain rfl := sta_same hs3 HSO.out
                    have hkk : k = k' := by omega
                    subst hkk
                    by_cases hx : leadsTo L R n out3 sj zz = i
                    · rw [hx]
                      have HBB2 := Lib.hid (HBB.out.trans (HB5.out.mono HBB.out.size))
                      clear he hsj hnx hmem hx hs3
                      go_wp2_with fail
                      refine ⟨⟨i + 1, by omega, by go_num, HBB2⟩, by simp [intOf]; omega⟩
                    · have HNL2 : Hid (∀ j : Nat, j < k + 1 → ∀ sj, out3[j]? = some sj → nxt L R n sj zz ≠ [] → leadsTo L R n out3 sj zz ≠ i) := Lib.hid (fun j hj s hs hx2 => by
                        by_cases e : j = k
                        · subst e
                          rw [hsj] at hs
                          injection hs with hs
                          subst hs
                          exact hx
                        · exact HNL.out j (by omega) s hs hx2)
                      obtain ⟨y, hy⟩ : ∃ y, leadsTo L R n out3 sj zz = y := ⟨_, rfl⟩
                      rw [hy] at hx ⊢
                      have hyI : ((y : Int) == (i : Int)) = false := by simp; omega
                      clear he hsj hnx hmem hy hs3
                      go_wp2_with fail
                      refine ⟨⟨k + 1, by omega, by go_num, rfl, HB5, HNL2⟩, by simp [intOf]; omega⟩
                · exfalso
                  obtain ⟨j, sj, h1, h2, h3, h5⟩ := HZ3.out HI0.out
                  refine HNL.out j (by omega) sj h2 h3 (fnd_leads ?_ ?_)
                  · rw [h5]
                    exact HST.out
                  · rw [h5]
                    exact nodup_place HSO.out.rch.1.nd HST.out
      · obtain rfl : i = out2.length := by omega
        go_wp2_with fail
        have HBE := Lib.hid (HB6.out.trans (HBB.out.mono HB6.out.size))
        refine (awake_calls wr).mono ?_
        rintro e w8 ⟨rfl, hb8⟩
        have HB8 := Lib.hid (HBE.out.trans (hb8.mono HBE.out.size))
        clear hb8
        go_wp2
        go_ret
        exact ⟨rfl, HB8.out⟩
  · exact absurd (sta_not HSO.out hno) id
set_option maxHeartbeats 4000000 in
set_option maxRecDepth 100000 in
theorem Reached_none (A : Option Addr) (n c : Nat) (L : Nat → Int) (R : Nat → ByteArray) (w : World) (hA : Sr w A n c L R) (hn : n ≤ 9223372036854775807) (hR : ∀ k, k < n → (R k).size ≤ 9223372036854775807) (hg : Gram L R n) (hso : stas L R n = none) :
    Calls Tryd.prog 10 #[.slice A n c] w fun e w' => e = .returned (.bool true) ∧ Below w.heap.size w w' := by
  have HO := Lib.hid (fun (w : World) (h : Sr w A n c L R) => Of_yes A n c L R w h hn hR hg)
  have HS := Lib.hid (fun (A' : Option Addr) (c' : Nat) (w : World) h => States_yes A' n c' L R w h hg)
  have HA := Lib.hid hA
  have HSO := Lib.hid hso
  clear hA hR hg hso
  go_enter Tryd.func10, Tryd.ntmps10
  go_wp2_with fail
  refine (HO.out w HA.out).mono ?_
  rintro e w1 ⟨⟨A1, c1, rfl, hS1⟩, hb1⟩
  have HB1 := Lib.hid hb1
  have HS1 := Lib.hid hS1
  clear hb1 hS1
  go_wp2_with fail
  refine (HS.out A1 c1 w1 HS1.out).mono ?_
  rintro e w2 ⟨h2, hb2⟩
  have HB2 := Lib.hid (HB1.out.trans (hb2.mono HB1.out.size))
  clear hb2 HB1 HS1 HS
  rcases h2 with ⟨A2, c2, out2, rfl, hI, hSt⟩ | ⟨hno, rfl⟩
  · exact absurd (sta_not hI HSO.out) id
  · go_wp2_with fail
    refine (awake_calls w2).mono ?_
    rintro e w8 ⟨rfl, hb8⟩
    have HB8 := Lib.hid (HB2.out.trans (hb8.mono HB2.out.size))
    clear hb8 HB2
    go_wp2
    go_ret
    exact ⟨rfl, HB8.out⟩
set_option maxHeartbeats 4000000 in
set_option maxRecDepth 100000 in
theorem Reached_no (A : Option Addr) (n c : Nat) (L : Nat → Int) (R : Nat → ByteArray) (w : World) (hA : Sr w A n c L R) (hn : n ≤ 9223372036854775807) (hR : ∀ k, k < n → (R k).size ≤ 9223372036854775807) (hg : ¬ Gram L R n) :
    Calls Tryd.prog 10 #[.slice A n c] w fun e w' => e = .returned (.bool true) ∧ Below w.heap.size w w' := by
  have HO := Lib.hid (fun (w : World) (h : Sr w A n c L R) => Of_calls A n c L R w h hn hR)
  have hng : ¬ Gram L (fun k => cut12 (R k)) (mnN n 11) := fun q => hg (cut_gram q)
  have h11 := mnN_le n 11
  have HS := Lib.hid (fun (A' : Option Addr) (c' : Nat) (w : World) h => States_no A' (mnN n 11) c' L (fun k => cut12 (R k)) w h (by omega) (fun k _ => cut12_1000 _) hng)
  have HA := Lib.hid hA
  clear hA hR hg hng h11
  generalize mnN n 11 = m at HO HS
  go_enter Tryd.func10, Tryd.ntmps10
  go_wp2_with fail
  refine (HO.out w HA.out).mono ?_
  rintro e w1 ⟨⟨A1, c1, rfl, hS1⟩, hb1⟩
  have HB1 := Lib.hid hb1
  have HS1 := Lib.hid hS1
  clear hb1 hS1
  go_wp2_with fail
  refine (HS.out A1 c1 w1 HS1.out).mono ?_
  rintro e w2 ⟨rfl, hb2⟩
  have HB2 := Lib.hid (HB1.out.trans (hb2.mono HB1.out.size))
  clear hb2 HB1 HS1
  go_wp2_with fail
  refine (awake_calls w2).mono ?_
  rintro e w8 ⟨rfl, hb8⟩
  have HB8 := Lib.hid (HB2.out.trans (hb8.mono HB2.out.size))
  clear hb8 HB2
  go_wp2
  go_ret
  exact ⟨rfl, HB8.out⟩
theorem sta_cases (L : Nat → Int) (R : Nat → ByteArray) (n : Nat) (h4 : R4 R n) : stas L R n = none ∨ ∃ out, StaI L R n out out.length := by
  cases h : stas L R n with
  | none => exact .inl rfl
  | some out => exact .inr ⟨out, sta_of h4 h⟩
theorem TablesReached.calls (A : Option Addr) (n c : Nat) (L : Nat → Int) (R : Nat → ByteArray) (w : World) (hA : Sr w A n c L R) (hR : ∀ k, k < n → (R k).size ≤ 9223372036854775807) (hn : n ≤ 9223372036854775807) (hc : c ≤ 9223372036854775807) :
    Calls Tryd.prog 10 #[.slice A n c] w fun e w' => e = .returned (.bool true) ∧ Below w.heap.size w w' := by
  by_cases hg : Gram L R n
  · rcases sta_cases L R n hg.gr.sz with h | ⟨out, h⟩
    · exact Reached_none A n c L R w hA hn hR hg h
    · exact Reached_some A n c L R w hA hn hR hg out h
  · exact Reached_no A n c L R w hA hn hR hg
end Go.Proofs.YtjpfalanoifpbaaDoor.X
end
