/- Maps as the walk meets them: a block that is a map, as a list of keys and values; what making, storing and looking up do. -/
import Derived.Test.YtjffhhalmicodaaB
import Derived.MapKept
set_option linter.unusedVariables false
set_option linter.unusedSimpArgs false
set_option linter.unusedSectionVars false
namespace Go.Proofs.Ytjffhhalmicodaa.X
open Go.RowKit Go.Proofs.YtjffhhalmicodaaW.PrintWords Go.Proofs.YtjffhhalmicodaaW.PrintLast Go.Proofs.YtjffhhalmicodaaW.PrintMore

section
variable {α β : Type} [DecidableEq α]

/-- the value of a key, in a list of keys and values -/
def findL (l : List (α × β)) (k : α) : Option β := match l with
  | [] => none
  | p :: r => if p.1 = k then some p.2 else findL r k
/-- a key's new value, in place or at the end -/
def putL (l : List (α × β)) (k : α) (v : β) : List (α × β) := match l with
  | [] => [(k, v)]
  | p :: r => if p.1 = k then (k, v) :: r else p :: putL r k v

theorem findL_putL (l : List (α × β)) (k k' : α) (v : β) : findL (putL l k v) k' = if k = k' then some v else findL l k' := by
  induction l with
  | nil => simp [putL, findL]
  | cons p r ih =>
    unfold putL
    split
    · rename_i h
      subst h
      unfold findL
      simp only
      split <;> rfl
    · rename_i h
      unfold findL
      split
      · rename_i h2
        subst h2
        rw [if_neg (fun e => h e.symm)]
      · exact ih

/-- what the walk asks of a kind of keys -/
structure KeyOk (P : Program) (K : TypeId) (enc : α → Value) : Prop where
  inj : ∀ a b, enc a = enc b → a = b
  check : ∀ b k w, (Instr.checkKey b 10000 K (enc k)).run P w = .ok () w
  find : ∀ (k : α) (es : List MapEntry) (l : List α) w, es.map (·.key) = l.map enc → (Instr.findKey K (enc k) es).run P w = .ok ((es[l.findIdx (· = k)]?).map fun e => (l.findIdx (· = k), e.val)) w
  stays : ∀ k w, (Instr.keyThatStays (enc k) (enc k)).run P w = .ok (enc k) w

/-- block r is a map with these keys and values -/
def IsM (enc : α → Value) (encv : β → Value) (w : World) (r : Nat) (l : List (α × β)) : Prop :=
  ∃ es clock, w.heap[r]? = some (.map es clock) ∧ es.toList.map (fun e => (e.key, e.val)) = l.map fun p => (enc p.1, encv p.2)

def putObj (w : World) (r : Nat) (o : Obj) : World := { w with heap := w.heap.setIfInBounds r o }

theorem putObj_keep (w : World) (r : Nat) (o : Obj) : KeepBut w (putObj w r o) r none :=
  ⟨by simp [putObj], fun i _ hne _ => by simp only [putObj]; exact Array.getElem?_setIfInBounds_ne (Ne.symm hne)⟩
theorem putObj_below {B : Nat} {a w : World} (h : Below B a w) {r : Nat} (hr : B ≤ r) (o : Obj) : Below B a (putObj w r o) :=
  h.trans ⟨rfl, rfl, rfl, by simp [putObj], fun k hk => by simp only [putObj]; exact Array.getElem?_setIfInBounds_ne (by omega)⟩
theorem putObj_at {w : World} {r : Nat} {o o' : Obj} (h : w.heap[r]? = some o') : (putObj w r o).heap[r]? = some o := by
  simp only [putObj]
  exact Array.getElem?_setIfInBounds_self_of_lt (Array.getElem?_eq_some_iff.1 h).1

theorem findIdx_none {l : List (α × β)} {k : α} (h : findL l k = none) : (l.map (·.1)).findIdx (· = k) = l.length := by
  induction l with
  | nil => rfl
  | cons p r ih =>
    unfold findL at h
    split at h
    · cases h
    · rename_i hne
      simp only [List.map_cons, List.findIdx_cons, decide_eq_true_eq, hne, decide_false, cond_false, List.length_cons, ih h]
theorem findIdx_some {l : List (α × β)} {k : α} {v : β} (h : findL l k = some v) : l[(l.map (·.1)).findIdx (· = k)]? = some (k, v) ∧ putL l k v = l := by
  induction l with
  | nil => cases h
  | cons p r ih =>
    unfold findL at h
    split at h
    · rename_i he
      injection h with h
      subst he
      subst h
      simp [List.findIdx_cons, putL]
    · rename_i hne
      obtain ⟨h1, h2⟩ := ih h
      simp only [List.map_cons, List.findIdx_cons, hne, decide_false, cond_false, List.getElem?_cons_succ, putL, if_false, h1, h2, and_self]
theorem putL_none {l : List (α × β)} {k : α} {v : β} (h : findL l k = none) : putL l k v = l ++ [(k, v)] := by
  induction l with
  | nil => rfl
  | cons p r ih =>
    unfold findL at h
    split at h
    · cases h
    · rename_i hne
      simp [putL, hne, ih h]
theorem putL_some {l : List (α × β)} {k : α} {u v : β} (h : findL l k = some u) : putL l k v = l.set ((l.map (·.1)).findIdx (· = k)) (k, v) := by
  induction l with
  | nil => cases h
  | cons p r ih =>
    unfold findL at h
    split at h
    · rename_i he
      subst he
      simp [putL, List.findIdx_cons]
    · rename_i hne
      simp [putL, hne, List.findIdx_cons, ih h]

theorem IsM.new (enc : α → Value) (encv : β → Value) (w : World) : IsM enc encv (w.alloc (.map #[] 0)) w.heap.size [] :=
  ⟨#[], 0, (Go.MapKept.heap_alloc w _).1, rfl⟩
theorem IsM.of_heap {enc : α → Value} {encv : β → Value} {w w' : World} {r : Nat} {l : List (α × β)} (h : IsM enc encv w r l) (he : w'.heap[r]? = w.heap[r]?) : IsM enc encv w' r l := by
  obtain ⟨es, clock, hb, hl⟩ := h
  exact ⟨es, clock, he.trans hb, hl⟩
theorem IsM.lt {enc : α → Value} {encv : β → Value} {w : World} {r : Nat} {l : List (α × β)} (h : IsM enc encv w r l) : r < w.heap.size := by
  obtain ⟨es, clock, hb, hl⟩ := h
  exact (Array.getElem?_eq_some_iff.1 hb).1
theorem IsM.below {enc : α → Value} {encv : β → Value} {w w' : World} {r : Nat} {l : List (α × β)} (h : IsM enc encv w r l) (hb : Below w.heap.size w w') : IsM enc encv w' r l :=
  h.of_heap (hb.block r h.lt)
/-- A store into a cell leaves every map as it is. -/
theorem IsM.setCell {enc : α → Value} {encv : β → Value} {w : World} {r : Nat} {l : List (α × β)} (h : IsM enc encv w r l) (p : Addr) (u : Value) : IsM enc encv (w.setCell p u) r l := by
  obtain ⟨es, clock, hb, hl⟩ := h
  refine ⟨es, clock, ?_, hl⟩
  simp only [World.setCell, Array.getElem?_modify]
  split
  · rename_i e
    subst e
    simp [hb]
  · exact hb

theorem run_findKey_is {P : Program} {K : TypeId} {enc : α → Value} {encv : β → Value} (hK : KeyOk P K enc) {es : Array MapEntry} {l : List (α × β)} (hl : es.toList.map (fun e => (e.key, e.val)) = l.map fun p => (enc p.1, encv p.2)) (k : α) (w : World) :
    (Instr.findKey K (enc k) es.toList).run P w = .ok ((findL l k).map fun v => ((l.map (·.1)).findIdx (· = k), encv v)) w := by
  have hk : es.toList.map (·.key) = (l.map (·.1)).map enc := by
    have := congrArg (List.map Prod.fst) hl
    simpa [List.map_map, Function.comp_def] using this
  have hv : es.toList.map (·.val) = l.map fun p => encv p.2 := by
    have := congrArg (List.map Prod.snd) hl
    simpa [List.map_map, Function.comp_def] using this
  rw [hK.find k es.toList (l.map (·.1)) w hk]
  congr 1
  cases hf : findL l k with
  | none =>
    have hlen : es.toList.length = l.length := by simpa using congrArg List.length hl
    rw [findIdx_none hf, List.getElem?_eq_none (by omega)]
    rfl
  | some v =>
    obtain ⟨h1, _⟩ := findIdx_some hf
    have h2 : (es.toList.map (·.val))[(l.map (·.1)).findIdx (· = k)]? = some (encv v) := by
      rw [hv, List.getElem?_map, h1]
      rfl
    rw [List.getElem?_map] at h2
    cases he : es.toList[(l.map (·.1)).findIdx (· = k)]? with
    | none => rw [he] at h2; cases h2
    | some e =>
      rw [he] at h2
      simp only [Option.map_some, Option.some.injEq] at h2 ⊢
      rw [h2]

/-- v := m[k], v, ok := m[k] -/
theorem run_lookup_is {P : Program} {t K E : TypeId} {enc : α → Value} {encv : β → Value} (hu : P.underlying t = some (.map K E)) {z : β} (hz : ∀ w, (zeroValue E).run P w = .ok (encv z) w) (hK : KeyOk P K enc) {w : World} {r : Nat} {l : List (α × β)} (h : IsM enc encv w r l) (k : α) (b : Bool) :
    (Instr.lookup t (.map (some r)) (enc k) b).run P w = .ok (if b then .tuple #[encv ((findL l k).getD z), .bool (findL l k).isSome] else encv ((findL l k).getD z)) w := by
  obtain ⟨es, clock, hb, hl⟩ := h
  unfold Instr.lookup
  simp only [Sem.run_bind, run_underlying hu, Result.andThen, getObj, Sem.run, hb, Sem.run_pure, hK.check, run_findKey_is hK hl]
  cases hf : findL l k with
  | none => simp [hz, Result.andThen]
  | some v => simp [Result.andThen]

/-- m[k] = v -/
theorem run_update_is {P : Program} {t K E : TypeId} {enc : α → Value} {encv : β → Value} (hu : P.underlying t = some (.map K E)) (hK : KeyOk P K enc) {w : World} {r : Nat} {l : List (α × β)} (h : IsM enc encv w r l) (k : α) (v : β) :
    ∃ o, (Instr.mapUpdate t (.map (some r)) (enc k) (encv v)).run P w = .ok () (putObj w r o) ∧ IsM enc encv (putObj w r o) r (putL l k v) := by
  obtain ⟨es, clock, hb, hl⟩ := h
  have hlen : es.toList.length = l.length := by simpa using congrArg List.length hl
  cases hf : findL l k with
  | none =>
    refine ⟨.map (es.push { key := enc k, val := encv v, born := clock }) (clock + 1), ?_, _, _, putObj_at hb, ?_⟩
    · unfold Instr.mapUpdate
      simp only [Sem.run_bind, run_underlying hu, Result.andThen, getObj, Sem.run, hb, Sem.run_pure, hK.check, run_findKey_is hK hl, hf, Option.map_none]
      exact Go.MapKept.run_setObj_map _ hb
    · rw [putL_none hf]
      simp [hl]
  | some u =>
    obtain ⟨h1, _⟩ := findIdx_some hf
    have hidx : (l.map (·.1)).findIdx (· = k) < es.size := by
      have := (List.getElem?_eq_some_iff.1 h1).1
      have h2 : es.size = es.toList.length := rfl
      omega
    have hkey : ((es[(l.map (·.1)).findIdx (· = k)]?).map (·.key)).getD (enc k) = enc k := by
      have h3 : (es.toList.map fun e => (e.key, e.val))[(l.map (·.1)).findIdx (· = k)]? = some (enc k, encv u) := by
        rw [hl, List.getElem?_map, h1]
        rfl
      rw [List.getElem?_map] at h3
      rw [← Array.getElem?_toList]
      cases he : es.toList[(l.map (·.1)).findIdx (· = k)]? with
      | none => rw [he] at h3; cases h3
      | some e =>
        rw [he] at h3
        simp only [Option.map_some, Option.some.injEq, Prod.mk.injEq] at h3
        simp [h3.1]
    refine ⟨.map (es.modify ((l.map (·.1)).findIdx (· = k)) fun e => { e with key := enc k, val := encv v }) clock, ?_, _, _, putObj_at hb, ?_⟩
    · unfold Instr.mapUpdate
      simp only [Sem.run_bind, run_underlying hu, Result.andThen, getObj, Sem.run, hb, Sem.run_pure, hK.check, run_findKey_is hK hl, hf, Option.map_some, hkey, hK.stays]
      exact Go.MapKept.run_setObj_map _ hb
    · rw [putL_some hf, List.map_set, ← hl]
      clear hkey hlen hl h1
      generalize (l.map (·.1)).findIdx (· = k) = ix at hidx ⊢
      simp only [Array.toList_modify]
      apply List.ext_getElem?
      intro j
      simp only [List.getElem?_map, List.getElem?_modify, List.getElem?_set]
      by_cases hj : ix = j
      · subst hj
        have : es.toList[ix]? = some (es.toList[ix]'(by simpa using hidx)) := List.getElem?_eq_getElem _
        rw [this]
        simp [hidx]
      · simp [hj]

omit [DecidableEq α] in
theorem IsM.mk' {enc : α → Value} {encv : β → Value} {w : World} {r : Nat} {l : List (α × β)} {es clock} (hb : w.heap[r]? = some (.map es clock)) (hl : es.toList.map (fun e => (e.key, e.val)) = l.map fun p => (enc p.1, encv p.2)) : IsM enc encv w r l := ⟨es, clock, hb, hl⟩
end

theorem findNow_of {d : TypeDesc} {α : Type} [DecidableEq α] {enc : α → Value} (hs : ∀ a b, Instr.sameNow d (enc a) (enc b) = some (decide (a = b))) (k : α) : ∀ (es : List MapEntry) (l : List α) (i : Nat), es.map (·.key) = l.map enc →
    Instr.findNow d (enc k) es i = some ((es[l.findIdx (· = k)]?).map fun e => (i + l.findIdx (· = k), e.val))
  | [], [], i, _ => rfl
  | [], _ :: _, _, h => by simp at h
  | _ :: _, [], _, h => by simp at h
  | e :: es, a :: l, i, h => by
    simp only [List.map_cons, List.cons.injEq] at h
    unfold Instr.findNow
    rw [h.1, hs]
    by_cases hk : k = a
    · subst hk
      simp [List.findIdx_cons]
    · have hk' : ¬ a = k := fun e => hk e.symm
      simp only [hk, decide_false, List.findIdx_cons, hk', cond_false, List.getElem?_cons_succ]
      rw [findNow_of hs k es l (i + 1) h.2]
      congr 2
      funext e
      congr 1
      omega

theorem keyOk_int {P : Program} {K : TypeId} {kd : IntKind} (hu : P.underlying K = some (.int kd)) : KeyOk P K (Value.int kd) where
  inj := fun a b h => by injection h
  check := fun b k w => Go.MapKept.run_checkKey hu (show Go.MapKept.IsKey (.int kd) (.int kd k) from rfl) b 9999
  find := fun k es l w h => by
    have := Go.MapKept.run_findKey (P := P) (w := w) hu (findNow_of (d := .int kd) (enc := Value.int kd) (fun a b => by simp only [Instr.sameNow, if_true]; congr 1) k es l 0 h)
    simpa using this
  stays := fun k w => by simp [Instr.keyThatStays, Instr.sameBits]
theorem keyOk_string {P : Program} {K : TypeId} (hu : P.underlying K = some .string) : KeyOk P K Value.string where
  inj := fun a b h => by injection h
  check := fun b k w => Go.MapKept.run_checkKey hu (show Go.MapKept.IsKey .string (.string k) from trivial) b 9999
  find := fun k es l w h => by
    have := Go.MapKept.run_findKey (P := P) (w := w) hu (findNow_of (d := .string) (enc := Value.string) (fun a b => by simp only [Instr.sameNow]; congr 1; rw [Bool.eq_iff_iff, Go.MapKept.bytes_beq]; simp) k es l 0 h)
    simpa using this
  stays := fun k w => by
    have : (k == k) = true := (Go.MapKept.bytes_beq k k).2 rfl
    simp [Instr.keyThatStays, Instr.sameBits, this]

section
variable {P : Program} {ops : Array Oper} {rest : List Oper} {o : Oper} {a : Act} {Q : Exit → Act → World → Prop} {W : World} {α β : Type} [DecidableEq α] {enc : α → Value} {encv : β → Value}
theorem gate_op {op : Op} (_ho : o.op = op) (h : wpList P ops Q (o :: rest) a W) : wpList P ops Q (o :: rest) a W := h
theorem map_make_event (hgd : o.guard = none) (t : TypeId) (ho : o.op = .makeMap t none)
    (h : ∀ r w1, r = W.heap.size → w1.heap[r]? = some (.map #[] 0) → Below W.heap.size W w1 → wpList P ops Q rest (a.put o.dst (.map (some r))) w1) : wpList P ops Q (o :: rest) a W := by
  refine Kd.event_run hgd (w1 := W.alloc (.map #[] 0)) (v := .map (some W.heap.size)) ?_ (h _ _ rfl (Go.MapKept.heap_alloc W _).1 (below_alloc (Below.refl _ _) _))
  unfold execOp
  simp only [ho, Option.map_none]
  rfl
theorem map_put_event (hgd : o.guard = none) (t : TypeId) (m k x : Operand) (ho : o.op = .insert t m k x ∨ o.op = .mapUpdate t m k x) {K E : TypeId} (hu : P.underlying t = some (.map K E)) (hK : KeyOk P K enc) {r : Nat} {l : List (α × β)} (kk : α) (xx : β)
    (hm : a.eval m = .map (some r)) (hk : a.eval k = enc kk) (hx : a.eval x = encv xx) (hM : IsM enc encv W r l)
    (h : ∀ w1, IsM enc encv w1 r (putL l kk xx) → KeepBut W w1 r none → (∀ B u, Below B u W → B ≤ r → Below B u w1) → wpList P ops Q rest (a.put o.dst undef) w1) : wpList P ops Q (o :: rest) a W := by
  obtain ⟨ob, h1, h2⟩ := run_update_is hu hK hM kk xx
  refine wpList_plain hgd fun Kc hKc => ?_
  have hrun : (execOp a.eval o).run P W = .ok .skip (putObj W r ob) := by
    unfold execOp
    rcases ho with ho | ho <;> simp [ho, hm, hk, hx, h1, Result.andThen]
  unfold Oper.wp
  rw [hrun]
  exact hKc _ _ (h _ h2 (putObj_keep W r ob) (fun B u hb hr => putObj_below hb hr ob))
theorem map_get_event (hgd : o.guard = none) (t : TypeId) (m k : Operand) (b : Bool) (ho : o.op = .lookup t m k b) {K E : TypeId} (hu : P.underlying t = some (.map K E)) {z : β} (hz : ∀ w, (zeroValue E).run P w = .ok (encv z) w) (hK : KeyOk P K enc) {r : Nat} {l : List (α × β)} (kk : α)
    (hm : a.eval m = .map (some r)) (hk : a.eval k = enc kk) (hM : IsM enc encv W r l)
    (h : wpList P ops Q rest (a.put o.dst (if b then .tuple #[encv ((findL l kk).getD z), .bool (findL l kk).isSome] else encv ((findL l kk).getD z))) W) : wpList P ops Q (o :: rest) a W := by
  refine Kd.event_run hgd ?_ h
  unfold execOp
  simp [ho, hm, hk, run_lookup_is hu hz hK hM kk b, Result.andThen]
end
end Go.Proofs.Ytjffhhalmicodaa.X
