/- Texts of this claim, merged by a program (wip/tools/shake.py); what nothing names is left out. -/
import Derived.WideKeyPair
import Derived.Deep.Slices
import Derived.OpenShut
import Derived.DataElems
import Derived.MapKept
import Derived.Laws.IdiomRangeMap
import Derived.KernelRfl
import Derived.Laws.StructEq
import Derived.Laws.Cover2
import Derived.Maps.RangeRun
import Derived.Test.YtjpfalanoifpbaaDoorSwa
section
set_option linter.unusedVariables false
set_option linter.unusedSimpArgs false
namespace Go.Proofs.YtjpfalanoifpbaaDoor.X
open Go.RowKit Go.Proofs.YtjpfalanoifpbaaDoorW.PrintWords Go.Proofs.YtjpfalanoifpbaaDoorW.PrintLast Go.Proofs.YtjpfalanoifpbaaDoorW.PrintMore Go.Proofs.YtjpfalanoifpbaaDoor.T
theorem Sr.congr {w : World} {A : Option Addr} {n c : Nat} {L : Nat → Int} {R R' : Nat → ByteArray} (h : Sr w A n c L R') (hR : ∀ k, k < n → R' k = R k) : Sr w A n c L R := by
  rcases h with h | ⟨b, off, h1, h2, h3⟩
  · exact .inl h
  · exact .inr ⟨b, off, h1, h2, h3.c0, fun i hi => by rw [← hR i hi]; exact h3.c1 i hi⟩
theorem Gram.congr {n : Nat} {L : Nat → Int} {R R' : Nat → ByteArray} (h : Gram L R' n) (hR : ∀ k, k < n → R' k = R k) : Gram L R n := by
  refine ⟨h.1, fun k hk => ?_⟩
  have q := h.2 k hk
  refine ⟨q.p, by rw [← hR k hk]; exact q.sz, by rw [← hR k hk]; exact q.ok, fun j hj => ?_⟩
  rw [← hR k hk, ← hR j (by omega)]
  exact q.new j hj
theorem mnN_le (a b : Nat) : mnN a b ≤ a ∧ mnN a b ≤ b := by unfold mnN; split <;> omega
theorem cut_gram {n : Nat} {L : Nat → Int} {R : Nat → ByteArray} (h : Gram L (fun k => cut12 (R k)) (mnN n 11)) : Gram L R n := by
  have h8 := h.1
  have hn : mnN n 11 = n := by unfold mnN at h8 ⊢; split <;> simp_all <;> omega
  rw [hn] at h
  refine h.congr fun k hk => cut12_self ?_
  have := (h.2 k hk).sz
  simp only [cut12_size] at this
  unfold mnN at this
  split at this <;> omega
theorem gram_cut {n : Nat} {L : Nat → Int} {R : Nat → ByteArray} (h : Gram L R n) : mnN n 11 = n ∧ ∀ k, k < n → cut12 (R k) = R k := by
  have h8 := h.1
  refine ⟨by unfold mnN; split <;> omega, fun k hk => cut12_self (Nat.le_trans (h.2 k hk).sz (by decide))⟩
theorem Of_yes (A : Option Addr) (n c : Nat) (L : Nat → Int) (R : Nat → ByteArray) (w : World) (hA : Sr w A n c L R) (hn : n ≤ 9223372036854775807) (hR : ∀ k, k < n → (R k).size ≤ 9223372036854775807) (hg : Gram L R n) :
    Calls Tryd.prog 18 #[.slice A n c] w fun e w' => (∃ A' c', e = .returned (.slice A' n c') ∧ Sr w' A' n c' L R) ∧ Below w.heap.size w w' := by
  refine (Of_calls A n c L R w hA hn hR).mono ?_
  obtain ⟨h1, h2⟩ := gram_cut hg
  rintro e w1 ⟨⟨A', c', rfl, hS⟩, hb⟩
  rw [h1] at hS ⊢
  exact ⟨⟨A', c', rfl, hS.congr h2⟩, hb⟩
end Go.Proofs.YtjpfalanoifpbaaDoor.X
end

section
set_option linter.unusedVariables false
namespace Go.Proofs.YtjpfalanoifpbaaDoor.X
open Go.RowKit Go.WideShapes Go.WideMaps Go.Deep Go.ChangeShapes Go.Proofs.YtjpfalanoifpbaaDoorW.PrintWords Go.Proofs.YtjpfalanoifpbaaDoorW.PrintLast Go.Proofs.YtjpfalanoifpbaaDoorW.PrintMore Go.Proofs.YtjpfalanoifpbaaDoor.T
theorem cells44 : Tryd.prog.cellsOf 44 = 2 := by kernel_rfl
theorem cells5_ : Tryd.prog.cellsOf 5 = 1 := by kernel_rfl
theorem cells9_ : Tryd.prog.cellsOf 9 = 1 := by kernel_rfl
set_option maxRecDepth 10000 in
theorem rule_trod {H : Type} {enc : TypeId × Value → H} {w : World} {base : Nat} {sp : Nat → Bool} {held : Bool} {fuel : Nat} {cs : List Value} {x : DataW H × List MemPlace} (h : DataW.trod enc Tryd.prog w base sp held fuel 44 cs = some x) : ∃ (a : Int) (s : ByteArray), cs = [.int .u8 a, .string s] ∧ s.size ≤ 9223372036854775807 := by
  obtain ⟨y0, y1, m, _, hl, h0, h1⟩ := trod_struct2 Tryd.underlying44 h
  rw [cells44] at hl
  match cs, hl with
  | [c0, c1], _ =>
    dsimp only at h0 h1
    rw [cells5_] at h0
    rw [cells9_] at h1
    obtain ⟨a, e0, _⟩ := DataW.trod_int Tryd.underlying5 h0
    obtain ⟨s, e1, _, hs⟩ := DataW.trod_string Tryd.underlying9 h1
    simp at e0 e1
    unfold maxLen at hs
    exact ⟨a, s, by rw [e0, e1], by omega⟩
theorem open_rls {H : Type} {enc : TypeId × Value → H} {w : World} {base : Nat} {held : Bool} {fuel : Nat} {A : Option Addr} {n c : Nat} {x : DataW H × List MemPlace} (h : DataW.trod enc Tryd.prog w base (fun _ => true) held fuel 22 [.slice A n c] = some x) :
    (∃ L R, Sr w A n c L R ∧ ∀ k, k < n → (R k).size ≤ 9223372036854775807) ∧ n ≤ 9223372036854775807 ∧ c ≤ 9223372036854775807 := by
  rcases open_slice Tryd.underlying22 h with ⟨hcs, _⟩ | ⟨a, len, cap, m, k, D, Pl, hcs, _, hl, hm, hmm, _, hx⟩
  · simp at hcs
    obtain ⟨rfl, rfl, rfl⟩ := hcs
    exact ⟨⟨fun _ => 0, fun _ => ByteArray.empty, .inl rfl, fun k hk => by omega⟩, by decide, by decide⟩
  · simp at hcs
    obtain ⟨rfl, rfl, rfl⟩ := hcs
    unfold maxLen at hm
    refine ⟨?_, by omega, by omega⟩
    rcases Nat.eq_zero_or_pos n with h0 | h0
    · exact ⟨fun _ => 0, fun _ => ByteArray.empty, .inl h0, fun k hk => by omega⟩
    · have hnm : n ≤ m := by rw [hmm]; simpa using hl
      obtain ⟨f, hf⟩ := choose_lt (α := Int × ByteArray) (n := n) (p := fun i q => w.cell? (a.add (i * 2)) = some (.int .u8 q.1) ∧ w.cell? (a.add (i * 2 + 1)) = some (.string q.2) ∧ q.2.size ≤ 9223372036854775807) (fun i hi => by
        obtain ⟨cs', h1, h2⟩ := hx i (by omega)
        obtain ⟨p, q, rfl, hq⟩ := rule_trod h2
        rw [cells44] at h1
        obtain ⟨_, _, h3⟩ := World.cells?_some h1
        refine ⟨(p, q), ?_, ?_, hq⟩
        · have := h3 0 (by decide)
          rw [Addr.add_add] at this
          simpa using this
        · have := h3 1 (by decide)
          rw [Addr.add_add] at this
          simpa using this)
      have hsp : a.spot = none := by
        have := (hf 0 h0).1
        rw [show a.add (0 * 2) = a by simp [Addr.add]] at this
        exact World.cell?_spot this
      have ha : ∀ j, a.add j = ⟨a.block, a.off + j, none⟩ := fun j => by
        unfold Addr.add
        by_cases hj : j = 0
        · subst hj
          rw [if_pos rfl, ← hsp]
          simp
        · rw [if_neg hj]
      refine ⟨fun i => (f i).1, fun i => (f i).2, .inr ⟨a.block, a.off, ?_, hl, fun i hi => ?_, fun i hi => ?_⟩, fun i hi => (hf i hi).2.2⟩
      · rw [← hsp]
      · rw [← ha]; exact (hf i hi).1
      · rw [Nat.add_assoc, ← ha]; exact (hf i hi).2.1
theorem open_rlsT {H : Type} {enc : TypeId × Value → H} {w : World} {base : Nat} {held : Bool} {A : Option Addr} {n c : Nat} {d : DataW H} {pl : List MemPlace} (h : DataW.Trod enc Tryd.prog w base (fun _ => true) held 22 (.slice A n c) d pl) :
    (∃ L R, Sr w A n c L R ∧ ∀ k, k < n → (R k).size ≤ 9223372036854775807) ∧ n ≤ 9223372036854775807 ∧ c ≤ 9223372036854775807 := by
  obtain ⟨m, hm⟩ := h
  exact open_rls hm
end Go.Proofs.YtjpfalanoifpbaaDoor.X
end

section
set_option linter.unusedVariables false
set_option linter.unusedSimpArgs false
set_option linter.unusedSectionVars false
namespace Go.Proofs.YtjpfalanoifpbaaDoor.X
open Go.RowKit Go.Proofs.YtjpfalanoifpbaaDoorW.PrintWords Go.Proofs.YtjpfalanoifpbaaDoorW.PrintLast Go.Proofs.YtjpfalanoifpbaaDoorW.PrintMore
section
variable {α β : Type} [DecidableEq α]
def findL (l : List (α × β)) (k : α) : Option β := match l with
  | [] => none
  | p :: r => if p.1 = k then some p.2 else findL r k
def putL (l : List (α × β)) (k : α) (v : β) : List (α × β) := match l with
  | [] => [(k, v)]
  | p :: r => if p.1 = k then (k, v) :: r else p :: putL r k v
theorem findL_putL (l : List (α × β)) (k k' : α) (v : β) : findL (putL l k v) k' = if k = k' then some v else findL l k' := by
  induction l with
  | nil => simp [putL, findL]
  | cons p r ih =>
    unfold putL
    split
    · rename_i h
      subst h
      unfold findL
      simp only
      split <;> rfl
    · rename_i h
      unfold findL
      split
      · rename_i h2
        subst h2
        rw [if_neg (fun e => h e.symm)]
      · exact ih
structure KeyOk (P : Program) (K : TypeId) (enc : α → Value) : Prop where
  inj : ∀ a b, enc a = enc b → a = b
  check : ∀ b k w, (Instr.checkKey b 10000 K (enc k)).run P w = .ok () w
  find : ∀ (k : α) (es : List MapEntry) (l : List α) w, es.map (·.key) = l.map enc → (Instr.findKey K (enc k) es).run P w = .ok ((es[l.findIdx (· = k)]?).map fun e => (l.findIdx (· = k), e.val)) w
  stays : ∀ k w, (Instr.keyThatStays (enc k) (enc k)).run P w = .ok (enc k) w
def IsM (enc : α → Value) (encv : β → Value) (w : World) (r : Nat) (l : List (α × β)) : Prop :=
  ∃ es clock, w.heap[r]? = some (.map es clock) ∧ es.toList.map (fun e => (e.key, e.val)) = (l.map fun p => (enc p.1, encv p.2)) ∧ Go.MapKept.Stamped es clock
def putObj (w : World) (r : Nat) (o : Obj) : World := { w with heap := w.heap.setIfInBounds r o }
theorem putObj_at {w : World} {r : Nat} {o o' : Obj} (h : w.heap[r]? = some o') : (putObj w r o).heap[r]? = some o := by
  simp only [putObj]
  exact Array.getElem?_setIfInBounds_self_of_lt (Array.getElem?_eq_some_iff.1 h).1
theorem findIdx_none {l : List (α × β)} {k : α} (h : findL l k = none) : (l.map (·.1)).findIdx (· = k) = l.length := by
  induction l with
  | nil => rfl
  | cons p r ih =>
    unfold findL at h
    split at h
    · cases h
    · rename_i hne
      simp only [List.map_cons, List.findIdx_cons, decide_eq_true_eq, hne, decide_false, cond_false, List.length_cons, ih h]
theorem findIdx_some {l : List (α × β)} {k : α} {v : β} (h : findL l k = some v) : l[(l.map (·.1)).findIdx (· = k)]? = some (k, v) ∧ putL l k v = l := by
  induction l with
  | nil => cases h
  | cons p r ih =>
    unfold findL at h
    split at h
    · rename_i he
      injection h with h
      subst he
      subst h
      simp [List.findIdx_cons, putL]
    · rename_i hne
      obtain ⟨h1, h2⟩ := ih h
      simp only [List.map_cons, List.findIdx_cons, hne, decide_false, cond_false, List.getElem?_cons_succ, putL, if_false, h1, h2, and_self]
theorem findL_not {l : List (α × β)} {k : α} (h : findL l k = none) : ∀ p ∈ l, p.1 ≠ k := by
  induction l with
  | nil => intro p hp; cases hp
  | cons q r ih =>
    unfold findL at h
    split at h
    · cases h
    · rename_i hne
      intro p hp
      rcases List.mem_cons.1 hp with rfl | hp
      · exact hne
      · exact ih h p hp
theorem findL_mem {l : List (α × β)} {k : α} {v : β} (h : findL l k = some v) : (k, v) ∈ l := by
  induction l with
  | nil => cases h
  | cons q r ih =>
    unfold findL at h
    split at h
    · rename_i e
      injection h with h
      subst e
      subst h
      exact List.mem_cons.2 (.inl rfl)
    · exact List.mem_cons.2 (.inr (ih h))
theorem putL_none {l : List (α × β)} {k : α} {v : β} (h : findL l k = none) : putL l k v = l ++ [(k, v)] := by
  induction l with
  | nil => rfl
  | cons p r ih =>
    unfold findL at h
    split at h
    · cases h
    · rename_i hne
      simp [putL, hne, ih h]
theorem putL_some {l : List (α × β)} {k : α} {u v : β} (h : findL l k = some u) : putL l k v = l.set ((l.map (·.1)).findIdx (· = k)) (k, v) := by
  induction l with
  | nil => cases h
  | cons p r ih =>
    unfold findL at h
    split at h
    · rename_i he
      subst he
      simp [putL, List.findIdx_cons]
    · rename_i hne
      simp [putL, hne, List.findIdx_cons, ih h]
theorem IsM.new (enc : α → Value) (encv : β → Value) (w : World) : IsM enc encv (w.alloc (.map #[] 0)) w.heap.size [] :=
  ⟨#[], 0, (Go.MapKept.heap_alloc w _).1, rfl, Go.MapKept.stamped_empty 0⟩
theorem IsM.of_heap {enc : α → Value} {encv : β → Value} {w w' : World} {r : Nat} {l : List (α × β)} (h : IsM enc encv w r l) (he : w'.heap[r]? = w.heap[r]?) : IsM enc encv w' r l := by
  obtain ⟨es, clock, hb, hl, hst⟩ := h
  exact ⟨es, clock, he.trans hb, hl, hst⟩
theorem IsM.lt {enc : α → Value} {encv : β → Value} {w : World} {r : Nat} {l : List (α × β)} (h : IsM enc encv w r l) : r < w.heap.size := by
  obtain ⟨es, clock, hb, hl, hst⟩ := h
  exact (Array.getElem?_eq_some_iff.1 hb).1
theorem IsM.below {enc : α → Value} {encv : β → Value} {w w' : World} {r : Nat} {l : List (α × β)} (h : IsM enc encv w r l) (hb : Below w.heap.size w w') : IsM enc encv w' r l :=
  h.of_heap (hb.block r h.lt)
theorem IsM.setCell {enc : α → Value} {encv : β → Value} {w : World} {r : Nat} {l : List (α × β)} (h : IsM enc encv w r l) (p : Addr) (u : Value) : IsM enc encv (w.setCell p u) r l := by
  obtain ⟨es, clock, hb, hl, hst⟩ := h
  refine ⟨es, clock, ?_, hl, hst⟩
  simp only [World.setCell, Array.getElem?_modify]
  split
  · rename_i e
    subst e
    simp [hb]
  · exact hb
theorem run_findKey_is {P : Program} {K : TypeId} {enc : α → Value} {encv : β → Value} (hK : KeyOk P K enc) {es : Array MapEntry} {l : List (α × β)} (hl : es.toList.map (fun e => (e.key, e.val)) = l.map fun p => (enc p.1, encv p.2)) (k : α) (w : World) :
    (Instr.findKey K (enc k) es.toList).run P w = .ok ((findL l k).map fun v => ((l.map (·.1)).findIdx (· = k), encv v)) w := by
  have hk : es.toList.map (·.key) = (l.map (·.1)).map enc := by
    have := congrArg (List.map Prod.fst) hl
    simpa [List.map_map, Function.comp_def] using this
  have hv : es.toList.map (·.val) = l.map fun p => encv p.2 := by
    have := congrArg (List.map Prod.snd) hl
    simpa [List.map_map, Function.comp_def] using this
  rw [hK.find k es.toList (l.map (·.1)) w hk]
  congr 1
  cases hf : findL l k with
  | none =>
    have hlen : es.toList.length = l.length := by simpa using congrArg List.length hl
    rw [findIdx_none hf, List.getElem?_eq_none (by omega)]
    rfl
  | some v =>
    obtain ⟨h1, _⟩ := findIdx_some hf
    have h2 : (es.toList.map (·.val))[(l.map (·.1)).findIdx (· = k)]? = some (encv v) := by
      rw [hv, List.getElem?_map, h1]
      rfl
    rw [List.getElem?_map] at h2
    cases he : es.toList[(l.map (·.1)).findIdx (· = k)]? with
    | none => rw [he] at h2; cases h2
    | some e =>
      rw [he] at h2
      simp only [Option.map_some, Option.some.injEq] at h2 ⊢
      rw [h2]
theorem run_lookup_is {P : Program} {t K E : TypeId} {enc : α → Value} {encv : β → Value} (hu : P.underlying t = some (.map K E)) {z : β} (hz : ∀ w, (zeroValue E).run P w = .ok (encv z) w) (hK : KeyOk P K enc) {w : World} {r : Nat} {l : List (α × β)} (h : IsM enc encv w r l) (k : α) (b : Bool) :
    (Instr.lookup t (.map (some r)) (enc k) b).run P w = .ok (if b then .tuple #[encv ((findL l k).getD z), .bool (findL l k).isSome] else encv ((findL l k).getD z)) w := by
  obtain ⟨es, clock, hb, hl, hst⟩ := h
  unfold Instr.lookup
  simp only [Sem.run_bind, run_underlying hu, Result.andThen, getObj, Sem.run, hb, Sem.run_pure, hK.check, run_findKey_is hK hl]
  cases hf : findL l k with
  | none => simp [hz, Result.andThen]
  | some v => simp [Result.andThen]
theorem run_update_is {P : Program} {t K E : TypeId} {enc : α → Value} {encv : β → Value} (hu : P.underlying t = some (.map K E)) (hK : KeyOk P K enc) {w : World} {r : Nat} {l : List (α × β)} (h : IsM enc encv w r l) (k : α) (v : β) :
    ∃ o, (Instr.mapUpdate t (.map (some r)) (enc k) (encv v)).run P w = .ok () (putObj w r o) ∧ IsM enc encv (putObj w r o) r (putL l k v) := by
  obtain ⟨es, clock, hb, hl, hst⟩ := h
  have hlen : es.toList.length = l.length := by simpa using congrArg List.length hl
  cases hf : findL l k with
  | none =>
    refine ⟨.map (es.push { key := enc k, val := encv v, born := clock }) (clock + 1), ?_, _, _, putObj_at hb, ?_, ?_⟩
    · unfold Instr.mapUpdate
      simp only [Sem.run_bind, run_underlying hu, Result.andThen, getObj, Sem.run, hb, Sem.run_pure, hK.check, run_findKey_is hK hl, hf, Option.map_none]
      exact Go.MapKept.run_setObj_map _ hb
    · rw [putL_none hf]
      simp [hl]
    · refine Go.MapKept.stamped_push hst fun x hx hxk => ?_
      have h3 : (x.key, x.val) ∈ es.toList.map fun e => (e.key, e.val) := List.mem_map.2 ⟨x, hx, rfl⟩
      rw [hl] at h3
      obtain ⟨p, hp, e⟩ := List.mem_map.1 h3
      have e1 : enc p.1 = x.key := congrArg Prod.fst e
      rw [hxk] at e1
      exact findL_not hf p hp (hK.inj _ _ e1)
  | some u =>
    obtain ⟨h1, _⟩ := findIdx_some hf
    have hidx : (l.map (·.1)).findIdx (· = k) < es.size := by
      have := (List.getElem?_eq_some_iff.1 h1).1
      have h2 : es.size = es.toList.length := rfl
      omega
    have hkey : ((es[(l.map (·.1)).findIdx (· = k)]?).map (·.key)).getD (enc k) = enc k := by
      have h3 : (es.toList.map fun e => (e.key, e.val))[(l.map (·.1)).findIdx (· = k)]? = some (enc k, encv u) := by
        rw [hl, List.getElem?_map, h1]
        rfl
      rw [List.getElem?_map] at h3
      rw [← Array.getElem?_toList]
      cases he : es.toList[(l.map (·.1)).findIdx (· = k)]? with
      | none => rw [he] at h3; cases h3
      | some e =>
        rw [he] at h3
        simp only [Option.map_some, Option.some.injEq, Prod.mk.injEq] at h3
        simp [h3.1]
    refine ⟨.map (es.modify ((l.map (·.1)).findIdx (· = k)) fun e => { e with key := enc k, val := encv v }) clock, ?_, _, _, putObj_at hb, ?_, ?_⟩
    · unfold Instr.mapUpdate
      simp only [Sem.run_bind, run_underlying hu, Result.andThen, getObj, Sem.run, hb, Sem.run_pure, hK.check, run_findKey_is hK hl, hf, Option.map_some, hkey, hK.stays]
      exact Go.MapKept.run_setObj_map _ hb
    rotate_left
    · refine Go.MapKept.stamped_modify hst _ _ (fun e _ => rfl) fun e he hei => ?_
      rw [hei] at hkey
      exact hkey.symm
    · rw [putL_some hf, List.map_set, ← hl]
      clear hkey hlen hl h1
      generalize (l.map (·.1)).findIdx (· = k) = ix at hidx ⊢
      simp only [Array.toList_modify]
      apply List.ext_getElem?
      intro j
      simp only [List.getElem?_map, List.getElem?_modify, List.getElem?_set]
      by_cases hj : ix = j
      · subst hj
        have : es.toList[ix]? = some (es.toList[ix]'(by simpa using hidx)) := List.getElem?_eq_getElem _
        rw [this]
        simp [hidx]
      · simp [hj]
end
section
variable {P : Program} {ops : Array Oper} {rest : List Oper} {o : Oper} {a : Act} {Q : Exit → Act → World → Prop} {W : World} {α β : Type} [DecidableEq α] {enc : α → Value} {encv : β → Value}
theorem gate_op {op : Op} (_ho : o.op = op) (h : wpList P ops Q (o :: rest) a W) : wpList P ops Q (o :: rest) a W := h
theorem map_make_event (hgd : o.guard = none) (t : TypeId) (ho : o.op = .makeMap t none)
    (h : ∀ r w1, r = W.heap.size → w1.heap[r]? = some (.map #[] 0) → Below W.heap.size W w1 → wpList P ops Q rest (a.put o.dst (.map (some r))) w1) : wpList P ops Q (o :: rest) a W := by
  refine Kd.event_run hgd (w1 := W.alloc (.map #[] 0)) (v := .map (some W.heap.size)) ?_ (h _ _ rfl (Go.MapKept.heap_alloc W _).1 (below_alloc (Below.refl _ _) _))
  unfold execOp
  simp only [ho, Option.map_none]
  rfl
theorem map_get_event (hgd : o.guard = none) (t : TypeId) (m k : Operand) (b : Bool) (ho : o.op = .lookup t m k b) {K E : TypeId} (hu : P.underlying t = some (.map K E)) {z : β} (hz : ∀ w, (zeroValue E).run P w = .ok (encv z) w) (hK : KeyOk P K enc) {r : Nat} {l : List (α × β)} (kk : α)
    (hm : a.eval m = .map (some r)) (hk : a.eval k = enc kk) (hM : IsM enc encv W r l)
    (h : wpList P ops Q rest (a.put o.dst (if b then .tuple #[encv ((findL l kk).getD z), .bool (findL l kk).isSome] else encv ((findL l kk).getD z))) W) : wpList P ops Q (o :: rest) a W := by
  refine Kd.event_run hgd ?_ h
  unfold execOp
  simp [ho, hm, hk, run_lookup_is hu hz hK hM kk b, Result.andThen]
end
end Go.Proofs.YtjpfalanoifpbaaDoor.X
end

section
set_option linter.unusedVariables false
namespace Go.Proofs.YtjpfalanoifpbaaDoor.T
def lst (s : ByteArray) : List Int := (List.range s.size).map (ch s)
theorem ch_ext (s : ByteArray) (i j : Nat) (hj : j < s.size - i) : ch (s.extract i s.size) j = ch s (i + j) := by
  unfold ch
  rw [dif_pos (by rw [ByteArray.size_extract]; omega), dif_pos (by omega)]
  congr 2
  exact ByteArray.getElem_extract _
theorem lst_nil {s : ByteArray} (h : s.size = 0) : lst s = [] := by
  unfold lst
  rw [h]
  rfl
theorem lst_cons {s : ByteArray} (h : 0 < s.size) : lst s = ch s 0 :: lst (s.extract 1 s.size) := by
  unfold lst
  have e : (s.extract 1 s.size).size = s.size - 1 := by rw [ByteArray.size_extract]; omega
  obtain ⟨m, hm⟩ : ∃ m, s.size = m + 1 := ⟨s.size - 1, by omega⟩
  rw [e, hm, List.range_succ_eq_map, List.map_cons, List.map_map, Nat.add_sub_cancel]
  congr 1
  apply List.map_congr_left
  intro k hk
  rw [List.mem_range] at hk
  have := ch_ext s 1 k (by omega)
  rw [hm] at this
  rw [this]
  simp [Nat.add_comm]
theorem lst_ne {s : ByteArray} (h : okR s) : ∀ c ∈ lst s, c ≠ 0 := by
  intro c hc
  obtain ⟨i, hi, rfl⟩ := List.mem_map.1 hc
  rcases h i (List.mem_range.1 hi) with q | q
  · have := isP_iff.1 q
    omega
  · have := isD_iff.1 q
    omega
theorem ch_end (s : ByteArray) (i : Nat) (h : s.size ≤ i) : ch s i = 0 := by
  unfold ch
  rw [dif_neg (by omega)]
theorem csum_le {M : Nat} {f g : Nat → Nat} {i : Nat} : ∀ d, csum M f g i d ≤ M
  | 0 => Nat.zero_le _
  | d + 1 => by
    rw [csum]
    split
    · exact Nat.min_le_right _ _
    · exact csum_le d
theorem cW_le {M : Nat} (hM : 0 < M) {sw : Nat → Int} {a : Cnt} : ∀ (l : List Int) i j, cW M sw a l i j ≤ M
  | [], i, j => by
    unfold cW
    split <;> omega
  | c :: l, i, j => by
    unfold cW
    split
    · exact csum_le _
    · split
      · exact cW_le hM l _ _
      · omega
theorem cR_le {M : Nat} {sw : Nat → Int} {a : Cnt} {L : Nat → Int} {rt : Nat → List Int} {c : Int} {i j : Nat} : ∀ k, cR M sw a L rt c i j k ≤ M
  | 0 => Nat.zero_le _
  | k + 1 => by
    rw [cR]
    split
    · exact Nat.min_le_right _ _
    · exact cR_le k
structure Gs (L : Nat → Int) (R : Nat → ByteArray) (n : Nat) (s : ByteArray) : Prop where
  ok : okG L R n
  s8 : s.size ≤ 8
theorem Gs.Ok {L : Nat → Int} {R : Nat → ByteArray} {n : Nat} {s : ByteArray} (h : Gs L R n s) : Ok (ch s) L (fun k => lst (R k)) s.size n :=
  ⟨h.s8, fun i hi => ch_end s i hi, fun k hk => (h.ok k hk).1, fun k hk => lst_ne (h.ok k hk).2⟩
section
variable (M : Nat) (sw : Nat → Int) (L : Nat → Int) (rt : Nat → List Int) (n N : Nat) (a : Cnt)
def nx (i j k : Nat) : Cnt := fun c x y => if x ≤ y ∧ y ≤ N then (if x < i ∨ (x = i ∧ y < j) then cR M sw a L rt c x y n else if x = i ∧ y = j then cR M sw a L rt c x y k else 0) else 0
variable {M sw L rt n N a}
theorem nx_start (c : Int) (x y : Nat) : nx M sw L rt n N a 0 0 0 c x y = 0 := by
  unfold nx
  split
  · rw [if_neg (by omega)]
    split
    · rfl
    · rfl
  · rfl
theorem nx_rule {i j k : Nat} (hij : i ≤ j) (hj : j ≤ N) (c : Int) (x y : Nat) : nx M sw L rt n N a i j (k + 1) c x y = if (c, x, y) = (L k, i, j) then min (nx M sw L rt n N a i j k (L k) i j + cW M sw a (rt k) i j) M else nx M sw L rt n N a i j k c x y := by
  have h0 : ∀ (k : Nat) (c : Int), nx M sw L rt n N a i j k c i j = cR M sw a L rt c i j k := fun k c => by
    unfold nx
    rw [if_pos ⟨hij, hj⟩, if_neg (by omega), if_pos ⟨rfl, rfl⟩]
  by_cases e : x = i ∧ y = j
  · obtain ⟨rfl, rfl⟩ := e
    rw [h0, h0, h0, cR]
    by_cases h : L k = c
    · subst h
      rw [if_pos rfl, if_pos rfl]
    · rw [if_neg h, if_neg (by simp; exact fun e => h e.symm)]
  · rw [if_neg (by simp; exact fun _ a b => e ⟨a, b⟩)]
    unfold nx
    simp only [e, if_false]
theorem nx_piece {i j : Nat} (c : Int) (x y : Nat) : nx M sw L rt n N a i j n c x y = nx M sw L rt n N a i (j + 1) 0 c x y := by
  unfold nx
  split
  · by_cases h1 : x < i ∨ x = i ∧ y < j
    · rw [if_pos h1, if_pos (by omega)]
    · rw [if_neg h1]
      by_cases h2 : x = i ∧ y = j
      · rw [if_pos h2, if_pos (by omega)]
      · rw [if_neg h2, if_neg (by omega)]
        split <;> rfl
  · rfl
theorem nx_row {i : Nat} (c : Int) (x y : Nat) : nx M sw L rt n N a i (N + 1) 0 c x y = nx M sw L rt n N a (i + 1) (i + 1) 0 c x y := by
  unfold nx
  split
  · by_cases h1 : x < i ∨ x = i ∧ y < N + 1
    · rw [if_pos h1, if_pos (by omega)]
    · rw [if_neg h1, if_neg (by omega), if_neg (by omega)]
      split <;> rfl
  · rfl
theorem nx_all {j : Nat} (c : Int) (x y : Nat) (hy : y ≤ N) : nx M sw L rt n N a (N + 1) j 0 c x y = if x ≤ y then cR M sw a L rt c x y n else 0 := by
  unfold nx
  by_cases h : x ≤ y
  · rw [if_pos ⟨h, hy⟩, if_pos (by omega), if_pos h]
  · rw [if_neg (by omega), if_neg h]
theorem nx_le {i j k : Nat} (c : Int) (x y : Nat) : nx M sw L rt n N a i j k c x y ≤ M := by
  unfold nx
  split
  · split
    · exact cR_le _
    · split
      · exact cR_le _
      · exact Nat.zero_le _
  · exact Nat.zero_le _
theorem cA_zero {t : Nat} (H : Ok sw L rt N n) (c : Int) {x y : Nat} (h : ¬ x ≤ y) : cA M sw L rt n t c x y = 0 := by
  unfold cA
  have : A sw L rt n t c x y = 0 := by
    rcases Nat.eq_zero_or_pos (A sw L rt n t c x y) with h0 | h0
    · exact h0
    · exact absurd (A_in H t c x y h0).1 h
  rw [this]
  simp
theorem nx_cA (hM : 0 < M) (H : Ok sw L rt N n) {t j : Nat} (ha : ∀ c x y, y ≤ N → a c x y = cA M sw L rt n t c x y) (c : Int) (x y : Nat) (hy : y ≤ N) : nx M sw L rt n N a (N + 1) j 0 c x y = cA M sw L rt n (t + 1) c x y := by
  rw [nx_all c x y hy]
  split
  · exact cA_next hM ha c x y hy
  · rename_i h
    exact (cA_zero H c h).symm
theorem cA_up (t : Nat) (c : Int) (x y : Nat) : cA M sw L rt n t c x y ≤ cA M sw L rt n (t + 1) c x y := by
  unfold cA
  have := A_up (sw := sw) (L := L) (rt := rt) (n := n) t c x y
  omega
end
def treesN (M : Nat) (L : Nat → Int) (R : Nat → ByteArray) (n : Nat) (s : ByteArray) : Nat := min (A (ch s) L (fun k => lst (R k)) n 600 (L 0) 0 s.size) M
def ix (p i j : Nat) : Nat := p * 81 + i * 9 + j
def c405 {α : Type} (v : Nat → α) (F : Nat → Nat → Nat → Nat) : Array α := Array.ofFn (n := 405) fun q => v (F (q.val / 81) (q.val / 9 % 9) (q.val % 9))
theorem ix_div {p i j : Nat} (hi : i < 9) (hj : j < 9) : ix p i j / 81 = p ∧ ix p i j / 9 % 9 = i ∧ ix p i j % 9 = j := by
  unfold ix
  omega
theorem ix_lt {p i j : Nat} (hp : p < 5) (hi : i < 9) (hj : j < 9) : ix p i j < 405 := by
  unfold ix
  omega
theorem ix_inj {p i j q : Nat} (hi : i < 9) (hj : j < 9) : q = ix p i j ↔ q / 81 = p ∧ q / 9 % 9 = i ∧ q % 9 = j := by
  unfold ix
  omega
theorem c405_size {α : Type} (v : Nat → α) (F : Nat → Nat → Nat → Nat) : (c405 v F).size = 405 := by simp [c405]
theorem c405_at {α : Type} (v : Nat → α) (F : Nat → Nat → Nat → Nat) {p i j : Nat} (hp : p < 5) (hi : i < 9) (hj : j < 9) : (c405 v F)[ix p i j]? = some (v (F p i j)) := by
  obtain ⟨h1, h2, h3⟩ := ix_div (p := p) hi hj
  have h := ix_lt hp hi hj
  unfold c405
  rw [Array.getElem?_ofFn, dif_pos h, h1, h2, h3]
def put3 (F : Nat → Nat → Nat → Nat) (p i j m : Nat) : Nat → Nat → Nat → Nat := fun p' i' j' => if p' = p ∧ i' = i ∧ j' = j then m else F p' i' j'
theorem c405_set {α : Type} (v : Nat → α) (F : Nat → Nat → Nat → Nat) {p i j : Nat} (hp : p < 5) (hi : i < 9) (hj : j < 9) (m : Nat) : (c405 v F).setIfInBounds (ix p i j) (v m) = c405 v (put3 F p i j m) := by
  apply Array.ext_getElem?
  intro q
  unfold c405 put3
  rw [Array.getElem?_setIfInBounds, Array.getElem?_ofFn, Array.getElem?_ofFn]
  have hlt := ix_lt hp hi hj
  by_cases h : ix p i j = q
  · subst h
    obtain ⟨h1, h2, h3⟩ := ix_div (p := p) hi hj
    have hsz : ix p i j < (Array.ofFn (n := 405) fun q => v (F (q.val / 81) (q.val / 9 % 9) (q.val % 9))).size := by rw [Array.size_ofFn]; exact hlt
    rw [if_pos rfl, if_pos hsz, dif_pos hlt, h1, h2, h3, if_pos ⟨rfl, rfl, rfl⟩]
  · rw [if_neg h]
    split
    · have : ¬ (q / 81 = p ∧ q / 9 % 9 = i ∧ q % 9 = j) := fun e => h ((ix_inj hi hj).2 e).symm
      rw [if_neg this]
    · rfl
theorem c405_congr {α : Type} (v : Nat → α) {F G : Nat → Nat → Nat → Nat} (h : ∀ p i j, p < 5 → i < 9 → j < 9 → F p i j = G p i j) : c405 v F = c405 v G := by
  unfold c405
  congr 1
  funext q
  rw [h _ _ _ (by have := q.2; omega) (by omega) (by omega)]
end Go.Proofs.YtjpfalanoifpbaaDoor.T
end

section
set_option linter.unusedVariables false
namespace Go.Proofs.YtjpfalanoifpbaaDoor.T
def sumTo (f : Nat → Nat) : Nat → Nat
  | 0 => 0
  | d + 1 => sumTo f d + f d
theorem sumTo_le {f g : Nat → Nat} : ∀ {d}, (∀ k, k < d → f k ≤ g k) → sumTo f d ≤ sumTo g d
  | 0, _ => Nat.le_refl _
  | d + 1, h => by
    have := sumTo_le (f := f) (g := g) (d := d) fun k hk => h k (by omega)
    have := h d (by omega)
    simp only [sumTo]
    omega
theorem sumTo_lt {f g : Nat → Nat} : ∀ {d q}, (∀ k, k < d → f k ≤ g k) → q < d → f q < g q → sumTo f d < sumTo g d
  | 0, q, _, h, _ => by omega
  | d + 1, q, h, hq, hl => by
    simp only [sumTo]
    have h1 := h d (by omega)
    by_cases e : q = d
    · subst e
      have := sumTo_le (f := f) (g := g) (d := q) fun k hk => h k (by omega)
      omega
    · have := sumTo_lt (f := f) (g := g) (d := d) (q := q) (fun k hk => h k (by omega)) (by omega) hl
      omega
theorem sumTo_cap {f : Nat → Nat} {M : Nat} : ∀ {d}, (∀ k, k < d → f k ≤ M) → sumTo f d ≤ d * M
  | 0, _ => by simp [sumTo]
  | d + 1, h => by
    have := sumTo_cap (f := f) (M := M) (d := d) fun k hk => h k (by omega)
    have := h d (by omega)
    simp only [sumTo, Nat.succ_mul]
    omega
theorem sumTo_congr {f g : Nat → Nat} : ∀ {d}, (∀ k, k < d → f k = g k) → sumTo f d = sumTo g d
  | 0, _ => rfl
  | d + 1, h => by
    simp only [sumTo]
    rw [sumTo_congr fun k hk => h k (by omega), h d (by omega)]
def tot (F : Nat → Nat → Nat → Nat) : Nat := sumTo (fun q => F (q / 81) (q / 9 % 9) (q % 9)) 405
theorem tot_lt {F G : Nat → Nat → Nat → Nat} (h : ∀ p i j, F p i j ≤ G p i j) {p i j : Nat} (hp : p < 5) (hi : i < 9) (hj : j < 9) (hl : F p i j < G p i j) : tot F < tot G := by
  obtain ⟨h1, h2, h3⟩ := ix_div (p := p) hi hj
  refine sumTo_lt (q := ix p i j) (fun k _ => h _ _ _) (ix_lt hp hi hj) ?_
  show F (ix p i j / 81) (ix p i j / 9 % 9) (ix p i j % 9) < G (ix p i j / 81) (ix p i j / 9 % 9) (ix p i j % 9)
  rw [h1, h2, h3]
  exact hl
theorem tot_le {F G : Nat → Nat → Nat → Nat} (h : ∀ p i j, F p i j ≤ G p i j) : tot F ≤ tot G := sumTo_le fun k _ => h _ _ _
section
variable (sw : Nat → Int) (L : Nat → Int) (rt : Nat → List Int) (n N t : Nat)
def mix (p i j : Nat) : Nat → Nat → Nat → Nat := fun p' i' j' => if i' ≤ j' ∧ j' ≤ N then (if p' < p ∨ (p' = p ∧ (i' < i ∨ (i' = i ∧ j' < j))) then cA 101 sw L rt n (t + 1) (65 + p') i' j' else cA 101 sw L rt n t (65 + p') i' j') else 0
def full : Nat → Nat → Nat → Nat := fun p i j => if i ≤ j ∧ j ≤ N then cA 101 sw L rt n t (65 + p) i j else 0
variable {sw L rt n N t}
theorem mix_start : mix sw L rt n N t 0 0 0 = full sw L rt n N t := by
  funext p i j
  unfold mix full
  split
  · rw [if_neg (by omega)]
  · rfl
theorem full_zero : full sw L rt n N 0 = fun _ _ _ => 0 := by
  funext p i j
  unfold full cA A
  split
  · exact Nat.zero_min _
  · rfl
theorem full_le (p i j : Nat) : full sw L rt n N t p i j ≤ 101 := by
  unfold full cA
  split <;> omega
theorem mix_put {p i j : Nat} (hij : i ≤ j) (hj : j ≤ N) : put3 (mix sw L rt n N t p i j) p i j (cA 101 sw L rt n (t + 1) (65 + p) i j) = mix sw L rt n N t p i (j + 1) := by
  funext p' i' j'
  unfold put3 mix
  by_cases e : p' = p ∧ i' = i ∧ j' = j
  · obtain ⟨rfl, rfl, rfl⟩ := e
    rw [if_pos ⟨rfl, rfl, rfl⟩, if_pos ⟨hij, hj⟩, if_pos (by omega)]
  · rw [if_neg e]
    split
    · by_cases h : p' < p ∨ (p' = p ∧ (i' < i ∨ (i' = i ∧ j' < j)))
      · rw [if_pos h, if_pos (by omega)]
      · rw [if_neg h, if_neg (by omega)]
    · rfl
theorem mix_row {p i : Nat} : mix sw L rt n N t p i (N + 1) = mix sw L rt n N t p (i + 1) (i + 1) := by
  funext p' i' j'
  unfold mix
  split
  · by_cases h : p' < p ∨ (p' = p ∧ (i' < i ∨ (i' = i ∧ j' < N + 1)))
    · rw [if_pos h, if_pos (by omega)]
    · rw [if_neg h, if_neg (by omega)]
  · rfl
theorem mix_part {p : Nat} : mix sw L rt n N t p (N + 1) (N + 1) = mix sw L rt n N t (p + 1) 0 0 := by
  funext p' i' j'
  unfold mix
  split
  · by_cases h : p' < p ∨ (p' = p ∧ (i' < N + 1 ∨ (i' = N + 1 ∧ j' < N + 1)))
    · rw [if_pos h, if_pos (by omega)]
    · rw [if_neg h, if_neg (by omega)]
  · rfl
theorem mix_end : ∀ p i j, p < 5 → mix sw L rt n N t 5 0 0 p i j = full sw L rt n N (t + 1) p i j := by
  intro p i j hp
  unfold mix full
  split
  · rw [if_pos (by omega)]
  · rfl
def Flag (p i j : Nat) (g : Bool) : Prop := if g = true then tot (full sw L rt n N t) < tot (mix sw L rt n N t p i j) else mix sw L rt n N t p i j = full sw L rt n N t
theorem flag_start : Flag (sw := sw) (L := L) (rt := rt) (n := n) (N := N) (t := t) 0 0 0 false := by
  unfold Flag
  rw [if_neg (by decide)]
  exact mix_start
theorem flag_next {p i j : Nat} {g : Bool} (hp : p < 5) (hi : i < 9) (hj9 : j < 9) (hij : i ≤ j) (hj : j ≤ N) (h : Flag (sw := sw) (L := L) (rt := rt) (n := n) (N := N) (t := t) p i j g) :
    Flag (sw := sw) (L := L) (rt := rt) (n := n) (N := N) (t := t) p i (j + 1) (g || decide (cA 101 sw L rt n (t + 1) (65 + p) i j ≠ cA 101 sw L rt n t (65 + p) i j)) := by
  have hm := mix_put (sw := sw) (L := L) (rt := rt) (n := n) (t := t) (p := p) hij hj
  have hup : ∀ p' i' j', mix sw L rt n N t p i j p' i' j' ≤ mix sw L rt n N t p i (j + 1) p' i' j' := by
    intro p' i' j'
    rw [← hm]
    unfold put3
    split
    · rename_i e
      obtain ⟨rfl, rfl, rfl⟩ := e
      unfold mix
      rw [if_pos ⟨hij, hj⟩, if_neg (by omega)]
      exact cA_up t _ _ _
    · exact Nat.le_refl _
  have hat : mix sw L rt n N t p i j p i j = cA 101 sw L rt n t (65 + p) i j := by
    unfold mix
    rw [if_pos ⟨hij, hj⟩, if_neg (by omega)]
  have hat2 : mix sw L rt n N t p i (j + 1) p i j = cA 101 sw L rt n (t + 1) (65 + p) i j := by
    rw [← hm]
    unfold put3
    rw [if_pos ⟨rfl, rfl, rfl⟩]
  have h1 := cA_up (M := 101) (sw := sw) (L := L) (rt := rt) (n := n) t (65 + p) i j
  unfold Flag at *
  cases g with
  | true =>
    rw [if_pos rfl] at h
    rw [Bool.true_or, if_pos rfl]
    exact Nat.lt_of_lt_of_le h (tot_le hup)
  | false =>
    rw [if_neg (by decide)] at h
    rw [Bool.false_or]
    by_cases e : cA 101 sw L rt n (t + 1) (65 + p) i j = cA 101 sw L rt n t (65 + p) i j
    · rw [decide_eq_false (by simpa using e), if_neg (by decide), ← hm]
      funext p' i' j'
      unfold put3
      split
      · rename_i q
        obtain ⟨rfl, rfl, rfl⟩ := q
        rw [e, ← hat, h]
      · rw [h]
    · rw [decide_eq_true e, if_pos rfl, ← h]
      exact tot_lt hup hp hi hj9 (by rw [hat, hat2]; omega)
theorem flag_stands (H : Ok sw L rt N n) (h : Flag (sw := sw) (L := L) (rt := rt) (n := n) (N := N) (t := t) 5 0 0 false) (c : Int) (i j : Nat) (hj : j ≤ N) :
    min (cA 101 sw L rt n t c i j) 100 = min (A sw L rt n 600 c i j) 100 := by
  refine stand101 H (N := N) ?_ c i j hj
  intro c i j hj
  unfold Flag at h
  rw [if_neg (by decide)] at h
  by_cases hc : isP c = true
  · have hc2 := isP_iff.1 hc
    obtain ⟨p, rfl⟩ : ∃ p : Nat, c = 65 + (p : Int) := ⟨(c - 65).toNat, by omega⟩
    by_cases hij : i ≤ j
    · have h1 := mix_end (sw := sw) (L := L) (rt := rt) (n := n) (N := N) (t := t) p i j (by omega)
      rw [h] at h1
      unfold full at h1
      rw [if_pos ⟨hij, hj⟩, if_pos ⟨hij, hj⟩] at h1
      exact h1.symm
    · rw [cA_zero H _ hij, cA_zero H _ hij]
  · have hz : ∀ t, cA 101 sw L rt n t c i j = 0 := fun t => by
      unfold cA
      rcases Nat.eq_zero_or_pos (A sw L rt n t c i j) with h0 | h0
      · rw [h0]
        simp
      · exact absurd (A_fit H (u := (c, i, j)) h0).1 hc
    rw [hz, hz]
theorem flag_grows {g : Bool} (h : Flag (sw := sw) (L := L) (rt := rt) (n := n) (N := N) (t := t) 5 0 0 g) (hg : g = true) : tot (full sw L rt n N t) < tot (full sw L rt n N (t + 1)) := by
  unfold Flag at h
  rw [hg, if_pos rfl] at h
  have : tot (mix sw L rt n N t 5 0 0) = tot (full sw L rt n N (t + 1)) := sumTo_congr fun k hk => mix_end _ _ _ (by omega)
  rw [← this]
  exact h
theorem tot_cap : tot (full sw L rt n N t) ≤ 40905 := Nat.le_trans (sumTo_cap fun k _ => full_le _ _ _) (by decide)
end
end Go.Proofs.YtjpfalanoifpbaaDoor.T
end

section
set_option linter.unusedVariables false
set_option linter.unusedSimpArgs false
namespace Go.Proofs.YtjpfalanoifpbaaDoor.X
open Go.RowKit Go.Proofs.YtjpfalanoifpbaaDoorW.PrintWords Go.Proofs.YtjpfalanoifpbaaDoorW.PrintLast Go.Proofs.YtjpfalanoifpbaaDoorW.PrintMore Go.Proofs.YtjpfalanoifpbaaDoor.T
abbrev Tri := Int × Nat × Nat
def triV (u : Tri) : Value := .agg #[.int .i64 u.1, .int .i64 (u.2.1 : Nat), .int .i64 (u.2.2 : Nat)]
def natV (x : Nat) : Value := .int .i64 (x : Int)
theorem tri_eq (a b c a' b' c' : Int) (w : World) : (Op.equalIn 10000 139 (.agg #[.int .i64 a, .int .i64 b, .int .i64 c]) (.agg #[.int .i64 a', .int .i64 b', .int .i64 c'])).run Tryd.prog w = .ok (a == a' && (b == b' && c == c')) w := by
  have u3 := Tryd.underlying3
  have a3 := Tryd.isAgg3
  have z3 := Tryd.sizeOf3
  rw [show (10000 : Nat) = 9999 + 1 from rfl, Op.equalIn]
  simp only [Sem.run_bind, run_underlying Tryd.underlying139, Result.andThen_ok]
  simp only [Std.Legacy.Range.forIn_eq_forIn_range', Std.Legacy.Range.size, Nat.sub_zero, Nat.add_sub_cancel, Nat.div_one, List.range'_succ, List.range'_zero, List.forIn_cons, List.forIn_nil]
  go_simp
  by_cases h1 : a = a' <;> by_cases h2 : b = b' <;> by_cases h3 : c = c' <;> simp [h1, h2, h3]
theorem tri_check (em : Bool) (u : Tri) (w : World) : (Instr.checkKey em 10000 139 (triV u)).run Tryd.prog w = .ok () w := by
  have u3 := Tryd.underlying3
  have a3 := Tryd.isAgg3
  have z3 := Tryd.sizeOf3
  unfold triV
  rw [show (10000 : Nat) = 9998 + 1 + 1 from rfl, Instr.checkKey]
  simp only [Sem.run_bind, run_underlying Tryd.underlying139, Result.andThen_ok]
  simp only [Std.Legacy.Range.forIn_eq_forIn_range', Std.Legacy.Range.size, Nat.sub_zero, Nat.add_sub_cancel, Nat.div_one, List.range'_succ, List.range'_zero, List.forIn_cons, List.forIn_nil]
  have hk : ∀ (a : Int) w, (Instr.checkKey em (9998 + 1) 3 (.int .i64 a)).run Tryd.prog w = .ok () w := fun a w => Go.MapKept.run_checkKey u3 (show Go.MapKept.IsKey (.int .i64) (.int .i64 a) from rfl) em 9998
  go_simp
theorem tri_dec (k a : Tri) : (k.1 == a.1 && ((k.2.1 : Int) == (a.2.1 : Int) && (k.2.2 : Int) == (a.2.2 : Int))) = decide (a = k) := by
  obtain ⟨x, y, z⟩ := k
  obtain ⟨x', y', z'⟩ := a
  rw [Bool.eq_iff_iff]
  simp only [Bool.and_eq_true, beq_iff_eq, decide_eq_true_eq, Prod.mk.injEq]
  omega
theorem tri_find (k : Tri) : ∀ (es : List MapEntry) (l : List Tri) (i : Nat) (w : World), es.map (·.key) = l.map triV → (Instr.findAsking 139 (triV k) es i).run Tryd.prog w = .ok ((es[l.findIdx (· = k)]?).map fun e => (i + l.findIdx (· = k), e.val)) w
  | [], [], i, w, _ => by simp [Instr.findAsking]
  | [], _ :: _, i, w, h => by simp at h
  | _ :: _, [], i, w, h => by simp at h
  | e :: es, a :: l, i, w, h => by
    simp only [List.map_cons, List.cons.injEq] at h
    have he := tri_eq k.1 k.2.1 k.2.2 a.1 a.2.1 a.2.2 w
    rw [tri_dec] at he
    have ih := tri_find k es l (i + 1) w h.2
    unfold Instr.findAsking
    rw [Sem.run_bind, h.1]
    show ((Op.equalIn 10000 139 (triV k) (triV a)).run Tryd.prog w).andThen _ = _
    unfold triV
    rw [he]
    by_cases hk : a = k
    · subst hk
      simp [List.findIdx_cons]
    · unfold triV at ih
      simp only [Result.andThen_ok, hk, decide_false, Bool.false_eq_true, if_false, ih, List.findIdx_cons, cond_false, List.getElem?_cons_succ]
      cases es[l.findIdx (· = k)]? with
      | none => rfl
      | some x =>
        simp only [Option.map_some]
        rw [show i + 1 + l.findIdx (· = k) = i + (l.findIdx (· = k) + 1) by omega]
theorem tri_find0 (k : Tri) (es : List MapEntry) (l : List Tri) (w : World) (h : es.map (·.key) = l.map triV) : (Instr.findKey 139 (triV k) es).run Tryd.prog w = .ok ((es[l.findIdx (· = k)]?).map fun e => (l.findIdx (· = k), e.val)) w := by
  cases es with
  | nil =>
    cases l with
    | nil => simp [Instr.findKey, run_underlying Tryd.underlying139, Instr.findNow]
    | cons a l => simp at h
  | cons e es =>
    have hf := tri_find k (e :: es) l 0 w h
    have hn : Instr.findNow (.array 3 3) (triV k) (e :: es) 0 = none := by
      unfold Instr.findNow
      rfl
    simp only [Instr.findKey, Sem.run_bind, run_underlying Tryd.underlying139, Result.andThen_ok, hn]
    rw [hf]
    simp
theorem keyOk_tri : KeyOk Tryd.prog 139 triV where
  inj := fun a b h => by
    unfold triV at h
    simp only [Value.agg.injEq, Array.mk.injEq, List.cons.injEq, Value.int.injEq, true_and, and_true] at h
    exact Prod.ext h.1 (Prod.ext (by exact_mod_cast h.2.1) (by exact_mod_cast h.2.2))
  check := fun b k w => tri_check b k w
  find := fun k es l w h => tri_find0 k es l w h
  stays := fun k w => by simp [Instr.keyThatStays, Instr.sameBits, triV]
end Go.Proofs.YtjpfalanoifpbaaDoor.X
end

section
set_option linter.unusedVariables false
set_option linter.unusedSimpArgs false
namespace Go.Proofs.YtjpfalanoifpbaaDoor.X
open Go.RowKit Go.Proofs.YtjpfalanoifpbaaDoorW.PrintWords Go.Proofs.YtjpfalanoifpbaaDoorW.PrintLast Go.Proofs.YtjpfalanoifpbaaDoorW.PrintMore Go.Proofs.YtjpfalanoifpbaaDoor.T
structure Fo (w : World) (g : Nat) (sl : Value) (s : ByteArray) (M r : Nat) (a : Cnt) : Prop where
  blk : w.heap[g]? = some (.cells #[sl, .string s, .int .i64 (M : Nat), .map (some r)] 138 (0, 0))
  map : ∃ l, IsM triV natV w r l ∧ ∀ c i j, (findL l (c, i, j)).getD 0 = a c i j
theorem Fo.later {w w' : World} {g : Nat} {sl : Value} {s : ByteArray} {M r : Nat} {a : Cnt} (h : Fo w g sl s M r a) (hb : Below w.heap.size w w') : Fo w' g sl s M r a := by
  obtain ⟨l, h1, h2⟩ := h.map
  exact ⟨(hb.block _ (Array.getElem?_eq_some_iff.1 h.blk).1).trans h.blk, l, h1.below hb, h2⟩
theorem Fo.c1 {w : World} {g : Nat} {sl : Value} {s : ByteArray} {M r : Nat} {a : Cnt} (h : Fo w g sl s M r a) : w.cell? ⟨g, 1, none⟩ = some (.string s) := by
  rw [blk_cell h.blk]
  rfl
theorem Fo.c2 {w : World} {g : Nat} {sl : Value} {s : ByteArray} {M r : Nat} {a : Cnt} (h : Fo w g sl s M r a) : w.cell? ⟨g, 2, none⟩ = some (.int .i64 (M : Nat)) := by
  rw [blk_cell h.blk]
  rfl
theorem Fo.c3 {w : World} {g : Nat} {sl : Value} {s : ByteArray} {M r : Nat} {a : Cnt} (h : Fo w g sl s M r a) : w.cell? ⟨g, 3, none⟩ = some (.map (some r)) := by
  rw [blk_cell h.blk]
  rfl
theorem zero3 : ∀ w, (zeroValue 3).run Tryd.prog w = .ok (natV 0) w := fun _ => by kernel_rfl
set_option maxHeartbeats 2000000 in
set_option maxRecDepth 100000 in
theorem count_calls {g : Nat} {sl : Value} {s : ByteArray} {M r : Nat} {a : Cnt} {w : World} (h : Fo w g sl s M r a) (c : Int) (hc : 0 ≤ c ∧ c < 256) (i j : Nat) :
    Calls Tryd.prog 101 #[.pointer (some ⟨g, 0, none⟩), .int .u8 c, .int .i64 i, .int .i64 j] w fun e w' => e = .returned (.int .i64 (a c i j : Nat)) ∧ w' = w := by
  obtain ⟨l, hl, ha⟩ := h.map
  have c3 := h.c3
  have hw : IntKind.i64.wrap c = c := by rw [IntKind.wrap_i64]; omega
  have HZ := Lib.hid zero3
  have HL := Lib.hid hl
  have HA := Lib.hid ha
  clear h hl ha
  go_enter Tryd.func101, Tryd.ntmps101
  go_wp2_with (first | ((with_reducible refine gate_dst (N := 18) rfl ?_); refine map_get_event rfl 136 (.tmp 12) (.tmp 17) false rfl Tryd.underlying136 (enc := triV) (encv := natV) HZ.out keyOk_tri (c, i, j) rfl rfl HL.out ?_; rw [HA.out]; simp only [Bool.false_eq_true, if_false]))
  go_ret
  exact ⟨rfl, rfl⟩
theorem wrap_small {x : Int} (h0 : 0 ≤ x) (h1 : x ≤ 100000) : wrap64 x = x := by
  unfold wrap64
  omega
theorem cap_min {C p M : Nat} (hC : C ≤ 101) (hp : p ≤ 10201) (hM : M ≤ 101) : (if (M : Int) < wrap64 ((C : Int) + (p : Int)) then (M : Int) else wrap64 ((C : Int) + (p : Int))) = ((min (C + p) M : Nat) : Int) := by
  obtain ⟨x, hx⟩ : ∃ x, C + p = x := ⟨_, rfl⟩
  have e : (C : Int) + (p : Int) = (x : Int) := by rw [← hx]; simp
  rw [e, hx, wrap_small (by omega) (by omega)]
  split <;> omega
theorem cap_min2 {C p M : Nat} (hC : C ≤ 101) (hp : p ≤ 10201) : min (wrap64 ((C : Int) + (p : Int))) (M : Int) = ((min (C + p) M : Nat) : Int) := by
  obtain ⟨x, hx⟩ : ∃ x, C + p = x := ⟨_, rfl⟩
  have e : (C : Int) + (p : Int) = (x : Int) := by rw [← hx]; simp
  rw [e, hx, wrap_small (by omega) (by omega)]
  omega
theorem size_zero {q : ByteArray} (h : q.size = 0) : q = ByteArray.empty := by
  apply ByteArray.ext
  exact Array.eq_empty_of_size_eq_zero h
set_option maxHeartbeats 4000000 in
set_option maxRecDepth 100000 in
theorem ways_zero {g : Nat} {sl : Value} {s : ByteArray} {M r : Nat} {a : Cnt} (q : ByteArray) (i j : Nat) (w : World) (hq : q.size = 0) (h : Fo w g sl s M r a) :
    Calls Tryd.prog 99 #[.pointer (some ⟨g, 0, none⟩), .string q, .int .i64 i, .int .i64 j] w fun e w' => e = .returned (.int .i64 (cW M (ch s) a (lst q) i j : Nat)) ∧ Below w.heap.size w w' := by
  obtain rfl := size_zero hq
  rw [lst_nil hq, cW]
  clear hq
  by_cases hij : i = j
  · rw [if_pos hij]
    have hI : (i : Int) = j := by omega
    go_enter Tryd.func99, Tryd.ntmps99
    go_wp2
    go_ret
    exact ⟨rfl, Below.refl _ _⟩
  · rw [if_neg hij]
    have hI : ¬ (i : Int) = j := by omega
    go_enter Tryd.func99, Tryd.ntmps99
    go_wp2
    go_ret
    exact ⟨rfl, Below.refl _ _⟩
theorem toList_ne {q : ByteArray} (h : 0 < q.size) : q.toList.isEmpty = false := by
  have h2 : q.size = q.data.toList.length := rfl
  cases hq : q.toList with
  | nil =>
    rw [ByteArray.toList_eq] at hq
    rw [hq] at h2
    have h3 : q.size = 0 := h2
    omega
  | cons x l => rfl
def WaysAt (g : Nat) (sl : Value) (s : ByteArray) (M r : Nat) (a : Cnt) (d : Nat) : Prop := ∀ (q : ByteArray) (i j : Nat) (w : World), q.size = d → okR q → i ≤ 9 → j ≤ s.size → Fo w g sl s M r a →
    Calls Tryd.prog 99 #[.pointer (some ⟨g, 0, none⟩), .string q, .int .i64 i, .int .i64 j] w fun e w' => e = .returned (.int .i64 (cW M (ch s) a (lst q) i j : Nat)) ∧ Below w.heap.size w w'
set_option maxHeartbeats 4000000 in
set_option maxRecDepth 100000 in
theorem ways_step {g : Nat} {sl : Value} {s : ByteArray} {M r : Nat} {a : Cnt} (hM : 0 < M ∧ M ≤ 101) (ha : ∀ c i j, a c i j ≤ M) (hs8 : s.size ≤ 8) (d : Nat) (hd4 : d < 4) (IH : WaysAt g sl s M r a d) : WaysAt g sl s M r a (d + 1) := by
  intro q i j w hd hok hi hj hF
  have hne : q.toList.isEmpty = false := toList_ne (by omega)
  have hl := lst_cons (s := q) (by omega)
  have hq0 := hok 0 (by omega)
  have hch := ch_range q 0
  have hqs : (q.extract 1 q.size).size = d := by rw [ByteArray.size_extract]; omega
  have HI : Hid (∀ (i j : Nat) (w : World), i ≤ 9 → j ≤ s.size → Fo w g sl s M r a → Calls Tryd.prog 99 #[.pointer (some ⟨g, 0, none⟩), .string (q.extract 1 q.size), .int .i64 i, .int .i64 j] w fun e w' => e = .returned (.int .i64 (cW M (ch s) a (lst (q.extract 1 q.size)) i j : Nat)) ∧ Below w.heap.size w w') := Lib.hid (fun i j w => IH _ i j w hqs (okR_tail hok 1))
  obtain ⟨c, hc⟩ : ∃ c, ch q 0 = c := ⟨_, rfl⟩
  rw [hc] at hl hq0 hch
  obtain ⟨X, hX⟩ : ∃ X, cW M (ch s) a (lst q) i j = X := ⟨_, rfl⟩
  rw [hX]
  rw [hl, cW] at hX
  have HX := Lib.hid hX
  have HF := Lib.hid hF
  have HC := Lib.hid hc
  have HA := Lib.hid ha
  have HD := Lib.hid hd
  have hq1 : 0 < q.size := by omega
  have hq2 : 1 ≤ q.size := by omega
  clear hF hl hc ha IH hok hqs hX hd
  have hbt : (((q[0]'hq1).toNat : Nat) : Int) = c := (ch_at q 0 hq1).trans HC.out
  go_enter Tryd.func99, Tryd.ntmps99
  go_wp2_with fail
  go_quiet (fail)
  have HB := Lib.hid (pw_below_drewN (Below.refl w.heap.size w) nq)
  have HF := Lib.hid (HF.out.later HB.out)
  generalize w.drewN nq = w1 at HB HF ⊢
  go_wp2_with fail
  refine (isPart_calls c w1).mono ?_
  rintro e w2 ⟨rfl, rfl⟩
  cases hp : isP c with
  | false =>
    have HX2 := Lib.hid (show X = if i < j ∧ ch s i = c then cW M (ch s) a (lst (q.extract 1 q.size)) (i + 1) j else 0 by rw [← HX.out, hp, if_neg (by decide)])
    by_cases hij : i < j
    · have hI : (i : Int) < j := by omega
      have his : i < s.size := by omega
      have c1 := HF.out.c1
      have hbi : (((s[i]'his).toNat : Nat) : Int) = ch s i := ch_at s i his
      obtain ⟨x, hx⟩ : ∃ x, ch s i = x := ⟨_, rfl⟩
      rw [hx] at hbi
      have HXX := Lib.hid hx
      clear hx
      by_cases hxc : x = c
      · subst hxc
        have HX3 := Lib.hid (HX2.out.trans (if_pos ⟨hij, HXX.out⟩))
        have hi1 : i + 1 ≤ 9 := by omega
        go_wp2_with fail
        refine (HI.out (i + 1) j w2 hi1 hj HF.out).mono ?_
        rintro e w3 ⟨rfl, hb3⟩
        have HB3 := Lib.hid (HB.out.trans (hb3.mono HB.out.size))
        clear hb3
        go_wp2
        go_ret
        rw [HX3.out]
        exact ⟨rfl, HB3.out⟩
      · have HX3 := Lib.hid (HX2.out.trans (if_neg (fun q => hxc (HXX.out.symm.trans q.2))))
        go_wp2
        go_ret
        rw [HX3.out]
        exact ⟨rfl, HB.out⟩
    · have hI : ¬ (i : Int) < j := by omega
      have HX3 := Lib.hid (HX2.out.trans (if_neg (fun q => hij q.1)))
      go_wp2
      go_ret
      rw [HX3.out]
      exact ⟨rfl, HB.out⟩
  | true =>
    have HX2 := Lib.hid (show X = csum M (fun k => a c i k) (fun k => cW M (ch s) a (lst (q.extract 1 q.size)) k j) i (j + 1 - i) by rw [← HX.out, hp, if_pos rfl])
    clear HX
    obtain ⟨f, hf⟩ : ∃ f, (fun k => a c i k) = f := ⟨_, rfl⟩
    obtain ⟨h, hh⟩ : ∃ h, (fun k => cW M (ch s) a (lst (q.extract 1 q.size)) k j) = h := ⟨_, rfl⟩
    rw [hf, hh] at HX2
    have HFM := Lib.hid (show ∀ k, f k ≤ M by intro k; rw [← hf]; exact HA.out _ _ _)
    have HHM := Lib.hid (show ∀ k, h k ≤ M by intro k; rw [← hh]; exact cW_le hM.1 _ _ _)
    have HFE := Lib.hid (show ∀ k, a c i k = f k by intro k; rw [← hf])
    have HHE := Lib.hid (show ∀ k, cW M (ch s) a (lst (q.extract 1 q.size)) k j = h k by intro k; rw [← hh])
    clear hf hh
    go_wp2_with fail
    go_loopw [11, 12, 13] (fun o k v wr => ∃ e : Nat, e ≤ j + 1 - i ∧ o = .int .i64 (csum M f h i e : Nat) ∧ k = .int .i64 ((i + e : Nat) : Int) ∧ Hid (Below w.heap.size w wr) ∧ Hid (Fo wr g sl s M r a)) (fun _ k _ _ => j + 1 - (intOf k).toNat)
    case atStart => exact ⟨0, by omega, rfl, rfl, HB, HF⟩
    case round =>
      clear HB HF
      obtain ⟨e, he, rfl, rfl, HB, HF⟩ := hrel
      obtain ⟨x, hx⟩ : ∃ x, i + e = x := ⟨_, rfl⟩
      obtain ⟨C, hC⟩ : ∃ C, csum M f h i e = C := ⟨_, rfl⟩
      have hCM : C ≤ M := by rw [← hC]; exact csum_le _
      rw [hx, hC]
      by_cases hlt : x ≤ j
      · have hltI : (x : Int) ≤ j := by omega
        have HS1 : Hid (csum M f h i (e + 1) = if 0 < f x then min (C + f x * h x) M else C) := Lib.hid (by rw [csum, hx, hC])
        have HEX : Hid (e + 1 ≤ j + 1 - i ∧ i + (e + 1) = x + 1) := Lib.hid (by omega)
        have hx9 : x ≤ 9 := by omega
        clear hC hx
        go_wp2_with fail
        refine (count_calls HF.out c hch i x).mono ?_
        rintro e w2 ⟨rfl, rfl⟩
        rw [HFE.out]
        have hfm := HFM.out x
        have hhm := HHM.out x
        have HHX := Lib.hid (HHE.out x)
        obtain ⟨y, hy⟩ : ∃ y, f x = y := ⟨_, rfl⟩
        obtain ⟨z, hz⟩ : ∃ z, h x = z := ⟨_, rfl⟩
        rw [hy, hz] at HS1
        rw [hz] at HHX
        rw [hy] at hfm ⊢
        rw [hz] at hhm
        clear hy hz
        by_cases hpos : 0 < y
        · have hposI : 0 < (y : Int) := by omega
          have HS2 := Lib.hid (HS1.out.trans (if_pos hpos))
          obtain ⟨p, hpp⟩ : ∃ p, y * z = p := ⟨_, rfl⟩
          have hpb : p ≤ 10201 := by
            rw [← hpp]
            exact Nat.mul_le_mul (show y ≤ 101 by omega) (show z ≤ 101 by omega)
          have hpi : (y : Int) * (z : Int) = (p : Int) := by rw [← hpp]; simp
          rw [hpp] at HS2
          clear hpp
          have hwp : IntKind.i64.wrap (p : Int) = (p : Int) := i64_nat (Nat.lt_of_le_of_lt hpb (by decide))
          have hmi := cap_min (C := C) (p := p) (M := M) (by omega) hpb hM.2
          have hmj : min (wrap64 ((C : Int) + (p : Int))) (M : Int) = ((min (C + p) M : Nat) : Int) := cap_min2 (by omega) hpb
          generalize min (C + p) M = m at HS2 hmi hmj
          have c2 := HF.out.c2
          go_upto_region 16 with fail
          refine start_ (n := 15) (S := fun w' => w'.cell? ⟨g, 2, none⟩ = some (.int .i64 (M : Nat)) ∧ w'.cell? ⟨g, 1, none⟩ = some (.string s)) (ds := []) #[false, false, false, false, false, false, false, false, false, false, false, false, false, false, false] (by kernel_rfl) rfl rfl ⟨HF.out.c2, HF.out.c1⟩ (fun hHeld => ?_)
          refine pure_ (i := 0) (N := (some 58)) (v := ?_) (a' := ?_) #[true, false, false, false, false, false, false, false, false, false, false, false, false, false, false] rfl rfl (by kernel_rfl) (fun _ _ _ h => h) (Or.inl ⟨by rfl, ?_⟩) ?_ ?_
          rotate_left
          · intro w'; go_simp; first | done | with_reducible rfl
          rotate_left
          · simp only [Act.put, List.setIfInBounds_toArray, List.set_cons_zero, List.set_cons_succ, i64_w, i32_w]; rfl
          refine pure_ (i := 1) (N := (some 59)) (v := ?_) (a' := ?_) #[true, true, false, false, false, false, false, false, false, false, false, false, false, false, false] rfl rfl (by kernel_rfl) (fun _ _ _ h => h) (Or.inl ⟨by rfl, ?_⟩) ?_ ?_
          rotate_left
          · intro w'; go_simp; first | done | with_reducible rfl
          rotate_left
          · simp only [Act.put, List.setIfInBounds_toArray, List.set_cons_zero, List.set_cons_succ, i64_w, i32_w]; rfl
          refine pure_ (i := 2) (N := (some 60)) (v := ?_) (a' := ?_) #[true, true, true, false, false, false, false, false, false, false, false, false, false, false, false] rfl rfl (by kernel_rfl) (fun _ _ _ h => h) (Or.inl ⟨by rfl, ?_⟩) ?_ ?_
          rotate_left
          · intro w'; go_simp; first | done | with_reducible rfl
          rotate_left
          · simp only [Act.put, List.setIfInBounds_toArray, List.set_cons_zero, List.set_cons_succ, i64_w, i32_w]; rfl
          refine pure_ (i := 3) (N := (some 61)) (v := ?_) (a' := ?_) #[true, true, true, true, false, false, false, false, false, false, false, false, false, false, false] rfl rfl (by kernel_rfl) (fun _ _ _ h => h) (Or.inl ⟨by rfl, ?_⟩) ?_ ?_
          rotate_left
          · intro w'; go_simp; first | done | with_reducible rfl
          rotate_left
          · simp only [Act.put, List.setIfInBounds_toArray, List.set_cons_zero, List.set_cons_succ, i64_w, i32_w]; rfl
          refine pure_ (i := 4) (N := (some 62)) (v := ?_) (a' := ?_) #[true, true, true, true, true, false, false, false, false, false, false, false, false, false, false] rfl rfl (by kernel_rfl) (fun _ _ _ h => h) (Or.inl ⟨by rfl, ?_⟩) ?_ ?_
          rotate_left
          · intro w'; go_simp; first | done | with_reducible rfl
          rotate_left
          · simp only [Act.put, List.setIfInBounds_toArray, List.set_cons_zero, List.set_cons_succ, i64_w, i32_w]; rfl
          refine pure_ (i := 5) (N := (some 63)) (v := ?_) (a' := ?_) #[true, true, true, true, true, true, false, false, false, false, false, false, false, false, false] rfl rfl (by kernel_rfl) (fun _ _ _ h => h) (Or.inl ⟨by rfl, ?_⟩) ?_ ?_
          rotate_left
          · intro w'; go_simp; first | done | with_reducible rfl
          rotate_left
          · simp only [Act.put, List.setIfInBounds_toArray, List.set_cons_zero, List.set_cons_succ, i64_w, i32_w]; rfl
          refine pure_ (i := 9) (N := (some 67)) (v := ?_) (a' := ?_) #[true, true, true, true, true, true, false, false, false, true, false, false, false, false, false] rfl rfl (by kernel_rfl) (fun _ _ _ h => h) (Or.inl ⟨by rfl, ?_⟩) ?_ ?_
          rotate_left
          · intro w'; go_simp; first | done | with_reducible rfl
          rotate_left
          · simp only [Act.put, List.setIfInBounds_toArray, List.set_cons_zero, List.set_cons_succ, i64_w, i32_w]; rfl
          refine pure_ (i := 10) (N := (some 68)) (v := ?_) (a' := ?_) #[true, true, true, true, true, true, false, false, false, true, true, false, false, false, false] rfl rfl (by kernel_rfl) (fun _ _ _ h => h) (Or.inl ⟨by rfl, ?_⟩) ?_ ?_
          rotate_left
          · intro w'; go_simp; first | done | with_reducible rfl
          rotate_left
          · simp only [Act.put, List.setIfInBounds_toArray, List.set_cons_zero, List.set_cons_succ, i64_w, i32_w]; rfl
          refine pure_ (i := 11) (N := (some 69)) (v := ?_) (a' := ?_) #[true, true, true, true, true, true, false, false, false, true, true, true, false, false, false] rfl rfl (by kernel_rfl) (fun _ _ _ h => h) (Or.inl ⟨by rfl, ?_⟩) ?_ ?_
          rotate_left
          · intro w'; go_simp; first | done | with_reducible rfl
          rotate_left
          · simp only [Act.put, List.setIfInBounds_toArray, List.set_cons_zero, List.set_cons_succ, i64_w, i32_w]; rfl
          refine take_ (i := 12) (N := (some 70)) (v := ?_) (a' := ?_) #[true, true, true, true, true, true, false, false, false, true, true, true, true, false, false] rfl rfl (by kernel_rfl) (fun _ _ _ h => h) (Or.inl ⟨by rfl, ?_⟩) hHeld ?_ ?_
          rotate_left
          · rintro w' ⟨s0, s1⟩; go_simp; first | done | with_reducible rfl
          rotate_left
          · simp only [Act.put, List.setIfInBounds_toArray, List.set_cons_zero, List.set_cons_succ, i64_w, i32_w]; rfl
          refine one_ (i := 6) (N := (some 64)) #[true, true, true, true, true, true, true, false, false, true, true, true, true, false, false] rfl rfl (by kernel_rfl) (by decide) (fun K hK => ?_)
          refine goes_ Tryd.func99 (by kernel_rfl) rfl #[.pointer (some ⟨g, 0, none⟩), .string (q.extract 1 q.size), .int .i64 x, .int .i64 j] (by rfl) rfl rfl (by (try simp only [List.map_toArray, List.map_cons, List.map_nil]); first | done | rfl) ?_
          refine (HI.out x j _ hx9 hj (HF.out.later (Below.refl _ _).drew)).mono ?_
          rintro e w3 ⟨rfl, hb3⟩
          refine ⟨_, rfl, ?_⟩
          rw [HHX.out]
          have hbd := (Below.refl w2.heap.size w2).drew.trans hb3
          have HB3 := Lib.hid (HB.out.trans (hbd.mono HB.out.size))
          have HF3 := Lib.hid (HF.out.later hbd)
          clear hb3 hbd HB HF c2
          refine hK.out _ _ ⟨HF3.out.c2, HF3.out.c1⟩ (fun hHeld => ?_)
          clear hK K
          refine norm_ (a' := ?_) ?_ ?_
          rotate_left
          · show Act.put _ (some 64) _ = _; simp only [Act.put, List.setIfInBounds_toArray, List.set_cons_zero, List.set_cons_succ, i64_w, i32_w]; rfl
          refine pure_ (i := 7) (N := (some 65)) (v := (.int .i64 (p : Nat))) (a' := ?_) #[true, true, true, true, true, true, true, true, false, true, true, true, true, false, false] rfl rfl (by kernel_rfl) (fun _ _ _ h => h) (Or.inl ⟨by rfl, ?_⟩) ?_ ?_
          · intro w'; go_simp; first | done | with_reducible rfl
          rotate_left
          · simp only [Act.put, List.setIfInBounds_toArray, List.set_cons_zero, List.set_cons_succ, i64_w, i32_w]; rfl
          refine pure_ (i := 8) (N := (some 66)) (v := ?_) (a' := ?_) #[true, true, true, true, true, true, true, true, true, true, true, true, true, false, false] rfl rfl (by kernel_rfl) (fun _ _ _ h => h) (Or.inl ⟨by rfl, ?_⟩) ?_ ?_
          rotate_left
          · intro w'; go_simp; first | done | with_reducible rfl
          rotate_left
          · simp only [Act.put, List.setIfInBounds_toArray, List.set_cons_zero, List.set_cons_succ, i64_w, i32_w]; rfl
          refine pure_ (i := 13) (N := (some 71)) (v := (.int .i64 (m : Nat))) (a' := ?_) #[true, true, true, true, true, true, true, true, true, true, true, true, true, true, false] rfl rfl (by kernel_rfl) (fun _ _ _ h => h) (Or.inl ⟨by rfl, ?_⟩) ?_ ?_
          · intro w'; go_simp; first | done | with_reducible rfl
          rotate_left
          · simp only [Act.put, List.setIfInBounds_toArray, List.set_cons_zero, List.set_cons_succ, i64_w, i32_w]; rfl
          refine pure_ (i := 14) (N := (some 11)) (v := ?_) (a' := ?_) #[true, true, true, true, true, true, true, true, true, true, true, true, true, true, true] rfl rfl (by kernel_rfl) (fun _ _ _ h => h) (Or.inl ⟨by rfl, ?_⟩) ?_ ?_
          rotate_left
          · intro w'; go_simp; first | done | with_reducible rfl
          rotate_left
          · simp only [Act.put, List.setIfInBounds_toArray, List.set_cons_zero, List.set_cons_succ, i64_w, i32_w]; rfl
          refine done_ (by kernel_rfl) ?_
          go_wp2_with fail
          refine ⟨⟨e + 1, HEX.out.1, by rw [HS2.out], by rw [HEX.out.2]; go_num, HB3, HF3⟩, by simp [intOf]; omega⟩
        · have HS2 := Lib.hid (HS1.out.trans (if_neg hpos))
          obtain rfl : y = 0 := by omega
          go_wp2_with fail
          refine ⟨⟨e + 1, HEX.out.1, by rw [HS2.out], by rw [HEX.out.2]; go_num, HB, HF⟩, by simp [intOf]; omega⟩
      · have hltI : ¬ (x : Int) ≤ j := by omega
        obtain rfl : e = j + 1 - i := by omega
        have HX3 := Lib.hid (HX2.out.trans hC)
        go_wp2
        go_ret
        rw [HX3.out]
        exact ⟨rfl, HB.out⟩
theorem ways_calls {g : Nat} {sl : Value} {s : ByteArray} {M r : Nat} {a : Cnt} (hM : 0 < M ∧ M ≤ 101) (ha : ∀ c i j, a c i j ≤ M) (hs8 : s.size ≤ 8) : ∀ d, d ≤ 4 → WaysAt g sl s M r a d
  | 0, _ => fun q i j w hd _ _ _ hF => ways_zero q i j w hd hF
  | d + 1, h => ways_step hM ha hs8 d (by omega) (ways_calls hM ha hs8 d (by omega))
end Go.Proofs.YtjpfalanoifpbaaDoor.X
end

section
set_option linter.unusedVariables false
set_option linter.unusedSimpArgs false
namespace Go.Proofs.YtjpfalanoifpbaaDoor.X
open Go.RowKit Go.Proofs.YtjpfalanoifpbaaDoorW.PrintWords Go.Proofs.YtjpfalanoifpbaaDoorW.PrintLast Go.Proofs.YtjpfalanoifpbaaDoorW.PrintMore Go.Proofs.YtjpfalanoifpbaaDoor.T
structure Itr (w0 w : World) (r1 r2 r : Nat) (es : Array MapEntry) (clock : Nat) (l2 : List (Tri × Nat)) (seen : Array Nat) (c0 : Nat) : Prop where
  it : w.heap[r]? = some (.mapIter (some r1) clock seen c0)
  le : clock ≤ c0
  m1 : w.heap[r1]? = some (.map es clock)
  m2 : IsM triV natV w r2 l2
  bl : Below w0.heap.size w0 w
theorem Itr.later {w0 w w' : World} {r1 r2 r : Nat} {es : Array MapEntry} {clock : Nat} {l2 : List (Tri × Nat)} {seen : Array Nat} {c0 : Nat} (h : Itr w0 w r1 r2 r es clock l2 seen c0) (hb : Below w.heap.size w w') : Itr w0 w' r1 r2 r es clock l2 seen c0 :=
  ⟨(hb.block _ (Array.getElem?_eq_some_iff.1 h.it).1).trans h.it, h.le, (hb.block _ (Array.getElem?_eq_some_iff.1 h.m1).1).trans h.m1, h.m2.below hb, h.bl.trans (hb.mono h.bl.size)⟩
theorem Itr.step {w0 w w1 : World} {r1 r2 r : Nat} {es : Array MapEntry} {clock : Nat} {l2 : List (Tri × Nat)} {seen : Array Nat} {c0 : Nat} (h : Itr w0 w r1 r2 r es clock l2 seen c0) (hr : w0.heap.size ≤ r) (hw : w1 = w ∨ w1 = w.drew) (b : Nat) : Itr w0 (Go.ChangeMaps.setBlock w1 r (.mapIter (some r1) clock (seen.push b) clock)) r1 r2 r es clock l2 (seen.push b) clock := by
  have h1 : Itr w0 w1 r1 r2 r es clock l2 seen c0 := by
    rcases hw with rfl | rfl
    · exact h
    · exact h.later (Below.refl _ _).drew
  have hne1 : r1 ≠ r := by
    rintro e
    have := h1.it
    rw [← e, h1.m1] at this
    cases this
  have hne2 : r2 ≠ r := by
    rintro e
    obtain ⟨es2, clock2, hb2, _⟩ := h1.m2
    have := h1.it
    rw [← e, hb2] at this
    cases this
  have ho : ∀ k, k ≠ r → (Go.ChangeMaps.setBlock w1 r (.mapIter (some r1) clock (seen.push b) clock)).heap[k]? = w1.heap[k]? := fun k hk => Array.getElem?_setIfInBounds_ne (Ne.symm hk)
  refine ⟨Array.getElem?_setIfInBounds_self_of_lt (Array.getElem?_eq_some_iff.1 h1.it).1, Nat.le_refl _, (ho _ hne1).trans h1.m1, h1.m2.of_heap (ho _ hne2), ?_⟩
  exact h1.bl.trans ⟨rfl, rfl, rfl, by simp [Go.ChangeMaps.setBlock], fun k hk => ho k (by omega)⟩
theorem iter_seen {w : World} {r : Nat} {a : Option Nat} {b : Nat} {s : Array Nat} {c : Nat} (h : w.heap[r]? = some (.mapIter a b s c)) : w.iterSeen r = s := by
  unfold World.iterSeen
  rw [h]
def Agrees (l2 : List (Tri × Nat)) (x : MapEntry) : Prop := ∀ u v, x.key = triV u → x.val = natV v → (findL l2 u).getD 0 = v
theorem natV_inj {a b : Nat} (h : natV a = natV b) : a = b := by
  unfold natV at h
  injection h with _ h
  exact_mod_cast h
set_option maxHeartbeats 4000000 in
set_option maxRecDepth 100000 in
theorem same_calls {r1 r2 : Nat} {l1 l2 : List (Tri × Nat)} {w : World} (h1 : IsM triV natV w r1 l1) (h2 : IsM triV natV w r2 l2) :
    Calls Tryd.prog 100 #[.map (some r1), .map (some r2)] w fun e w' => (∃ b, e = .returned (.bool b) ∧ (b = true → ∀ p ∈ l1, (findL l2 p.1).getD 0 = p.2)) ∧ Below w.heap.size w w' := by
  obtain ⟨es, clock, hb, hl, hst⟩ := h1
  have hrg := run_range_map (P := Tryd.prog) w 136 139 3 r1 es clock Tryd.underlying136 hb
  have HI : Hid (Itr w (w.alloc (.mapIter (some r1) clock #[] clock)) r1 r2 w.heap.size es clock l2 #[] clock) := Lib.hid ⟨blk_new _ _, Nat.le_refl _, ((below_one (w := w) (.mapIter (some r1) clock #[] clock)).block _ (Array.getElem?_eq_some_iff.1 hb).1).trans hb, h2.below (below_one _), below_one _⟩
  have HEV := Lib.hid (show ∀ x ∈ es.toList, ∃ u v, x.key = triV u ∧ x.val = natV v ∧ (u, v) ∈ l1 from fun x hx => by
    have h3 : (x.key, x.val) ∈ es.toList.map fun e => (e.key, e.val) := List.mem_map.2 ⟨x, hx, rfl⟩
    rw [hl] at h3
    obtain ⟨p, hp, e⟩ := List.mem_map.1 h3
    exact ⟨p.1, p.2, (congrArg Prod.fst e).symm, (congrArg Prod.snd e).symm, hp⟩)
  have HVE := Lib.hid (show ∀ p ∈ l1, ∃ x ∈ es.toList, x.key = triV p.1 ∧ x.val = natV p.2 from fun p hp => by
    have h3 : (triV p.1, natV p.2) ∈ l1.map fun p => (triV p.1, natV p.2) := List.mem_map.2 ⟨p, hp, rfl⟩
    rw [← hl] at h3
    obtain ⟨x, hx, e⟩ := List.mem_map.1 h3
    exact ⟨x, hx, congrArg Prod.fst e, congrArg Prod.snd e⟩)
  have HST := Lib.hid hst
  have HZ := Lib.hid zero3
  clear hb hl hst h2
  go_enter Tryd.func100, Tryd.ntmps100
  go_wp2_with fail
  clear hrg
  generalize w.alloc (.mapIter (some r1) clock #[] clock) = w0 at HI ⊢
  obtain ⟨r, hr⟩ : ∃ r, w.heap.size = r := ⟨_, rfl⟩
  rw [hr] at HI ⊢
  go_loopw [] (fun wr => ∃ (seen : Array Nat) (c0 : Nat), Hid (Itr w wr r1 r2 r es clock l2 seen c0) ∧ Hid (∀ x ∈ es.toList, seen.contains x.born = true → Agrees l2 x)) (fun wr => (leftOf es (wr.iterSeen r)).size)
  case atStart => exact ⟨#[], clock, HI, Lib.hid (fun x _ h => by simp at h)⟩
  case round =>
    clear HI
    obtain ⟨seen, c0, HI, HA⟩ := hrel
    rcases run_next_at (P := Tryd.prog) wr 0 r r1 clock c0 seen es clock HI.out.it HI.out.m1 HST.out.1 HI.out.le with ⟨h0, hrun⟩ | ⟨e, he, w1, hw1, hrun⟩
    · have hnx : ∀ ty, (Instr.next (.pointer (some ⟨r, 0, none⟩)) false ty).run Tryd.prog wr = _ := fun _ => hrun
      clear hrun
      go_wp2
      go_ret
      refine ⟨⟨true, rfl, fun _ p hp => ?_⟩, HI.out.bl⟩
      obtain ⟨x, hx, hk, hv⟩ := HVE.out p hp
      exact HA.out x hx (all_seen es seen h0 x hx) p.1 p.2 hk hv
    · have hem := (mem_left he).1
      obtain ⟨u, v, hk, hv, hp⟩ := HEV.out e hem
      have HI2 := Lib.hid (HI.out.step (by omega) hw1 e.born)
      have hen := run_entry_at (P := Tryd.prog) _ r r1 clock seen es clock e HI2.out.it HI2.out.m1 hem HST.out.2.1
      have HLS := Lib.hid (show (leftOf es (seen.push e.born)).size < (leftOf es (wr.iterSeen r)).size by rw [iter_seen HI.out.it]; exact left_shrinks es seen e he)
      have HE : Hid (∀ x ∈ es.toList, (seen.push e.born).contains x.born = true → seen.contains x.born = true ∨ x = e) := Lib.hid (fun x hx hc => by
        rw [contains_push] at hc
        rcases Bool.or_eq_true _ _ ▸ hc with h1 | h1
        · exact .inl h1
        · exact .inr (born_inj HST.out.2.1 hx hem (beq_iff_eq.1 h1)))
      rw [hk, hv] at hrun hen
      have HKV := Lib.hid (And.intro hk hv)
      obtain ⟨w2, hw2⟩ : ∃ w2, Go.ChangeMaps.setBlock w1 r (.mapIter (some r1) clock (seen.push e.born) clock) = w2 := ⟨_, rfl⟩
      rw [hw2] at hrun hen HI2
      have hnx : ∀ ty, (Instr.next (.pointer (some ⟨r, 0, none⟩)) false ty).run Tryd.prog wr = _ := fun _ => hrun
      generalize e.born = eb at *
      clear hrun hw2 he hk hv hem
      unfold triV natV at hen hnx
      have HI3 := Lib.hid (HI2.out.later (below_one (w := w2) (.cells #[.int .i64 u.1, .int .i64 (u.2.1 : Nat), .int .i64 (u.2.2 : Nat)] 139)))
      have HA2 := Lib.hid (show (findL l2 u).getD 0 = v → ∀ x ∈ es.toList, (seen.push eb).contains x.born = true → Agrees l2 x from fun hy x hx hc => by
        rcases HE.out x hx hc with h1 | h1
        · exact HA.out x hx h1
        · intro u' v' k1 k2
          rw [h1, HKV.out.1] at k1
          rw [h1, HKV.out.2] at k2
          rw [← keyOk_tri.inj _ _ k1, ← natV_inj k2]
          exact hy)
      obtain ⟨y, hy⟩ : ∃ y, (findL l2 u).getD 0 = y := ⟨_, rfl⟩
      rw [hy] at HA2
      have HY := Lib.hid hy
      clear hy
      by_cases hyv : y = v
      · subst hyv
        go_wp2_with (first | ((with_reducible refine gate_dst (N := 16) rfl ?_); refine map_get_event rfl 136 (.tmp 14) (.tmp 15) false rfl Tryd.underlying136 (enc := triV) (encv := natV) HZ.out keyOk_tri u rfl rfl HI3.out.m2 ?_; rw [HY.out]; simp only [Bool.false_eq_true, if_false]; unfold natV))
        refine ⟨⟨seen.push eb, clock, HI3, Lib.hid (HA2.out rfl)⟩, ?_⟩
        rw [iter_seen HI3.out.it]
        exact HLS.out
      · have hyI : ¬ (y : Int) = (v : Int) := by omega
        go_wp2_with (first | ((with_reducible refine gate_dst (N := 16) rfl ?_); refine map_get_event rfl 136 (.tmp 14) (.tmp 15) false rfl Tryd.underlying136 (enc := triV) (encv := natV) HZ.out keyOk_tri u rfl rfl HI3.out.m2 ?_; rw [HY.out]; simp only [Bool.false_eq_true, if_false]; unfold natV))
        go_ret
        exact ⟨⟨false, rfl, fun h => by cases h⟩, HI3.out.bl⟩
end Go.Proofs.YtjpfalanoifpbaaDoor.X
end

section
set_option linter.unusedVariables false
set_option linter.unusedSimpArgs false
namespace Go.Proofs.YtjpfalanoifpbaaDoor.X
open Go.RowKit Go.Proofs.YtjpfalanoifpbaaDoorW.PrintWords Go.Proofs.YtjpfalanoifpbaaDoorW.PrintLast Go.Proofs.YtjpfalanoifpbaaDoorW.PrintMore Go.Proofs.YtjpfalanoifpbaaDoor.T
def MapC (w : World) (r : Nat) (b : Cnt) : Prop := ∃ l, IsM triV natV w r l ∧ ∀ c i j, (findL l (c, i, j)).getD 0 = b c i j
theorem MapC.later {w w' : World} {r : Nat} {b : Cnt} (h : MapC w r b) (hb : Below w.heap.size w w') : MapC w' r b := by
  obtain ⟨l, h1, h2⟩ := h
  exact ⟨l, h1.below hb, h2⟩
theorem MapC.congr {w : World} {r : Nat} {b b' : Cnt} (h : MapC w r b) (e : ∀ c i j, b c i j = b' c i j) : MapC w r b' := by
  obtain ⟨l, h1, h2⟩ := h
  exact ⟨l, h1, fun c i j => (h2 c i j).trans (e c i j)⟩
theorem MapC.lt {w : World} {r : Nat} {b : Cnt} (h : MapC w r b) : r < w.heap.size := by
  obtain ⟨l, h1, _⟩ := h
  exact h1.lt
theorem MapC.new {w w1 : World} (h1 : w1.heap[w.heap.size]? = some (.map #[] 0)) : MapC w1 w.heap.size fun _ _ _ => 0 :=
  ⟨[], ⟨#[], 0, h1, rfl, Go.MapKept.stamped_empty 0⟩, fun _ _ _ => rfl⟩
structure Tr (w0 w : World) (g : Nat) (sl : Value) (s : ByteArray) (M rk rn : Nat) (a b : Cnt) : Prop where
  fo : Fo w g sl s M rk a
  nx : MapC w rn b
  bl : Below w0.heap.size w0 w
  hg : w0.heap.size ≤ g
  hk : w0.heap.size ≤ rk
  hn : w0.heap.size ≤ rn
  ne : rk ≠ rn
theorem Tr.later {w0 w w' : World} {g : Nat} {sl : Value} {s : ByteArray} {M rk rn : Nat} {a b : Cnt} (h : Tr w0 w g sl s M rk rn a b) (hb : Below w.heap.size w w') : Tr w0 w' g sl s M rk rn a b :=
  ⟨h.fo.later hb, h.nx.later hb, h.bl.trans (hb.mono h.bl.size), h.hg, h.hk, h.hn, h.ne⟩
theorem Tr.congr {w0 w : World} {g : Nat} {sl : Value} {s : ByteArray} {M rk rn : Nat} {a b b' : Cnt} (h : Tr w0 w g sl s M rk rn a b) (e : ∀ c i j, b c i j = b' c i j) : Tr w0 w g sl s M rk rn a b' :=
  ⟨h.fo, h.nx.congr e, h.bl, h.hg, h.hk, h.hn, h.ne⟩
theorem Tr.gn {w0 w : World} {g : Nat} {sl : Value} {s : ByteArray} {M rk rn : Nat} {a b : Cnt} (h : Tr w0 w g sl s M rk rn a b) : g ≠ rn := by
  rintro rfl
  obtain ⟨l, ⟨es, clock, hb, _⟩, _⟩ := h.nx
  have := h.fo.blk
  rw [hb] at this
  cases this
theorem Tr.put {w0 w : World} {g : Nat} {sl : Value} {s : ByteArray} {M rk rn : Nat} {a b b' : Cnt} (h : Tr w0 w g sl s M rk rn a b) (c : Int) (i j m : Nat) (e : ∀ c' i' j', b' c' i' j' = if (c', i', j') = (c, i, j) then m else b c' i' j') :
    ∃ w1, (Instr.mapUpdate 136 (.map (some rn)) (triV (c, i, j)) (natV m)).run Tryd.prog w = .ok () w1 ∧ Tr w0 w1 g sl s M rk rn a b' := by
  obtain ⟨l, h1, h2⟩ := h.nx
  obtain ⟨o, hrun, hm⟩ := run_update_is Tryd.underlying136 keyOk_tri h1 (c, i, j) m
  have hot : ∀ k, k ≠ rn → (putObj w rn o).heap[k]? = w.heap[k]? := fun k hk => Array.getElem?_setIfInBounds_ne (Ne.symm hk)
  obtain ⟨lk, hk1, hk2⟩ := h.fo.map
  refine ⟨_, hrun, ⟨(hot _ h.gn).trans h.fo.blk, lk, hk1.of_heap (hot _ h.ne), hk2⟩, ⟨_, hm, fun c' i' j' => ?_⟩, h.bl.trans ⟨rfl, rfl, rfl, by simp [putObj], fun k hk => hot k (by have := h.hn; omega)⟩, h.hg, h.hk, h.hn, h.ne⟩
  rw [findL_putL, e]
  by_cases q : (c', i', j') = (c, i, j)
  · rw [if_pos q.symm, if_pos q]
    rfl
  · rw [if_neg (fun z => q z.symm), if_neg q]
    exact h2 c' i' j'
theorem Tr.turn {w0 w : World} {g : Nat} {sl : Value} {s : ByteArray} {M rk rn : Nat} {a b : Cnt} (h : Tr w0 w g sl s M rk rn a b) : Fo (w.setCell ⟨g, 3, none⟩ (.map (some rn))) g sl s M rn b ∧ Below w0.heap.size w0 (w.setCell ⟨g, 3, none⟩ (.map (some rn))) := by
  refine ⟨⟨?_, ?_⟩, h.bl.setCell (p := ⟨g, 3, none⟩) h.hg _⟩
  · have := blk_set h.fo.blk 3 (.map (some rn))
    rw [this]
    rfl
  · obtain ⟨l, h1, h2⟩ := h.nx
    exact ⟨l, h1.of_heap (Below.heap_setCell w ⟨g, 3, none⟩ _ rn (Ne.symm h.gn)), h2⟩
theorem Tr.look {w0 w : World} {g : Nat} {sl : Value} {s : ByteArray} {M rk rn : Nat} {a b : Cnt} (h : Tr w0 w g sl s M rk rn a b) (c : Int) (i j : Nat) :
    (Instr.lookup 136 (.map (some rn)) (.agg #[.int .i64 c, .int .i64 (i : Nat), .int .i64 (j : Nat)]) false).run Tryd.prog w = .ok (.int .i64 (b c i j : Nat)) w := by
  obtain ⟨l, h1, h2⟩ := h.nx
  have := run_lookup_is Tryd.underlying136 (z := 0) zero3 keyOk_tri h1 (c, i, j) false
  rw [h2] at this
  exact this
theorem Tr.agree {w0 w : World} {g : Nat} {sl : Value} {s : ByteArray} {M rk rn : Nat} {a b : Cnt} (h : Tr w0 w g sl s M rk rn a b) : ∃ l1 l2, IsM triV natV w rn l1 ∧ IsM triV natV w rk l2 ∧ ((∀ p ∈ l1, (findL l2 p.1).getD 0 = p.2) → ∀ c i j, b c i j = a c i j ∨ b c i j = 0) := by
  obtain ⟨l1, h1, h2⟩ := h.nx
  obtain ⟨l2, h3, h4⟩ := h.fo.map
  refine ⟨l1, l2, h1, h3, fun hp c i j => ?_⟩
  rw [← h2, ← h4]
  cases hf : findL l1 (c, i, j) with
  | none => exact .inr rfl
  | some v => exact .inl (hp _ (findL_mem hf)).symm
theorem trees_fin {sw : Nat → Int} {L : Nat → Int} {rt : Nat → List Int} {n N M m j : Nat} {a b : Cnt} (H : Ok sw L rt N n) (hM : 0 < M) (hm : m ≤ 600) (ha : ∀ c x y, y ≤ N → a c x y = cA M sw L rt n m c x y) (hb : ∀ c x y, b c x y = nx M sw L rt n N a (N + 1) j 0 c x y) (hag : ∀ c x y, b c x y = a c x y ∨ b c x y = 0) (c : Int) (x y : Nat) (hy : y ≤ N) : a c x y = cA M sw L rt n 600 c x y := by
  have key : ∀ c x y, y ≤ N → cA M sw L rt n (m + 1) c x y = cA M sw L rt n m c x y := fun c x y hy => by
    have h1 := nx_cA hM H ha (j := j) c x y hy
    rw [← hb] at h1
    have h2 := cA_up (M := M) (sw := sw) (L := L) (rt := rt) (n := n) m c x y
    rcases hag c x y with h3 | h3
    · rw [← h1, h3, ha c x y hy]
    · omega
  have := cA_stands hM key (600 - m) c x y hy
  rw [show m + (600 - m) = 600 by omega] at this
  rw [ha c x y hy, this]
theorem wrap_add {v z p : Nat} (hv : v ≤ 101) (hz : z ≤ 101) (hp : v + z = p) : wrap64 ((v : Int) + (z : Int)) = (p : Int) := by
  have e : (v : Int) + (z : Int) = (p : Int) := by rw [← hp]; simp
  rw [e, wrap_small (by omega) (by omega)]
theorem wrap_addk {v z p : Nat} (hv : v ≤ 101) (hz : z ≤ 101) (hp : v + z = p) : IntKind.i64.wrap ((v : Int) + (z : Int)) = (p : Int) := by
  have e : (v : Int) + (z : Int) = (p : Int) := by rw [← hp]; simp
  rw [e]
  exact i64_nat (Nat.lt_of_le_of_lt (show p ≤ 202 by omega) (by decide))
theorem min_cast (p M : Nat) : min (p : Int) (M : Int) = ((min p M : Nat) : Int) := by omega
theorem key_new (w : World) (a b c : Value) : (w.alloc (.cells #[a, b, c] 139)).heap[w.heap.size]? = some (.cells #[a, b, c] 139 (0, 0)) := blk_new w _
set_option maxHeartbeats 16000000 in
set_option maxRecDepth 100000 in
theorem trees_calls (A : Option Addr) (n c : Nat) (L : Nat → Int) (R : Nat → ByteArray) (s : ByteArray) (M : Nat) (w : World) (hA : Sr w A n c L R) (hg : Gr L R n) (hs8 : s.size ≤ 8) (hM : 0 < M ∧ M ≤ 101) :
    Calls Tryd.prog 66 #[.slice A n c, .string s, .int .i64 (M : Nat)] w fun e w' => e = .returned (.int .i64 (treesN M L R n s : Nat)) ∧ Below w.heap.size w w' := by
  obtain ⟨b, off, rfl, hnc, hP⟩ := hA.open hg.n1
  have HP := Lib.hid hP
  have HG := Lib.hid hg
  have hn8 := hg.n8
  have hn1 := hg.n1
  have HOK : Hid (Ok (ch s) L (fun k => lst (R k)) s.size n) := Lib.hid (Gs.Ok ⟨hg.ok, hs8⟩)
  have HM := Lib.hid hM
  clear hA hP hg
  obtain ⟨X, hT⟩ : ∃ X, treesN M L R n s = X := ⟨_, rfl⟩
  have HT : Hid (cA M (ch s) L (fun k => lst (R k)) n 600 (L 0) 0 s.size = X) := Lib.hid hT
  rw [hT]
  clear hT
  obtain ⟨rt, hrt⟩ : ∃ rt, (fun k => lst (R k)) = rt := ⟨_, rfl⟩
  rw [hrt] at HT HOK
  have HRT := Lib.hid (show ∀ k, rt k = lst (R k) from fun k => by rw [← hrt])
  clear hrt
  go_enter Tryd.func66, Tryd.ntmps66
  go_wp2_with (first | ((with_reducible refine gate_op (op := .makeMap 136 none) rfl ?_); refine map_make_event rfl 136 rfl ?_; intro rk wm hrk hmk hbk; have HMK := Lib.hid hmk; have HBK := Lib.hid hbk; have HRK := Lib.hid hrk; clear hmk hbk hrk) | ((with_reducible refine gate_dst (N := 19) rfl ?_); refine box_event ?hg (N := 19) ?hd (cs := #[.slice (some ⟨b, off, none⟩) n c, .string s, .int .i64 (M : Nat), .map (some rk)]) (t := 138) ?hr ?_; (case hd => rfl); (case hg => rfl); (case hr => first | (go_simp; done) | (go_simp; rfl)); intro gw hgw wb hbw hbb; have HBX := Lib.hid hbw; have HGW := Lib.hid hgw; have HB0 := Lib.hid (hbb); clear hgw hbw hbb))
  have HB := Lib.hid (below_step HBK.out HB0.out)
  have HFO : Hid (Fo wb gw (.slice (some ⟨b, off, none⟩) n c) s M rk fun _ _ _ => 0) := Lib.hid ⟨HBX.out, by
    have h1 : wb.heap[rk]? = some (.map #[] 0) := (HB0.out.block _ (Array.getElem?_eq_some_iff.1 HMK.out).1).trans HMK.out
    exact ⟨[], ⟨#[], 0, h1, rfl, Go.MapKept.stamped_empty 0⟩, fun _ _ _ => rfl⟩⟩
  have HG2 : Hid (w.heap.size ≤ gw) := Lib.hid (by rw [HGW.out]; exact HBK.out.size)
  have HK2 : Hid (w.heap.size ≤ rk) := Lib.hid (Nat.le_of_eq HRK.out.symm)
  clear HMK HBK HRK HBX HGW HB0
  obtain ⟨sl, hsl⟩ : ∃ sl, Value.slice (some ⟨b, off, none⟩) n c = sl := ⟨_, rfl⟩
  rw [hsl] at HFO
  clear hsl
  go_wp2_with fail
  go_loopw [20] (fun i wr => ∃ (m rk : Nat) (a : Cnt), m ≤ 600 ∧ i = .int .i64 m ∧ Hid (∀ c x y, y ≤ s.size → a c x y = cA M (ch s) L rt n m c x y) ∧ Hid (∀ c x y, a c x y ≤ M) ∧ Hid (Fo wr gw sl s M rk a) ∧ Hid (Below w.heap.size w wr) ∧ Hid (w.heap.size ≤ rk)) (fun i _ => 600 - (intOf i).toNat)
  case atStart => exact ⟨0, rk, _, by omega, rfl, Lib.hid (fun c x y _ => by simp [cA, T.A]), Lib.hid (fun _ _ _ => Nat.zero_le _), HFO, HB, HK2⟩
  case round =>
    clear HFO HB HK2
    obtain ⟨m, rk, a, hm, rfl, HA, HAM, HFO, HB, HK2⟩ := hrel
    by_cases hlt : m < 600
    · have hltI : (m : Int) < 600 := by omega
      go_wp2_with (first | ((with_reducible refine gate_op (op := .makeMap 136 none) rfl ?_); refine map_make_event rfl 136 rfl ?_; intro rn wm hrn hmn hbn; have HMN := Lib.hid hmn; have HBN := Lib.hid hbn; have HRN := Lib.hid hrn; clear hmn hbn hrn))
      have HTR : Hid (Tr w wm gw sl s M rk rn a fun _ _ _ => 0) := Lib.hid ⟨HFO.out.later HBN.out, by rw [HRN.out]; rw [HRN.out] at HMN; exact MapC.new HMN.out, HB.out.trans (HBN.out.mono HB.out.size), HG2.out, HK2.out, by rw [HRN.out]; exact HB.out.size, by
        obtain ⟨l, h1, _⟩ := HFO.out.map
        have := h1.lt
        have := HRN.out
        omega⟩
      have HTS := Lib.hid (HTR.out.congr (b' := nx M (ch s) L rt n s.size a 0 0 0) (fun c x y => (nx_start c x y).symm))
      clear HFO HB HMN HBN HRN HTR
      go_wp2_with fail
      go_loopw [26] (fun i wr => ∃ x : Nat, x ≤ s.size + 1 ∧ i = .int .i64 x ∧ Hid (Tr w wr gw sl s M rk rn a (nx M (ch s) L rt n s.size a x x 0))) (fun i _ => s.size + 1 - (intOf i).toNat)
      case atStart => exact ⟨0, by omega, rfl, HTS⟩
      case round =>
        clear HTS
        obtain ⟨x, hx, rfl, HTS⟩ := hrel
        by_cases hxl : x < s.size + 1
        · have hxI : (x : Int) < (s.size : Int) + 1 := by omega
          go_wp2_with fail
          go_loopw [10] (fun j wr => ∃ y : Nat, x ≤ y ∧ y ≤ s.size + 1 ∧ j = .int .i64 y ∧ Hid (Tr w wr gw sl s M rk rn a (nx M (ch s) L rt n s.size a x y 0))) (fun j _ => s.size + 1 - (intOf j).toNat)
          case atStart => exact ⟨x, by omega, by omega, rfl, HTS⟩
          case round =>
            clear HTS
            obtain ⟨y, hxy, hy, rfl, HTS⟩ := hrel
            by_cases hyl : y ≤ s.size
            · have hyI : (y : Int) ≤ (s.size : Int) := by omega
              go_wp2_with fail
              go_loopw [38] (fun i wr => ∃ k : Nat, k ≤ n ∧ i = .int .i64 k ∧ Hid (Tr w wr gw sl s M rk rn a (nx M (ch s) L rt n s.size a x y k))) (fun i _ => n - (intOf i).toNat)
              case atStart => exact ⟨0, by omega, rfl, HTS⟩
              case round =>
                clear HTS
                obtain ⟨k, hk, rfl, HTS⟩ := hrel
                by_cases hkn : k < n
                · have hkI : (k : Int) < (n : Int) := by omega
                  have c0 := (HP.out.later HTS.out.bl).c0 k hkn
                  have c1 := (HP.out.later HTS.out.bl).c1 k hkn
                  have hkc : k < c := by omega
                  obtain ⟨l, hl⟩ : ∃ l, L k = l := ⟨_, rfl⟩
                  obtain ⟨q, hq⟩ : ∃ q, R k = q := ⟨_, rfl⟩
                  have hlp : isP l = true := by rw [← hl]; exact (HG.out.ok k hkn).1
                  have hl5 := isP_iff.1 hlp
                  have HQ : Hid (okR q ∧ q.size ≤ 4) := Lib.hid (by rw [← hq]; exact ⟨(HG.out.ok k hkn).2, HG.out.sz k hkn⟩)
                  have HLR : Hid (L k = l ∧ rt k = lst q) := Lib.hid ⟨hl, by rw [HRT.out, hq]⟩
                  rw [hl] at c0
                  rw [hq] at c1
                  have hwl : IntKind.i64.wrap l = l := by rw [IntKind.wrap_i64]; omega
                  clear hl hq hlp
                  go_upto_region 15 with fail
                  obtain ⟨d0, d1⟩ := rule_new wr 60 l q
                  have hbA := below_one (w := wr) (.cells #[.int .u8 l, .string q] 60)
                  obtain ⟨wa, hwa⟩ : ∃ wa, wa = wr.alloc (.cells #[.int .u8 l, .string q] 60) := ⟨_, rfl⟩
                  have hza : wa.heap.size = wr.heap.size + 1 := by rw [hwa]; simp
                  rw [← hwa] at d0 d1 hbA ⊢
                  have hkb := key_new wa (.int .i64 l) (.int .i64 (x : Nat)) (.int .i64 (y : Nat))
                  have hbB := below_one (w := wa) (.cells #[.int .i64 l, .int .i64 (x : Nat), .int .i64 (y : Nat)] 139)
                  obtain ⟨wb, hwb⟩ : ∃ wb, wb = wa.alloc (.cells #[.int .i64 l, .int .i64 (x : Nat), .int .i64 (y : Nat)] 139) := ⟨_, rfl⟩
                  rw [← hwb] at hkb hbB ⊢
                  rw [hza] at hkb
                  have hbb := hbA.trans (hbB.mono (by omega))
                  have HTB := Lib.hid (HTS.out.later hbb)
                  have HKB := Lib.hid hkb
                  have q0 := (blk_cell hkb 0).trans rfl
                  have q1 := (blk_cell hkb 1).trans rfl
                  have q2 := (blk_cell hkb 2).trans rfl
                  have HD1 : Hid (wb.cell? ⟨wr.heap.size, 1, none⟩ = some (.string q)) := Lib.hid ((hbB.cell (p := ⟨wr.heap.size, 1, none⟩) (by rw [hza]; exact Nat.lt_succ_self _)).trans d1)
                  generalize wr.heap.size = G at HD1 HKB q0 q1 q2 ⊢
                  clear hwa hwb hkb hbA hbB hbb hza d0 d1 c0 c1 HTS
                  obtain ⟨v, hv⟩ : ∃ v, nx M (ch s) L rt n s.size a x y k l x y = v := ⟨_, rfl⟩
                  have hvM : v ≤ M := by rw [← hv]; exact nx_le _ _ _
                  have HV := Lib.hid hv
                  have lk := (HTB.out.later (Below.refl _ _).drew).look l x y
                  rw [hv] at lk
                  clear hv
                  obtain ⟨z, hz⟩ : ∃ z, cW M (ch s) a (lst q) x y = z := ⟨_, rfl⟩
                  have hzM : z ≤ M := by rw [← hz]; exact cW_le HM.out.1 _ _ _
                  have HZ := Lib.hid hz
                  clear hz
                  refine start_ (n := 15) (S := fun w' => w'.cell? ⟨G + 1, 0, none⟩ = some (.int .i64 l) ∧ w'.cell? ⟨G + 1, 1, none⟩ = some (.int .i64 (x : Nat)) ∧ w'.cell? ⟨G + 1, 2, none⟩ = some (.int .i64 (y : Nat)) ∧ w'.cell? ⟨G, 1, none⟩ = some (.string q) ∧ (Instr.lookup 136 (.map (some rn)) (.agg #[.int .i64 l, .int .i64 (x : Nat), .int .i64 (y : Nat)]) false).run Tryd.prog w' = .ok (.int .i64 (v : Nat)) w') (ds := [14]) #[false, false, false, false, false, false, false, false, false, false, false, false, false, false, false] (by kernel_rfl) rfl rfl ⟨q0, q1, q2, HD1.out, lk⟩ (fun hHeld => ?_)
                  refine pure_ (i := 0) (N := (some 48)) (v := ?_) (a' := ?_) #[true, false, false, false, false, false, false, false, false, false, false, false, false, false, false] rfl rfl (by kernel_rfl) (fun _ _ _ h => h) (Or.inl ⟨by rfl, ?_⟩) ?_ ?_
                  rotate_left
                  · intro w'; go_simp; first | done | with_reducible rfl
                  rotate_left
                  · simp only [Act.put, List.setIfInBounds_toArray, List.set_cons_zero, List.set_cons_succ, i64_w, i32_w]; rfl
                  refine take_ (i := 1) (N := (some 49)) (v := ?_) (a' := ?_) #[true, true, false, false, false, false, false, false, false, false, false, false, false, false, false] rfl rfl (by kernel_rfl) (fun _ _ _ h => h) (Or.inl ⟨by rfl, ?_⟩) hHeld ?_ ?_
                  rotate_left
                  · rintro w' ⟨s0, s1, s2, s3, s4⟩; go_simp; first | done | with_reducible rfl
                  rotate_left
                  · simp only [Act.put, List.setIfInBounds_toArray, List.set_cons_zero, List.set_cons_succ, i64_w, i32_w]; rfl
                  refine pure_ (i := 2) (N := (some 50)) (v := ?_) (a' := ?_) #[true, true, true, false, false, false, false, false, false, false, false, false, false, false, false] rfl rfl (by kernel_rfl) (fun _ _ _ h => h) (Or.inl ⟨by rfl, ?_⟩) ?_ ?_
                  rotate_left
                  · intro w'; go_simp; first | done | with_reducible rfl
                  rotate_left
                  · simp only [Act.put, List.setIfInBounds_toArray, List.set_cons_zero, List.set_cons_succ, i64_w, i32_w]; rfl
                  refine take_ (i := 3) (N := (some 51)) (v := ?_) (a' := ?_) #[true, true, true, true, false, false, false, false, false, false, false, false, false, false, false] rfl rfl (by kernel_rfl) (fun _ _ _ h => h) (Or.inl ⟨by rfl, ?_⟩) hHeld ?_ ?_
                  rotate_left
                  · rintro w' ⟨s0, s1, s2, s3, s4⟩; go_simp; first | done | with_reducible rfl
                  rotate_left
                  · simp only [Act.put, List.setIfInBounds_toArray, List.set_cons_zero, List.set_cons_succ, i64_w, i32_w]; rfl
                  refine take_ (i := 4) (N := (some 52)) (v := ?_) (a' := ?_) #[true, true, true, true, true, false, false, false, false, false, false, false, false, false, false] rfl rfl (by kernel_rfl) (fun _ _ _ h => h) (Or.inl ⟨by rfl, ?_⟩) hHeld ?_ ?_
                  rotate_left
                  · rintro w' ⟨s0, s1, s2, s3, s4⟩; go_simp; first | done | with_reducible rfl
                  rotate_left
                  · simp only [Act.put, List.setIfInBounds_toArray, List.set_cons_zero, List.set_cons_succ, i64_w, i32_w]; rfl
                  refine pure_ (i := 5) (N := (some 53)) (v := ?_) (a' := ?_) #[true, true, true, true, true, true, false, false, false, false, false, false, false, false, false] rfl rfl (by kernel_rfl) (fun _ _ _ h => h) (Or.inl ⟨by rfl, ?_⟩) ?_ ?_
                  rotate_left
                  · intro w'; go_simp; first | done | with_reducible rfl
                  rotate_left
                  · simp only [Act.put, List.setIfInBounds_toArray, List.set_cons_zero, List.set_cons_succ, i64_w, i32_w]; rfl
                  refine pure_ (i := 6) (N := (some 54)) (v := ?_) (a' := ?_) #[true, true, true, true, true, true, true, false, false, false, false, false, false, false, false] rfl rfl (by kernel_rfl) (fun _ _ _ h => h) (Or.inl ⟨by rfl, ?_⟩) ?_ ?_
                  rotate_left
                  · intro w'; go_simp; first | done | with_reducible rfl
                  rotate_left
                  · simp only [Act.put, List.setIfInBounds_toArray, List.set_cons_zero, List.set_cons_succ, i64_w, i32_w]; rfl
                  refine take_ (i := 7) (N := (some 55)) (v := ?_) (a' := ?_) #[true, true, true, true, true, true, true, true, false, false, false, false, false, false, false] rfl rfl (by kernel_rfl) (fun _ _ _ h => h) (Or.inl ⟨by rfl, ?_⟩) hHeld ?_ ?_
                  rotate_left
                  · rintro w' ⟨s0, s1, s2, s3, s4⟩; go_simp; first | done | with_reducible rfl
                  rotate_left
                  · simp only [Act.put, List.setIfInBounds_toArray, List.set_cons_zero, List.set_cons_succ, i64_w, i32_w]; rfl
                  refine pure_ (i := 8) (N := (some 56)) (v := ?_) (a' := ?_) #[true, true, true, true, true, true, true, true, true, false, false, false, false, false, false] rfl rfl (by kernel_rfl) (fun _ _ _ h => h) (Or.inl ⟨by rfl, ?_⟩) ?_ ?_
                  rotate_left
                  · intro w'; go_simp; first | done | with_reducible rfl
                  rotate_left
                  · simp only [Act.put, List.setIfInBounds_toArray, List.set_cons_zero, List.set_cons_succ, i64_w, i32_w]; rfl
                  refine pure_ (i := 9) (N := (some 57)) (v := ?_) (a' := ?_) #[true, true, true, true, true, true, true, true, true, true, false, false, false, false, false] rfl rfl (by kernel_rfl) (fun _ _ _ h => h) (Or.inl ⟨by rfl, ?_⟩) ?_ ?_
                  rotate_left
                  · intro w'; go_simp; first | done | with_reducible rfl
                  rotate_left
                  · simp only [Act.put, List.setIfInBounds_toArray, List.set_cons_zero, List.set_cons_succ, i64_w, i32_w]; rfl
                  refine pure_ (i := 12) (N := (some 60)) (v := ?_) (a' := ?_) #[true, true, true, true, true, true, true, true, true, true, false, false, true, false, false] rfl rfl (by kernel_rfl) (fun _ _ _ h => h) (Or.inl ⟨by rfl, ?_⟩) ?_ ?_
                  rotate_left
                  · intro w'; go_simp; first | done | with_reducible rfl
                  rotate_left
                  · simp only [Act.put, List.setIfInBounds_toArray, List.set_cons_zero, List.set_cons_succ, i64_w, i32_w]; rfl
                  refine one_ (i := 10) (N := (some 58)) #[true, true, true, true, true, true, true, true, true, true, true, false, true, false, false] rfl rfl (by kernel_rfl) (by decide) (fun K hK => ?_)
                  refine goes_ Tryd.func99 (by kernel_rfl) rfl #[.pointer (some ⟨gw, 0, none⟩), .string q, .int .i64 x, .int .i64 y] (by rfl) rfl rfl (by (try simp only [List.map_toArray, List.map_cons, List.map_nil]); first | done | rfl) ?_
                  refine (ways_calls HM.out HAM.out hs8 q.size HQ.out.2 q x y _ rfl HQ.out.1 (by omega) (by omega) (HTB.out.fo.later (Below.refl _ _).drew)).mono ?_
                  rintro e w2 ⟨rfl, hb2⟩
                  refine ⟨_, rfl, ?_⟩
                  rw [HZ.out]
                  have hbd := (Below.refl wb.heap.size wb).drew.trans hb2
                  have HT2 := Lib.hid (HTB.out.later hbd)
                  have hk2 := (hbd.block _ (Array.getElem?_eq_some_iff.1 HKB.out).1).trans HKB.out
                  have r0 := (blk_cell hk2 0).trans rfl
                  have r1 := (blk_cell hk2 1).trans rfl
                  have r2 := (blk_cell hk2 2).trans rfl
                  have hd1 := (hbd.cell (p := ⟨G, 1, none⟩) (World.block_lt_of_cell? _ _ HD1.out)).trans HD1.out
                  have lk2 := HT2.out.look l x y
                  rw [HV.out] at lk2
                  clear hb2 hbd
                  obtain ⟨p, hp⟩ : ∃ p, v + z = p := ⟨_, rfl⟩
                  have hv1 : v ≤ 101 := Nat.le_trans hvM HM.out.2
                  have hz1 : z ≤ 101 := Nat.le_trans hzM HM.out.2
                  have hwp := wrap_add hv1 hz1 hp
                  have hwq := wrap_addk hv1 hz1 hp
                  have hmc := min_cast p M
                  obtain ⟨m2, hm2⟩ : ∃ m2, min p M = m2 := ⟨_, rfl⟩
                  rw [hm2] at hmc
                  obtain ⟨w3, hrun, ht3⟩ := HT2.out.put (b' := nx M (ch s) L rt n s.size a x y (k + 1)) l x y m2 (fun c' i' j' => by rw [nx_rule hxy hyl, HLR.out.1, HLR.out.2, HV.out, HZ.out, hp, hm2])
                  have HT3 := Lib.hid ht3
                  unfold triV natV at hrun
                  clear hp hm2 ht3 q0 q1 q2 lk
                  refine hK.out _ _ ⟨r0, r1, r2, hd1, lk2⟩ (fun hHeld => ?_)
                  clear hK K
                  refine norm_ (a' := ?_) ?_ ?_
                  rotate_left
                  · show Act.put _ (some 58) _ = _; simp only [Act.put, List.setIfInBounds_toArray, List.set_cons_zero, List.set_cons_succ, i64_w, i32_w]; rfl
                  refine pure_ (i := 11) (N := (some 59)) (v := (.int .i64 (p : Nat))) (a' := ?_) #[true, true, true, true, true, true, true, true, true, true, true, true, true, false, false] rfl rfl (by kernel_rfl) (fun _ _ _ h => h) (Or.inl ⟨by rfl, ?_⟩) ?_ ?_
                  · intro w'; go_simp; first | done | with_reducible rfl
                  rotate_left
                  · simp only [Act.put, List.setIfInBounds_toArray, List.set_cons_zero, List.set_cons_succ, i64_w, i32_w]; rfl
                  refine pure_ (i := 13) (N := (some 61)) (v := (.int .i64 (m2 : Nat))) (a' := ?_) #[true, true, true, true, true, true, true, true, true, true, true, true, true, true, false] rfl rfl (by kernel_rfl) (fun _ _ _ h => h) (Or.inl ⟨by rfl, ?_⟩) ?_ ?_
                  · intro w'; go_simp; first | done | with_reducible rfl
                  rotate_left
                  · simp only [Act.put, List.setIfInBounds_toArray, List.set_cons_zero, List.set_cons_succ, i64_w, i32_w]; rfl
                  refine last_ (i := 14) (N := none) #[true, true, true, true, true, true, true, true, true, true, true, true, true, true, true] rfl rfl (by kernel_rfl) (by decide) (fun K hK => ?_)
                  refine skip_step (w1 := w3) (by rfl) (by go_simp) ?_
                  refine hK.out _ _ ?_
                  clear hK K
                  refine norm_ (a' := ?_) ?_ ?_
                  rotate_left
                  · show Act.put _ none _ = _; simp only [Act.put, List.setIfInBounds_toArray, List.set_cons_zero, List.set_cons_succ, i64_w, i32_w]; rfl
                  refine done_ (by kernel_rfl) ?_
                  clear hrun r0 r1 r2 hd1 lk2 hHeld hmc hwp hwq
                  go_wp2_with fail
                  refine ⟨⟨k + 1, by omega, by go_num, HT3⟩, by simp [intOf]; omega⟩
                · obtain rfl : k = n := by omega
                  go_wp2_with fail
                  refine ⟨⟨y + 1, by omega, by omega, by go_num, Lib.hid (HTS.out.congr fun c x y => nx_piece c x y)⟩, by simp [intOf]; omega⟩
            · obtain rfl : y = s.size + 1 := by omega
              have hyI : ¬ ((s.size + 1 : Nat) : Int) ≤ (s.size : Int) := by omega
              go_wp2_with fail
              refine ⟨⟨x + 1, by omega, by go_num, Lib.hid (HTS.out.congr fun c x y => nx_row c x y)⟩, by simp [intOf]; omega⟩
        · obtain rfl : x = s.size + 1 := by omega
          have hxI : ¬ ((s.size + 1 : Nat) : Int) < (s.size : Int) + 1 := by omega
          obtain ⟨l1, l2, h1, h2, hag⟩ := HTS.out.agree
          have HS := Lib.hid (same_calls h1 h2)
          have HAG := Lib.hid hag
          clear h1 h2 hag
          have f3 := HTS.out.fo.c3
          go_wp2_with fail
          refine HS.out.mono ?_
          rintro e w2 ⟨⟨bb, rfl, hbb⟩, hb2⟩
          have HTQ := Lib.hid (HTS.out.later hb2)
          have HBB := Lib.hid hbb
          clear hbb hb2 f3 HTS HS
          cases bb with
          | true =>
            have HFIN := Lib.hid (trees_fin HOK.out HM.out.1 (by omega) HA.out (fun c x y => rfl) (HAG.out (HBB.out rfl)) (L 0) 0 s.size (Nat.le_refl _))
            have c0 := (HP.out.later HTQ.out.bl).c0 0 hn1
            have hl0 := isP_iff.1 (HG.out.ok 0 hn1).1
            have HX : Hid (a (L 0) 0 s.size = X) := Lib.hid (HFIN.out.trans HT.out)
            clear HFIN HT
            obtain ⟨l0, hl0e⟩ : ∃ l0, L 0 = l0 := ⟨_, rfl⟩
            rw [hl0e] at c0 hl0 HX
            clear hl0e
            have hc1 : 0 < c := by omega
            simp only [Nat.zero_mul, Nat.add_zero] at c0
            go_wp2_with fail
            refine (count_calls HTQ.out.fo l0 (by omega) 0 s.size).mono ?_
            rintro e w3 ⟨rfl, rfl⟩
            rw [HX.out]
            go_wp2
            go_ret
            exact ⟨rfl, HTQ.out.bl⟩
          | false =>
            have hn3 : w2.cell? ⟨gw, 3, none⟩ = some (.map (some rk)) := HTQ.out.fo.c3
            have hfz := blk_frozen HTQ.out.fo.blk 3
            obtain ⟨ht1, ht2⟩ := HTQ.out.turn
            have HT1 := Lib.hid ht1
            have HT2 := Lib.hid ht2
            have HHN := Lib.hid HTQ.out.hn
            clear ht1 ht2
            go_wp2_with fail
            refine ⟨⟨m + 1, rn, _, by omega, by go_num, Lib.hid (nx_cA HM.out.1 HOK.out HA.out), Lib.hid (fun c x y => nx_le c x y), HT1, HT2, HHN⟩, by simp [intOf]; omega⟩
    · obtain rfl : m = 600 := by omega
      have HX : Hid (a (L 0) 0 s.size = X) := Lib.hid ((HA.out _ _ _ (Nat.le_refl _)).trans HT.out)
      have c0 := (HP.out.later HB.out).c0 0 hn1
      have hl0 := isP_iff.1 (HG.out.ok 0 hn1).1
      clear HT
      obtain ⟨l0, hl0e⟩ : ∃ l0, L 0 = l0 := ⟨_, rfl⟩
      rw [hl0e] at c0 hl0 HX
      clear hl0e
      have hc1 : 0 < c := by omega
      simp only [Nat.zero_mul, Nat.add_zero] at c0
      go_wp2_with fail
      refine (count_calls HFO.out l0 (by omega) 0 s.size).mono ?_
      rintro e w3 ⟨rfl, rfl⟩
      rw [HX.out]
      go_wp2
      go_ret
      exact ⟨rfl, HB.out⟩
end Go.Proofs.YtjpfalanoifpbaaDoor.X
end

section
set_option linter.unusedVariables false
set_option linter.unusedSimpArgs false
namespace Go.Proofs.YtjpfalanoifpbaaDoor.X
open Go.RowKit Go.Proofs.YtjpfalanoifpbaaDoorW.PrintWords Go.Proofs.YtjpfalanoifpbaaDoorW.PrintLast Go.Proofs.YtjpfalanoifpbaaDoorW.PrintMore Go.Proofs.YtjpfalanoifpbaaDoor.T
def Tab (w : World) (g : Nat) (F : Nat → Nat → Nat → Nat) : Prop := w.heap[g]? = some (.cells (c405 natV F) 97 (0, 0))
theorem Tab.later {w w' : World} {g : Nat} {F : Nat → Nat → Nat → Nat} (h : Tab w g F) (hb : Below w.heap.size w w') : Tab w' g F :=
  (hb.block _ (Array.getElem?_eq_some_iff.1 h).1).trans h
theorem Tab.at {w : World} {g : Nat} {F : Nat → Nat → Nat → Nat} (h : Tab w g F) {p i j : Nat} (hp : p < 5) (hi : i < 9) (hj : j < 9) : w.cell? ⟨g, p * 81 + i * 9 + j, none⟩ = some (.int .i64 (F p i j : Nat)) := by
  rw [blk_cell h]
  exact c405_at natV F hp hi hj
def tc (F : Nat → Nat → Nat → Nat) : Cnt := fun c i j => if isP c = true then F (pn c) i j else 0
theorem rways_zero {g : Nat} {s : ByteArray} {F : Nat → Nat → Nat → Nat} (q : ByteArray) (i j : Nat) (w : World) (hq : q.size = 0) :
    Calls Tryd.prog 67 #[.pointer (some ⟨g, 0, none⟩), .string q, .string s, .int .i64 i, .int .i64 j] w fun e w' => e = .returned (.int .i64 (cW 101 (ch s) (tc F) (lst q) i j : Nat)) ∧ Below w.heap.size w w' := by
  obtain rfl := size_zero hq
  rw [lst_nil hq, cW]
  clear hq
  by_cases hij : i = j
  · rw [if_pos hij]
    have hI : (i : Int) = j := by omega
    go_enter Tryd.func67, Tryd.ntmps67
    go_wp2
    go_ret
    exact ⟨rfl, Below.refl _ _⟩
  · rw [if_neg hij]
    have hI : ¬ (i : Int) = j := by omega
    go_enter Tryd.func67, Tryd.ntmps67
    go_wp2
    go_ret
    exact ⟨rfl, Below.refl _ _⟩
def RWaysAt (g : Nat) (s : ByteArray) (F : Nat → Nat → Nat → Nat) (d : Nat) : Prop := ∀ (q : ByteArray) (i j : Nat) (w : World), q.size = d → okR q → i ≤ 8 → j ≤ s.size → Tab w g F →
    Calls Tryd.prog 67 #[.pointer (some ⟨g, 0, none⟩), .string q, .string s, .int .i64 i, .int .i64 j] w fun e w' => e = .returned (.int .i64 (cW 101 (ch s) (tc F) (lst q) i j : Nat)) ∧ Below w.heap.size w w'
set_option maxHeartbeats 4000000 in
set_option maxRecDepth 100000 in
theorem rways_step {g : Nat} {s : ByteArray} {F : Nat → Nat → Nat → Nat} (ha : ∀ p i j, F p i j ≤ 101) (hs8 : s.size ≤ 8) (d : Nat) (hd4 : d < 4) (IH : RWaysAt g s F d) : RWaysAt g s F (d + 1) := by
  intro q i j w hd hok hi hj hF
  have hne : q.toList.isEmpty = false := toList_ne (by omega)
  have hl := lst_cons (s := q) (by omega)
  have hq0 := hok 0 (by omega)
  have hch := ch_range q 0
  have hqs : (q.extract 1 q.size).size = d := by rw [ByteArray.size_extract]; omega
  have HI : Hid (∀ (i j : Nat) (w : World), i ≤ 8 → j ≤ s.size → Tab w g F → Calls Tryd.prog 67 #[.pointer (some ⟨g, 0, none⟩), .string (q.extract 1 q.size), .string s, .int .i64 i, .int .i64 j] w fun e w' => e = .returned (.int .i64 (cW 101 (ch s) (tc F) (lst (q.extract 1 q.size)) i j : Nat)) ∧ Below w.heap.size w w') := Lib.hid (fun i j w => IH _ i j w hqs (okR_tail hok 1))
  obtain ⟨c, hc⟩ : ∃ c, ch q 0 = c := ⟨_, rfl⟩
  rw [hc] at hl hq0 hch
  obtain ⟨X, hX⟩ : ∃ X, cW 101 (ch s) (tc F) (lst q) i j = X := ⟨_, rfl⟩
  rw [hX]
  rw [hl, cW] at hX
  have HX := Lib.hid hX
  have HF := Lib.hid hF
  have HC := Lib.hid hc
  have HA := Lib.hid ha
  have HD := Lib.hid hd
  have hq1 : 0 < q.size := by omega
  have hq2 : 1 ≤ q.size := by omega
  clear hF hl hc ha IH hok hqs hX hd
  have hbt : (((q[0]'hq1).toNat : Nat) : Int) = c := (ch_at q 0 hq1).trans HC.out
  go_enter Tryd.func67, Tryd.ntmps67
  go_wp2_with fail
  refine (word_calls c _).mono ?_
  rintro e w2 ⟨rfl, rfl⟩
  cases hp : isD c with
  | true =>
    have hpf : isP c = false := by
      rw [Bool.eq_false_iff]
      intro h
      have := isP_iff.1 h
      have := isD_iff.1 hp
      omega
    have HX2 := Lib.hid (show X = if i < j ∧ ch s i = c then cW 101 (ch s) (tc F) (lst (q.extract 1 q.size)) (i + 1) j else 0 by rw [← HX.out, hpf, if_neg (by decide)])
    by_cases hij : i < j
    · have hI : (i : Int) < j := by omega
      have hd : decide ((i : Int) < j) = true := decide_eq_true hI
      have his : i < s.size := by omega
      have hbi : (((s[i]'his).toNat : Nat) : Int) = ch s i := ch_at s i his
      obtain ⟨x, hx⟩ : ∃ x, ch s i = x := ⟨_, rfl⟩
      rw [hx] at hbi
      have HXX := Lib.hid hx
      clear hx
      by_cases hxc : x = c
      · subst hxc
        have HX3 := Lib.hid (HX2.out.trans (if_pos ⟨hij, HXX.out⟩))
        have hi1 : i + 1 ≤ 8 := by omega
        go_wp2_with fail
        go_quiet (fail)
        have HB := Lib.hid (pw_below_drewN (Below.refl w2.heap.size w2) nq)
        have HF := Lib.hid (HF.out.later HB.out)
        generalize w2.drewN nq = w3 at HB HF ⊢
        go_wp2_with fail
        refine (HI.out (i + 1) j w3 hi1 hj HF.out).mono ?_
        rintro e w4 ⟨rfl, hb4⟩
        have HB4 := Lib.hid (HB.out.trans (hb4.mono HB.out.size))
        clear hb4
        go_wp2
        go_ret
        rw [HX3.out]
        exact ⟨rfl, HB4.out⟩
      · have HX3 := Lib.hid (HX2.out.trans (if_neg (fun q => hxc (HXX.out.symm.trans q.2))))
        have hxcI : decide (x = c) = false := decide_eq_false hxc
        go_wp2_with fail
        go_quiet (fail)
        have HB := Lib.hid (pw_below_drewN (Below.refl w2.heap.size w2) nq)
        generalize w2.drewN nq = w3 at HB ⊢
        go_wp2
        go_ret
        rw [HX3.out]
        exact ⟨rfl, HB.out⟩
    · have hI : ¬ (i : Int) < j := by omega
      have hd : decide ((i : Int) < j) = false := decide_eq_false hI
      have HX3 := Lib.hid (HX2.out.trans (if_neg (fun q => hij q.1)))
      go_wp2_with fail
      go_quiet (fail)
      have HB := Lib.hid (pw_below_drewN (Below.refl w2.heap.size w2) nq)
      generalize w2.drewN nq = w3 at HB ⊢
      go_wp2
      go_ret
      rw [HX3.out]
      exact ⟨rfl, HB.out⟩
  | false =>
    have hpt : isP c = true := by
      rcases hq0 with h | h
      · exact h
      · rw [hp] at h
        cases h
    have HX2 := Lib.hid (show X = csum 101 (fun k => tc F c i k) (fun k => cW 101 (ch s) (tc F) (lst (q.extract 1 q.size)) k j) i (j + 1 - i) by rw [← HX.out, hpt, if_pos rfl])
    clear HX
    have h5 := isP_iff.1 hpt
    obtain ⟨p, rfl⟩ : ∃ p : Nat, c = (p : Int) + 65 := ⟨(c - 65).toNat, by omega⟩
    have hp4 : p ≤ 4 := by omega
    have hp5 : p < 5 := by omega
    have e1 : IntKind.u8.wrap ((p : Int) + 65 - 65) = (p : Int) := u8_part hp4
    have HTC := Lib.hid (show ∀ x, tc F ((p : Int) + 65) i x = F p i x from fun x => by
      unfold tc
      rw [if_pos hpt, show pn ((p : Int) + 65) = p by unfold pn; omega])
    obtain ⟨f, hf⟩ : ∃ f, (fun k => tc F ((p : Int) + 65) i k) = f := ⟨_, rfl⟩
    obtain ⟨h, hh⟩ : ∃ h, (fun k => cW 101 (ch s) (tc F) (lst (q.extract 1 q.size)) k j) = h := ⟨_, rfl⟩
    rw [hf, hh] at HX2
    have HFM := Lib.hid (show ∀ k, f k ≤ 101 by intro k; rw [← hf]; show tc F _ i k ≤ 101; rw [HTC.out]; exact HA.out _ _ _)
    have HHM := Lib.hid (show ∀ k, h k ≤ 101 by intro k; rw [← hh]; exact cW_le (by decide) _ _ _)
    have HFE := Lib.hid (show ∀ k, F p i k = f k by intro k; rw [← hf]; exact (HTC.out k).symm)
    have HHE := Lib.hid (show ∀ k, cW 101 (ch s) (tc F) (lst (q.extract 1 q.size)) k j = h k by intro k; rw [← hh])
    have HB := Lib.hid (Below.refl w2.heap.size w2)
    clear hf hh hpt
    go_wp2_with fail
    go_loopw [11, 12, 13] (fun o k v wr => ∃ e : Nat, e ≤ j + 1 - i ∧ o = .int .i64 (csum 101 f h i e : Nat) ∧ k = .int .i64 ((i + e : Nat) : Int) ∧ Hid (Below w2.heap.size w2 wr) ∧ Hid (Tab wr g F)) (fun _ k _ _ => j + 1 - (intOf k).toNat)
    case atStart => exact ⟨0, by omega, rfl, rfl, HB, HF⟩
    case round =>
      clear HB HF
      obtain ⟨e, he, rfl, rfl, HB, HF⟩ := hrel
      obtain ⟨x, hx⟩ : ∃ x, i + e = x := ⟨_, rfl⟩
      obtain ⟨C, hC⟩ : ∃ C, csum 101 f h i e = C := ⟨_, rfl⟩
      have hCM : C ≤ 101 := by rw [← hC]; exact csum_le _
      rw [hx, hC]
      by_cases hlt : x ≤ j
      · have hltI : (x : Int) ≤ j := by omega
        have HS1 : Hid (csum 101 f h i (e + 1) = if 0 < f x then min (C + f x * h x) 101 else C) := Lib.hid (by rw [csum, hx, hC])
        have HEX : Hid (e + 1 ≤ j + 1 - i ∧ i + (e + 1) = x + 1) := Lib.hid (by omega)
        have hx9 : x ≤ 8 := by omega
        have hx9' : x < 9 := by omega
        have hi9' : i < 9 := by omega
        clear hC hx
        have g0 := HF.out.at hp5 hi9' hx9'
        have hfm := HFM.out x
        have hhm := HHM.out x
        have HHX := Lib.hid (HHE.out x)
        rw [HFE.out] at g0
        obtain ⟨y, hy⟩ : ∃ y, f x = y := ⟨_, rfl⟩
        obtain ⟨z, hz⟩ : ∃ z, h x = z := ⟨_, rfl⟩
        rw [hy, hz] at HS1
        rw [hz] at HHX
        rw [hy] at hfm g0
        rw [hz] at hhm
        clear hy hz
        go_wp2_with fail
        go_quiet (fail)
        have hbq := pw_below_drewN (Below.refl wr.heap.size wr) nq
        have HB3 := Lib.hid (HB.out.trans (hbq.mono HB.out.size))
        have HF3 := Lib.hid (HF.out.later hbq)
        clear hbq g0 HB HF
        generalize wr.drewN nq = w3 at HB3 HF3 ⊢
        by_cases hpos : 0 < y
        · have hposI : 0 < (y : Int) := by omega
          have HS2 := Lib.hid (HS1.out.trans (if_pos hpos))
          obtain ⟨pp, hpp⟩ : ∃ pp, y * z = pp := ⟨_, rfl⟩
          have hpb : pp ≤ 10201 := by
            rw [← hpp]
            exact Nat.mul_le_mul hfm hhm
          have hpi : (y : Int) * (z : Int) = (pp : Int) := by rw [← hpp]; simp
          rw [hpp] at HS2
          have HPP := Lib.hid hpi
          clear hpp
          go_wp2_with fail
          refine (HI.out x j w3 hx9 hj HF3.out).mono ?_
          rintro e w4 ⟨rfl, hb4⟩
          rw [HHX.out]
          have HB4 := Lib.hid (HB3.out.trans (hb4.mono HB3.out.size))
          have HF4 := Lib.hid (HF3.out.later hb4)
          clear hb4 HB3 HF3
          have hwp : IntKind.i64.wrap (pp : Int) = (pp : Int) := i64_nat (Nat.lt_of_le_of_lt hpb (by decide))
          have hwp2 : wrap64 (pp : Int) = (pp : Int) := wrap_small (by omega) (by omega)
          have hmj : min (101 : Int) (wrap64 ((C : Int) + (pp : Int))) = ((min (C + pp) 101 : Nat) : Int) := by
            rw [Int.min_comm]
            exact cap_min2 (M := 101) hCM hpb
          generalize min (C + pp) 101 = m at HS2 hmj
          clear hpb hCM hfm hhm hposI HS1 hpos
          go_wp2_with fail
          refine ⟨⟨e + 1, HEX.out.1, by rw [HS2.out], by rw [HEX.out.2]; go_num, HB4, HF4⟩, by simp [intOf]; omega⟩
        · have HS2 := Lib.hid (HS1.out.trans (if_neg hpos))
          obtain rfl : y = 0 := by omega
          go_wp2_with fail
          refine ⟨⟨e + 1, HEX.out.1, by rw [HS2.out], by rw [HEX.out.2]; go_num, HB3, HF3⟩, by simp [intOf]; omega⟩
      · have hltI : ¬ (x : Int) ≤ j := by omega
        obtain rfl : e = j + 1 - i := by omega
        have HX3 := Lib.hid (HX2.out.trans hC)
        go_wp2
        go_ret
        rw [HX3.out]
        exact ⟨rfl, HB.out⟩
theorem rways_calls {g : Nat} {s : ByteArray} {F : Nat → Nat → Nat → Nat} (ha : ∀ p i j, F p i j ≤ 101) (hs8 : s.size ≤ 8) : ∀ d, d ≤ 4 → RWaysAt g s F d
  | 0, _ => fun q i j w hd _ _ _ _ => rways_zero q i j w hd
  | d + 1, h => rways_step ha hs8 d (by omega) (rways_calls ha hs8 d (by omega))
end Go.Proofs.YtjpfalanoifpbaaDoor.X
end

section
set_option linter.unusedVariables false
set_option linter.unusedSimpArgs false
namespace Go.Proofs.YtjpfalanoifpbaaDoor.X
open Go.RowKit Go.Proofs.YtjpfalanoifpbaaDoorW.PrintWords Go.Proofs.YtjpfalanoifpbaaDoorW.PrintLast Go.Proofs.YtjpfalanoifpbaaDoorW.PrintMore Go.Proofs.YtjpfalanoifpbaaDoor.T
theorem zero97 : (Tryd.prog.info? 97).map (fun i => (i.zero, i.size)) = some (some (.agg (c405 natV fun _ _ _ => 0)), 405) := by kernel_rfl
section
variable {ops : Array Oper} {rest : List Oper} {o : Oper} {a : Act} {Q : Exit → Act → World → Prop} {W : World}
theorem tab_alloc_event (hgd : o.guard = none) (ho : o.op = .alloc 97)
    (h : ∀ g w1, g = W.heap.size → Tab w1 g (fun _ _ _ => 0) → Below W.heap.size W w1 → wpList Tryd.prog ops Q rest (a.put o.dst (.pointer (some ⟨g, 0, none⟩))) w1) : wpList Tryd.prog ops Q (o :: rest) a W := by
  refine Kd.event_run hgd (w1 := W.alloc (.cells (c405 natV fun _ _ _ => 0) 97)) (v := .pointer (some ⟨W.heap.size, 0, none⟩)) ?_ (h _ _ rfl (blk_new W _) (below_one _))
  unfold execOp
  simp only [ho, Instr.alloc]
  have hz := (zero_of_info zero97).1 W
  simp [hz, newVar, newRow, newObj, Result.andThen, Value.cells, Sem.run]
theorem tab_load_event (hgd : o.guard = none) (x : Operand) (ho : o.op = .load 97 x) {g : Nat} {F : Nat → Nat → Nat → Nat} (hx : a.eval x = .pointer (some ⟨g, 0, none⟩)) (hT : Tab W g F)
    (h : wpList Tryd.prog ops Q rest (a.put o.dst (.agg (c405 natV F))) W) : wpList Tryd.prog ops Q (o :: rest) a W :=
  wpList_load_row hgd 97 x ho g hx 97 _ (0, 0) _ hT Tryd.underlying97 rfl (by rw [(zero_of_info zero97).2, c405_size]) h
theorem tab_store_event (hN : o.dst = none) (hgd : o.guard = none) (x y : Operand) (ho : o.op = .store 97 x y) {g : Nat} {F F0 : Nat → Nat → Nat → Nat} (hx : a.eval x = .pointer (some ⟨g, 0, none⟩)) (hy : a.eval y = .agg (c405 natV F)) (hT : Tab W g F0)
    (h : ∀ w1, Tab w1 g F → (∀ B u, Below B u W → B ≤ g → Below B u w1) → (∀ k, k ≠ g → w1.heap[k]? = W.heap[k]?) → wpList Tryd.prog ops Q rest a w1) : wpList Tryd.prog ops Q (o :: rest) a W := by
  refine wpList_plain hgd fun K hK => ?_
  have h1 : (c405 natV F).all (·.oneCell') = true := by
    rw [Array.all_eq_true_iff_forall_mem]
    intro v hv
    unfold c405 at hv
    rw [Array.mem_ofFn] at hv
    obtain ⟨i, rfl⟩ := hv
    rfl
  refine wp_store_row 97 x y ho g _ hx hy 97 _ hT (by rw [(zero_of_info zero97).2, c405_size]) (by rw [c405_size, c405_size]) h1 ?_
  rw [hN]
  have hot : ∀ k, k ≠ g → (W.setRow g (c405 natV F)).heap[k]? = W.heap[k]? := fun k hk => by
    unfold World.setRow
    simp only [Array.getElem?_modify]
    rw [if_neg (Ne.symm hk)]
  refine hK _ _ (h _ ?_ (fun B u hb hB => hb.trans ⟨rfl, rfl, rfl, by simp [World.setRow], fun k hk => hot k (by omega)⟩) hot)
  exact setRow_heap W g _ _ 97 _ hT
end
structure Rt (w0 w : World) (g h : Nat) (F G : Nat → Nat → Nat → Nat) : Prop where
  t : Tab w g F
  n : Tab w h G
  bl : Below w0.heap.size w0 w
  hg : w0.heap.size ≤ g
  hh : w0.heap.size ≤ h
  ne : g ≠ h
theorem Rt.later {w0 w w' : World} {g h : Nat} {F G : Nat → Nat → Nat → Nat} (r : Rt w0 w g h F G) (hb : Below w.heap.size w w') : Rt w0 w' g h F G :=
  ⟨r.t.later hb, r.n.later hb, r.bl.trans (hb.mono r.bl.size), r.hg, r.hh, r.ne⟩
theorem Rt.put {w0 w : World} {g h : Nat} {F G : Nat → Nat → Nat → Nat} (r : Rt w0 w g h F G) {p i j : Nat} (hp : p < 5) (hi : i < 9) (hj : j < 9) (m : Nat) : Rt w0 (w.setCell ⟨h, p * 81 + i * 9 + j, none⟩ (.int .i64 (m : Nat))) g h F (put3 G p i j m) := by
  refine ⟨(Below.heap_setCell w ⟨h, p * 81 + i * 9 + j, none⟩ _ g r.ne).trans r.t, ?_, r.bl.setCell (p := ⟨h, p * 81 + i * 9 + j, none⟩) r.hh _, r.hg, r.hh, r.ne⟩
  have h1 := blk_set r.n (p * 81 + i * 9 + j) (.int .i64 (m : Nat))
  rw [show p * 81 + i * 9 + j = ix p i j from rfl] at h1 ⊢
  rw [show (Value.int .i64 (m : Nat)) = natV m from rfl] at h1 ⊢
  rw [c405_set natV G hp hi hj m] at h1
  exact h1
def cellN (w : World) (g q : Nat) : Nat := match w.cell? ⟨g, q, none⟩ with
  | some (.int _ x) => x.toNat
  | _ => 0
def totW (w : World) (g : Nat) : Nat := sumTo (cellN w g) 405
theorem Tab.tot {w : World} {g : Nat} {F : Nat → Nat → Nat → Nat} (h : Tab w g F) : totW w g = T.tot F := by
  refine sumTo_congr fun q hq => ?_
  unfold cellN
  have h1 := h.at (p := q / 81) (i := q / 9 % 9) (j := q % 9) (by omega) (by omega) (by omega)
  rw [show q / 81 * 81 + q / 9 % 9 * 9 + q % 9 = q by omega] at h1
  rw [h1]
  simp
def lackT (ag : Value) (w : World) (g : Nat) : Nat := match ag with
  | .bool true => 1 + (40905 - totW w g)
  | _ => 0
theorem flag_row {sw : Nat → Int} {L : Nat → Int} {rt : Nat → List Int} {n N t p i : Nat} {g : Bool} (h : Flag (sw := sw) (L := L) (rt := rt) (n := n) (N := N) (t := t) p i (N + 1) g) : Flag (sw := sw) (L := L) (rt := rt) (n := n) (N := N) (t := t) p (i + 1) (i + 1) g := by
  unfold Flag at h ⊢
  rw [mix_row] at h
  exact h
theorem flag_part {sw : Nat → Int} {L : Nat → Int} {rt : Nat → List Int} {n N t p : Nat} {g : Bool} (h : Flag (sw := sw) (L := L) (rt := rt) (n := n) (N := N) (t := t) p (N + 1) (N + 1) g) : Flag (sw := sw) (L := L) (rt := rt) (n := n) (N := N) (t := t) (p + 1) 0 0 g := by
  unfold Flag at h ⊢
  rw [mix_part] at h
  exact h
theorem tc_full {sw : Nat → Int} {L : Nat → Int} {rt : Nat → List Int} {n N t : Nat} (H : Ok sw L rt N n) (c : Int) (i j : Nat) (hj : j ≤ N) : tc (full sw L rt n N t) c i j = cA 101 sw L rt n t c i j := by
  unfold tc
  by_cases hc : isP c = true
  · rw [if_pos hc]
    have h5 := isP_iff.1 hc
    unfold full
    by_cases hij : i ≤ j
    · rw [if_pos ⟨hij, hj⟩, show (65 : Int) + (pn c : Nat) = c by unfold pn; omega]
    · rw [if_neg (by omega), cA_zero H _ hij]
  · rw [if_neg hc]
    unfold cA
    rcases Nat.eq_zero_or_pos (T.A sw L rt n t c i j) with h0 | h0
    · rw [h0]
      simp
    · exact absurd (A_fit H (u := (c, i, j)) h0).1 hc
set_option maxHeartbeats 16000000 in
set_option maxRecDepth 100000 in
theorem rTrees_calls (A : Option Addr) (n c : Nat) (L : Nat → Int) (R : Nat → ByteArray) (s : ByteArray) (w : World) (hA : Sr w A n c L R) (hg : Gr L R n) (hs8 : s.size ≤ 8) :
    Calls Tryd.prog 29 #[.slice A n c, .string s] w fun e w' => e = .returned (.int .i64 (treesN 100 L R n s : Nat)) ∧ Below w.heap.size w w' := by
  obtain ⟨b, off, rfl, hnc, hP⟩ := hA.open hg.n1
  have HP := Lib.hid hP
  have HG := Lib.hid hg
  have hn8 := hg.n8
  have hn1 := hg.n1
  have HOK : Hid (Ok (ch s) L (fun k => lst (R k)) s.size n) := Lib.hid (Gs.Ok ⟨hg.ok, hs8⟩)
  clear hA hP hg
  obtain ⟨X, hX⟩ : ∃ X, treesN 100 L R n s = X := ⟨_, rfl⟩
  have HX : Hid (min (T.A (ch s) L (fun k => lst (R k)) n 600 (L 0) 0 s.size) 100 = X) := Lib.hid hX
  rw [hX]
  clear hX
  obtain ⟨rt, hrt⟩ : ∃ rt, (fun k => lst (R k)) = rt := ⟨_, rfl⟩
  rw [hrt] at HX HOK
  have HRT := Lib.hid (show ∀ k, rt k = lst (R k) from fun k => by rw [← hrt])
  clear hrt
  go_enter Tryd.func29, Tryd.ntmps29
  go_wp2_with (first | ((with_reducible refine gate_op (op := .alloc 97) rfl ?_); refine tab_alloc_event rfl rfl ?_; intro gt w0 hgt ht0 hb0; have HT0 := Lib.hid ht0; have HB0 := Lib.hid hb0; have HGT := Lib.hid (Nat.le_of_eq hgt.symm); clear hgt ht0 hb0))
  have HTS : Hid (Tab w0 gt (full (ch s) L rt n s.size 0)) := Lib.hid (by rw [full_zero]; exact HT0.out)
  clear HT0
  go_loopw [6] (fun ag wr => ∃ (t : Nat) (g : Bool), ag = .bool g ∧ Hid (Tab wr gt (full (ch s) L rt n s.size t)) ∧ Hid (g = false → ∀ c x y, y ≤ s.size → min (cA 101 (ch s) L rt n t c x y) 100 = min (T.A (ch s) L rt n 600 c x y) 100) ∧ Hid (Below w.heap.size w wr)) (fun ag wr => lackT ag wr gt)
  case atStart => exact ⟨0, true, rfl, HTS, Lib.hid (fun h => by cases h), HB0⟩
  case round =>
    clear HTS HB0
    obtain ⟨t, g, rfl, HT, HE, HB⟩ := hrel
    cases g with
    | true =>
      clear HE
      have HMS : Hid (lackT (.bool true) wr gt = 1 + (40905 - T.tot (full (ch s) L rt n s.size t))) := Lib.hid (by
        show 1 + (40905 - totW wr gt) = _
        rw [HT.out.tot])
      go_wp2_with (first | ((with_reducible refine gate_dst (N := 15) rfl ?_); refine tab_load_event rfl (.tmp 5) rfl rfl HT.out ?_) | ((with_reducible refine gate_op (op := .alloc 97) rfl ?_); refine tab_alloc_event rfl rfl ?_; intro gn w1 hgn hn1_ hb1; have HN1 := Lib.hid hn1_; have HB1 := Lib.hid hb1; have HGN := Lib.hid hgn; clear hgn hn1_ hb1) | ((with_reducible refine gate_op (op := .store 97 (.tmp 7) (.tmp 15)) rfl ?_); refine tab_store_event rfl rfl (.tmp 7) (.tmp 15) rfl (F := full (ch s) L rt n s.size t) rfl rfl HN1.out ?_; intro w2 ht2 hb2 ho2; have HRR : Hid (Rt w w2 gt gn (full (ch s) L rt n s.size t) (mix (ch s) L rt n s.size t 0 0 0)) := Lib.hid ⟨(ho2 gt (by have := (Array.getElem?_eq_some_iff.1 HT.out).1; have := HGN.out; omega)).trans (HT.out.later HB1.out), by rw [mix_start]; exact ht2, (hb2 _ _ (HB.out.trans (HB1.out.mono HB.out.size)) (by rw [HGN.out]; exact HB.out.size)), HGT.out, by rw [HGN.out]; exact HB.out.size, by have := (Array.getElem?_eq_some_iff.1 HT.out).1; have := HGN.out; omega⟩; clear ht2 hb2 ho2))
      clear HN1 HB1 HGN HT HB
      have HFL := Lib.hid (flag_start (sw := ch s) (L := L) (rt := rt) (n := n) (N := s.size) (t := t))
      go_loopw [16, 6] (fun i ag wr => ∃ (p : Nat) (g : Bool), p ≤ 5 ∧ i = .int .i64 p ∧ ag = .bool g ∧ Hid (Flag (sw := ch s) (L := L) (rt := rt) (n := n) (N := s.size) (t := t) p 0 0 g) ∧ Hid (Rt w wr gt gn (full (ch s) L rt n s.size t) (mix (ch s) L rt n s.size t p 0 0))) (fun i _ _ => 5 - (intOf i).toNat)
      case atStart => exact ⟨0, false, by omega, rfl, rfl, HFL, HRR⟩
      case round =>
        clear HFL HRR
        obtain ⟨p, g, hp, rfl, rfl, HFL, HRR⟩ := hrel
        by_cases hp5 : p < 5
        · have hpI : (p : Int) < 5 := by omega
          go_wp2_with fail
          go_loopw [22, 6] (fun i ag wr => ∃ (x : Nat) (g : Bool), x ≤ s.size + 1 ∧ i = .int .i64 x ∧ ag = .bool g ∧ Hid (Flag (sw := ch s) (L := L) (rt := rt) (n := n) (N := s.size) (t := t) p x x g) ∧ Hid (Rt w wr gt gn (full (ch s) L rt n s.size t) (mix (ch s) L rt n s.size t p x x))) (fun i _ _ => s.size + 1 - (intOf i).toNat)
          case atStart => exact ⟨0, g, by omega, rfl, rfl, HFL, HRR⟩
          case round =>
            clear HFL HRR
            obtain ⟨x, g, hx, rfl, rfl, HFL, HRR⟩ := hrel
            by_cases hxl : x < s.size + 1
            · have hxI : (x : Int) < (s.size : Int) + 1 := by omega
              go_wp2_with fail
              go_loopw [10, 6] (fun j ag wr => ∃ (y : Nat) (g : Bool), x ≤ y ∧ y ≤ s.size + 1 ∧ j = .int .i64 y ∧ ag = .bool g ∧ Hid (Flag (sw := ch s) (L := L) (rt := rt) (n := n) (N := s.size) (t := t) p x y g) ∧ Hid (Rt w wr gt gn (full (ch s) L rt n s.size t) (mix (ch s) L rt n s.size t p x y))) (fun j _ _ => s.size + 1 - (intOf j).toNat)
              case atStart => exact ⟨x, g, by omega, by omega, rfl, rfl, HFL, HRR⟩
              case round =>
                clear HFL HRR
                obtain ⟨y, g, hxy, hy, rfl, rfl, HFL, HRR⟩ := hrel
                by_cases hyl : y ≤ s.size
                · have hyI : (y : Int) ≤ (s.size : Int) := by omega
                  go_wp2_with fail
                  go_loopw [34, 11] (fun i v wr => ∃ k : Nat, k ≤ n ∧ i = .int .i64 k ∧ v = .int .i64 (cR 101 (ch s) (tc (full (ch s) L rt n s.size t)) L rt (65 + (p : Int)) x y k : Nat) ∧ Hid (Rt w wr gt gn (full (ch s) L rt n s.size t) (mix (ch s) L rt n s.size t p x y))) (fun i _ _ => n - (intOf i).toNat)
                  case atStart => exact ⟨0, by omega, rfl, rfl, HRR⟩
                  case round =>
                    clear HRR
                    obtain ⟨k, hk, rfl, rfl, HRR⟩ := hrel
                    obtain ⟨C, hC⟩ : ∃ C, cR 101 (ch s) (tc (full (ch s) L rt n s.size t)) L rt (65 + (p : Int)) x y k = C := ⟨_, rfl⟩
                    rw [hC]
                    by_cases hkn : k < n
                    · have hkI : (k : Int) < (n : Int) := by omega
                      have hC1 : C ≤ 101 := by rw [← hC]; exact cR_le _
                      have c0 := (HP.out.later HRR.out.bl).c0 k hkn
                      have c1 := (HP.out.later HRR.out.bl).c1 k hkn
                      have hkc : k < c := by omega
                      obtain ⟨l, hl⟩ : ∃ l, L k = l := ⟨_, rfl⟩
                      obtain ⟨q, hq⟩ : ∃ q, R k = q := ⟨_, rfl⟩
                      have HQ : Hid (okR q ∧ q.size ≤ 4) := Lib.hid (by rw [← hq]; exact ⟨(HG.out.ok k hkn).2, HG.out.sz k hkn⟩)
                      have HCR : Hid (cR 101 (ch s) (tc (full (ch s) L rt n s.size t)) L rt (65 + (p : Int)) x y (k + 1) = if l = 65 + (p : Int) then min (C + cW 101 (ch s) (tc (full (ch s) L rt n s.size t)) (lst q) x y) 101 else C) := Lib.hid (by rw [cR, hC, hl, HRT.out, hq])
                      rw [hl] at c0
                      rw [hq] at c1
                      clear hl hq hC
                      have hup : IntKind.u8.wrap (65 + (p : Int)) = 65 + (p : Int) := by
                        unfold IntKind.wrap
                        simp [IntKind.signed, IntKind.bits]
                        omega
                      by_cases hlp : l = 65 + (p : Int)
                      · have HC2 := Lib.hid (HCR.out.trans (if_pos hlp))
                        go_wp2_with fail
                        have hbA := below_one (w := wr) (.cells #[.int .u8 (65 + (p : Int)), .string q] 44)
                        have HRA := Lib.hid (HRR.out.later hbA)
                        generalize wr.alloc (.cells #[.int .u8 (65 + (p : Int)), .string q] 44) = wa at HRA ⊢
                        clear hbA HRR c0 c1
                        refine (rways_calls full_le hs8 q.size HQ.out.2 q x y wa rfl HQ.out.1 (by omega) hyl HRA.out.t).mono ?_
                        rintro e w3 ⟨rfl, hb3⟩
                        have HRB := Lib.hid (HRA.out.later hb3)
                        clear hb3 HRA
                        obtain ⟨z, hz⟩ : ∃ z, cW 101 (ch s) (tc (full (ch s) L rt n s.size t)) (lst q) x y = z := ⟨_, rfl⟩
                        have hz1 : z ≤ 101 := by rw [← hz]; exact cW_le (by decide) _ _ _
                        rw [hz] at HC2 ⊢
                        have hmj : min (101 : Int) (wrap64 ((C : Int) + (z : Int))) = ((min (C + z) 101 : Nat) : Int) := by
                          rw [Int.min_comm]
                          exact cap_min2 (M := 101) hC1 (by omega)
                        generalize min (C + z) 101 = m at HC2 hmj
                        clear hz hz1 hC1 HCR
                        go_wp2_with fail
                        refine ⟨⟨k + 1, by omega, by go_num, by rw [HC2.out], HRB⟩, by simp [intOf]; omega⟩
                      · have HC2 := Lib.hid (HCR.out.trans (if_neg hlp))
                        clear hC1 HCR
                        go_wp2_with fail
                        have hbA := below_one (w := wr) (.cells #[.int .u8 l, .string q] 44)
                        refine ⟨⟨k + 1, by omega, by go_num, by rw [HC2.out], Lib.hid (HRR.out.later hbA)⟩, by simp [intOf]; omega⟩
                    · obtain rfl : k = n := by omega
                      have hCA := cA_next (M := 101) (by decide) (tc_full HOK.out (t := t)) (65 + (p : Int)) x y hyl
                      rw [hC] at hCA
                      have HCA := Lib.hid hCA
                      have hp5' := hp5
                      have hx9 : x < 9 := by omega
                      have hy9 : y < 9 := by omega
                      have HFN := Lib.hid (flag_next hp5 hx9 hy9 hxy hyl HFL.out)
                      have HPT := Lib.hid (HRR.out.put hp5 hx9 hy9 C)
                      have hmp := mix_put (sw := ch s) (L := L) (rt := rt) (n := k) (t := t) (p := p) hxy hyl
                      rw [← hCA] at hmp
                      rw [hmp] at HPT
                      have g0 := HRR.out.t.at hp5 hx9 hy9
                      rw [show full (ch s) L rt k s.size t p x y = cA 101 (ch s) L rt k t (65 + (p : Int)) x y by unfold full; rw [if_pos ⟨hxy, hyl⟩]] at g0
                      have g1 := HRR.out.n.at hp5 hx9 hy9
                      have g2 := blk_frozen HRR.out.n (p * 81 + x * 9 + y)
                      rw [← hCA] at HFN
                      obtain ⟨D, hD⟩ : ∃ D, cA 101 (ch s) L rt k t (65 + (p : Int)) x y = D := ⟨_, rfl⟩
                      rw [hD] at g0 HFN
                      clear hCA hC hD HRR
                      have HEND : Hid (x ≤ y + 1 ∧ y + 1 ≤ s.size + 1) := Lib.hid (by omega)
                      cases g with
                      | true =>
                        rw [Bool.true_or] at HFN
                        go_wp2_with fail
                        refine ⟨⟨y + 1, true, HEND.out.1, HEND.out.2, by go_num, rfl, HFN, HPT⟩, by simp [intOf]; omega⟩
                      | false =>
                        rw [Bool.false_or] at HFN
                        by_cases hCD : C = D
                        · rw [decide_eq_false (by simpa using hCD)] at HFN
                          subst hCD
                          go_wp2_with fail
                          refine ⟨⟨y + 1, false, HEND.out.1, HEND.out.2, by go_num, rfl, HFN, HPT⟩, by simp [intOf]; omega⟩
                        · rw [decide_eq_true hCD] at HFN
                          have hCDI : ((C : Int) != (D : Int)) = true := by
                            rw [bne_iff_ne]
                            omega
                          go_wp2_with fail
                          refine ⟨⟨y + 1, true, HEND.out.1, HEND.out.2, by go_num, rfl, HFN, HPT⟩, by simp [intOf]; omega⟩
                · obtain rfl : y = s.size + 1 := by omega
                  have hyI : ¬ ((s.size + 1 : Nat) : Int) ≤ (s.size : Int) := by omega
                  have HF2 := Lib.hid (flag_row HFL.out)
                  have HR2 := HRR
                  rw [mix_row] at HR2
                  go_wp2_with fail
                  refine ⟨⟨x + 1, g, by omega, by go_num, rfl, HF2, HR2⟩, by simp [intOf]; omega⟩
            · obtain rfl : x = s.size + 1 := by omega
              have hxI : ¬ ((s.size + 1 : Nat) : Int) < (s.size : Int) + 1 := by omega
              have HF2 := Lib.hid (flag_part HFL.out)
              have HR2 := HRR
              rw [mix_part] at HR2
              go_wp2_with fail
              refine ⟨⟨p + 1, g, by omega, by go_num, rfl, HF2, HR2⟩, by simp [intOf]; omega⟩
        · obtain rfl : p = 5 := by omega
          have HN5 : Hid (Tab wr gn (full (ch s) L rt n s.size (t + 1))) := Lib.hid (by
            have := HRR.out.n
            unfold Tab at this ⊢
            rw [this, c405_congr natV (fun p i j hp _ _ => mix_end p i j hp)])
          have HTT := Lib.hid HRR.out.t
          cases g with
          | true =>
            have HG2 := Lib.hid (flag_grows HFL.out rfl)
            have HCAP := Lib.hid (tot_cap (sw := ch s) (L := L) (rt := rt) (n := n) (N := s.size) (t := t + 1))
            go_wp2_with (first | ((with_reducible refine gate_dst (N := 75) rfl ?_); refine tab_load_event rfl (.tmp 7) rfl rfl HN5.out ?_; simp only [Act.put, List.setIfInBounds_toArray, List.set_cons_zero, List.set_cons_succ]) | ((with_reducible refine gate_op (op := .store 97 (.tmp 5) (.tmp 75)) rfl ?_); refine tab_store_event rfl rfl (.tmp 5) (.tmp 75) rfl (F := full (ch s) L rt n s.size (t + 1)) rfl rfl HTT.out ?_; intro w5 ht5 hb5 ho5; have HT5 := Lib.hid ht5; have HB5 := Lib.hid (hb5 _ _ HRR.out.bl HGT.out); clear ht5 hb5 ho5))
            go_roundw
            case rel => exact ⟨t + 1, true, rfl, HT5, Lib.hid (fun h => by cases h), HB5⟩
            case measure =>
              rw [HMS.out]
              show 1 + (40905 - totW w5 gt) < _
              rw [HT5.out.tot]
              have h1 := HG2.out
              have h2 := HCAP.out
              omega
          | false =>
            have HES := Lib.hid (flag_stands HOK.out HFL.out)
            have HN6 : Hid (Tab wr gn (full (ch s) L rt n s.size t)) := Lib.hid (by
              have h1 := HRR.out.n
              have h2 := HFL.out
              unfold Flag at h2
              rw [if_neg (by decide)] at h2
              rw [h2] at h1
              exact h1)
            go_wp2_with (first | ((with_reducible refine gate_dst (N := 75) rfl ?_); refine tab_load_event rfl (.tmp 7) rfl rfl HN6.out ?_; simp only [Act.put, List.setIfInBounds_toArray, List.set_cons_zero, List.set_cons_succ]) | ((with_reducible refine gate_op (op := .store 97 (.tmp 5) (.tmp 75)) rfl ?_); refine tab_store_event rfl rfl (.tmp 5) (.tmp 75) rfl (F := full (ch s) L rt n s.size t) rfl rfl HTT.out ?_; intro w5 ht5 hb5 ho5; have HT5 := Lib.hid ht5; have HB5 := Lib.hid (hb5 _ _ HRR.out.bl HGT.out); clear ht5 hb5 ho5))
            go_roundw
            case rel => exact ⟨t, false, rfl, HT5, Lib.hid (fun _ => HES.out), HB5⟩
            case measure =>
              rw [HMS.out]
              show 0 < _
              omega
    | false =>
      have c0 := (HP.out.later HB.out).c0 0 hn1
      have hl0 := isP_iff.1 (HG.out.ok 0 hn1).1
      have HX2 : Hid (min (cA 101 (ch s) L rt n t (L 0) 0 s.size) 100 = X) := Lib.hid ((HE.out rfl _ _ _ (Nat.le_refl _)).trans HX.out)
      obtain ⟨l0, hl0e⟩ : ∃ l0, L 0 = l0 := ⟨_, rfl⟩
      rw [hl0e] at c0 hl0 HX2
      clear hl0e
      obtain ⟨p, rfl⟩ : ∃ p : Nat, l0 = (p : Int) + 65 := ⟨(l0 - 65).toNat, by omega⟩
      have hp4 : p ≤ 4 := by omega
      have hp5 : p < 5 := by omega
      have hu := u8_part hp4
      have hc1 : 0 < c := by omega
      have hs9 : s.size < 9 := by omega
      have g0 := HT.out.at (i := 0) hp5 (by decide) hs9
      rw [show full (ch s) L rt n s.size t p 0 s.size = cA 101 (ch s) L rt n t ((p : Int) + 65) 0 s.size by unfold full; rw [if_pos ⟨Nat.zero_le _, Nat.le_refl _⟩, Int.add_comm]] at g0
      obtain ⟨D, hD⟩ : ∃ D, cA 101 (ch s) L rt n t ((p : Int) + 65) 0 s.size = D := ⟨_, rfl⟩
      rw [hD] at HX2 g0
      have hmx : min (100 : Int) (D : Int) = ((min D 100 : Nat) : Int) := by omega
      rw [HX2.out] at hmx
      simp only [Nat.zero_mul, Nat.add_zero] at c0 g0
      clear hD
      go_wp2_with fail
      go_ret
      exact ⟨rfl, HB.out⟩
end Go.Proofs.YtjpfalanoifpbaaDoor.X
end

section
set_option linter.unusedVariables false
set_option linter.unusedSimpArgs false
namespace Go.Proofs.YtjpfalanoifpbaaDoor.X
open Go.RowKit Go.Proofs.YtjpfalanoifpbaaDoorW.PrintWords Go.Proofs.YtjpfalanoifpbaaDoorW.PrintLast Go.Proofs.YtjpfalanoifpbaaDoorW.PrintMore Go.Proofs.YtjpfalanoifpbaaDoor.T
theorem cut12_1000 (s : ByteArray) : (cut12 s).size ≤ 1000 := by
  rw [cut12_size]
  have := mnN_le s.size 12
  omega
end Go.Proofs.YtjpfalanoifpbaaDoor.X
end

section
set_option linter.unusedVariables false
namespace Go.Proofs.YtjpfalanoifpbaaDoor.T
def wrd : Nat → ByteArray
  | 0 => ⟨#[97]⟩
  | 1 => ⟨#[98]⟩
  | 2 => ⟨#[99]⟩
  | _ => ⟨#[100]⟩
def kidsTo (s : ByteArray) (c : Nat) : List ByteArray := (List.range c).map fun j => s ++ wrd j
def kids (s : ByteArray) : List ByteArray := kidsTo s 4
def lev : Nat → List ByteArray
  | 0 => [ByteArray.empty]
  | k + 1 => (lev k).flatMap kids
def allL (n : Nat) : List ByteArray := (List.range n).flatMap lev
theorem kidsTo_succ (s : ByteArray) (c : Nat) : kidsTo s (c + 1) = kidsTo s c ++ [s ++ wrd c] := by
  unfold kidsTo
  rw [List.range_succ, List.map_append]
  rfl
theorem kids_length (s : ByteArray) : (kids s).length = 4 := by simp [kids, kidsTo]
theorem kidsTo_length (s : ByteArray) (c : Nat) : (kidsTo s c).length = c := by simp [kidsTo]
theorem flatKids_length : ∀ l : List ByteArray, (l.flatMap kids).length = 4 * l.length
  | [] => rfl
  | a :: l => by
    rw [List.flatMap_cons, List.length_append, kids_length, flatKids_length l, List.length_cons]
    omega
theorem lev_length : ∀ k, (lev k).length = 4 ^ k
  | 0 => rfl
  | k + 1 => by
    rw [lev, flatKids_length, lev_length k, Nat.pow_succ]
    omega
theorem lev_le {k : Nat} (h : k ≤ 5) : (lev k).length ≤ 1024 := by
  rw [lev_length]
  exact Nat.pow_le_pow_right (by decide) h
theorem allL_succ (n : Nat) : allL (n + 1) = allL n ++ lev n := by
  unfold allL
  rw [List.range_succ, List.flatMap_append]
  simp
theorem allL_le : ∀ {n}, n ≤ 6 → (allL n).length ≤ n * 1024
  | 0, _ => by simp [allL]
  | n + 1, h => by
    have := allL_le (n := n) (by omega)
    have := lev_le (k := n) (by omega)
    rw [allL_succ, List.length_append]
    omega
theorem wrd_size (j : Nat) : (wrd j).size = 1 := by
  unfold wrd
  split <;> rfl
theorem kids_mem {s x : ByteArray} (h : x ∈ kids s) : ∃ j, j < 4 ∧ x = s ++ wrd j := by
  unfold kids kidsTo at h
  obtain ⟨j, hj, rfl⟩ := List.mem_map.1 h
  exact ⟨j, List.mem_range.1 hj, rfl⟩
theorem lev_size : ∀ {k : Nat} {s : ByteArray}, s ∈ lev k → s.size = k
  | 0, s, h => by
    rw [lev, List.mem_singleton] at h
    rw [h]
    rfl
  | k + 1, s, h => by
    rw [lev, List.mem_flatMap] at h
    obtain ⟨x, hx, hs⟩ := h
    obtain ⟨j, -, rfl⟩ := kids_mem hs
    rw [ByteArray.size_append, lev_size hx, wrd_size]
theorem allL_size {n : Nat} {s : ByteArray} (h : s ∈ allL n) : s.size < n := by
  unfold allL at h
  rw [List.mem_flatMap] at h
  obtain ⟨k, hk, hs⟩ := h
  rw [lev_size hs]
  exact List.mem_range.1 hk
theorem take_succ_of {α : Type} {l : List α} {i : Nat} {x : α} (h : l[i]? = some x) : l.take (i + 1) = l.take i ++ [x] := by
  rw [List.take_add_one, h]
  rfl
theorem find_app {α : Type} {p : α → Bool} {pre post : List α} {x : α} (h1 : ∀ y ∈ pre, p y = false) (h2 : p x = true) : (pre ++ x :: post).find? p = some x := by
  induction pre with
  | nil => simp [h2]
  | cons a l ih =>
    rw [List.cons_append, List.find?_cons, h1 a (List.mem_cons_self ..)]
    exact ih fun y hy => h1 y (List.mem_cons_of_mem _ hy)
theorem treesN_pos (L : Nat → Int) (R : Nat → ByteArray) (n : Nat) (s : ByteArray) : (0 < treesN 1 L R n s) ↔ 0 < treesN 100 L R n s := by
  unfold treesN
  omega
theorem treesN_two (L : Nat → Int) (R : Nat → ByteArray) (n : Nat) (s : ByteArray) : (1 < treesN 2 L R n s) ↔ 1 < treesN 100 L R n s := by
  unfold treesN
  omega
end Go.Proofs.YtjpfalanoifpbaaDoor.T
end

section
set_option linter.unusedVariables false
set_option linter.unusedSimpArgs false
namespace Go.Proofs.YtjpfalanoifpbaaDoor.X
open Go.RowKit Go.Proofs.YtjpfalanoifpbaaDoorW.PrintWords Go.Proofs.YtjpfalanoifpbaaDoorW.PrintLast Go.Proofs.YtjpfalanoifpbaaDoorW.PrintMore Go.Proofs.YtjpfalanoifpbaaDoor.T
structure Stp (B : Nat) (S : Nat → Prop) (w w' : World) : Prop where
  os : w'.os = w.os
  tape : w'.tape = w.tape
  output : w'.output = w.output
  size : w.heap.size ≤ w'.heap.size
  block : ∀ k, k < w.heap.size → (k < B ∨ S k) → w'.heap[k]? = w.heap[k]?
theorem Stp.refl (B : Nat) (S : Nat → Prop) (w : World) : Stp B S w w := ⟨rfl, rfl, rfl, Nat.le_refl _, fun _ _ _ => rfl⟩
theorem Stp.of_below {B : Nat} {S : Nat → Prop} {w w' : World} (h : Below w.heap.size w w') : Stp B S w w' := ⟨h.os, h.tape, h.output, h.size, fun k hk _ => h.block k hk⟩
theorem Stp.of_grown {B : Nat} {S : Nat → Prop} {w w' : World} {row : Option Nat} (h : w.grownBy w' row) (hr : ∀ k, row = some k → B ≤ k ∧ ¬ S k) : Stp B S w w' :=
  ⟨h.os, h.tape, h.output, h.size, fun k hk hs => h.block k hk (fun e => by
    have := hr k e.symm
    rcases hs with q | q
    · omega
    · exact this.2 q)⟩
structure Cbk (S : Nat → Prop) (w w' : World) : Prop where
  size : w.heap.size ≤ w'.heap.size
  block : ∀ k, k < w.heap.size → ¬ S k → w'.heap[k]? = w.heap[k]?
structure Cb (f : Nat) (lb : Array Value) (B most : Nat) (P : (Nat → Prop) → List ByteArray → World → Prop) (Q : List ByteArray → ByteArray → World → Prop) : Prop where
  eg : ∀ args w, (callFunc f args).run Tryd.prog w = .ok (.enter f args) w
  stab : ∀ S done w w', P S done w → Stp B S w w' → P S done w'
  lt : ∀ S done w, P S done w → ∀ k, S k → k < w.heap.size
  stop : ∀ done s w w', Q done s w → Below w.heap.size w w' → Q done s w'
  call : ∀ S done s w, P S done w → B ≤ w.heap.size → s.size ≤ most → done.length ≤ 100000 → Calls Tryd.prog f (#[.string s] ++ lb) w fun e w' => ∃ S' : Nat → Prop, (∀ k, S' k → S k ∨ w.heap.size ≤ k) ∧ Cbk S w w' ∧ ((e = .returned (.bool true) ∧ P S' (done ++ [s]) w') ∨ (e = .returned (.bool false) ∧ Q done s w'))
structure As (B : Nat) (P : (Nat → Prop) → List ByteArray → World → Prop) (S : Nat → Prop) (done : List ByteArray) (v4 : Value) (l : List ByteArray) (v5 : Value) (xs : List ByteArray) (w : World) : Prop where
  l4 : Kd.R Kd.string 9 w B (fun k => ¬ S k ∧ some k ≠ v5.ownBlock) v4 l
  l5 : Kd.R Kd.string 9 w B (fun k => ¬ S k) v5 xs
  p : P S done w
  size : B ≤ w.heap.size
theorem As.cb {B : Nat} {P : (Nat → Prop) → List ByteArray → World → Prop} {S S' : Nat → Prop} {done done' : List ByteArray} {v4 v5 : Value} {l xs : List ByteArray} {w w' : World} (h : As B P S done v4 l v5 xs w) (hS : ∀ k, S' k → S k ∨ w.heap.size ≤ k) (hc : Cbk S w w') (hp : P S' done' w') : As B P S' done' v4 l v5 xs w' := by
  have hn : ∀ k, ¬ S k → k < w.heap.size → ¬ S' k := fun k h1 h2 h3 => by
    rcases hS k h3 with q | q
    · exact h1 q
    · omega
  refine ⟨Kd.R_mono (Kd.R_step (Kd.R_bound h.l4) (fun k hk hlt => hc.block k hlt hk.1.1)) (fun k hk => ⟨hn k hk.1.1 hk.2.2.1, hk.1.2⟩), Kd.R_mono (Kd.R_step (Kd.R_bound h.l5) (fun k hk hlt => hc.block k hlt hk.1)) (fun k hk => hn k hk.1 hk.2.2.1), hp, Nat.le_trans h.size hc.size⟩
theorem As.push {f : Nat} {lb : Array Value} {B most : Nat} {P : (Nat → Prop) → List ByteArray → World → Prop} {Q : List ByteArray → ByteArray → World → Prop} (H : Cb f lb B most P Q) {S : Nat → Prop} {done : List ByteArray} {v4 v5 v1 : Value} {l xs : List ByteArray} {x : ByteArray} {w w1 : World} (h : As B P S done v4 l v5 xs w)
    (hv : Kd.R Kd.string 9 w1 B (fun k => ¬ S k) v1 (xs ++ [x])) (hg : w.grownBy w1 v5.ownBlock) (hat : v1.ownBlock = v5.ownBlock ∨ ∃ b, v1.ownBlock = some b ∧ w.heap.size ≤ b) : As B P S done v4 l v1 (xs ++ [x]) w1 :=
  ⟨Kd.R_after h.l4 hg hat, hv, H.stab _ _ _ _ h.p (Stp.of_grown hg (fun k hk => ⟨Kd.R_base h.l5 k hk, h.l5.1 k hk⟩)), Nat.le_trans h.size hg.size⟩
theorem As.next {B : Nat} {P : (Nat → Prop) → List ByteArray → World → Prop} {S : Nat → Prop} {done : List ByteArray} {v4 v5 : Value} {l xs : List ByteArray} {w : World} (h : As B P S done v4 l v5 xs w) : As B P S done v5 xs (.slice none 0 0) [] w :=
  ⟨Kd.R_apart_nil h.l5, Kd.R_nil _ _ _ _ _, h.p, h.size⟩
theorem info9 : (Tryd.prog.info? 9).map (fun i => (i.zero, i.size, i.bytes)) = some (some (.string ByteArray.empty), 1, 16) := by kernel_rfl
theorem one_string (w : World) (s : ByteArray) (B : Nat) (ok : Nat → Prop) (hB : B ≤ w.heap.size) (hok : ∀ k, w.heap.size ≤ k → ok k) : Kd.R Kd.string 9 (w.alloc (.cells #[.string s] 9)) B ok (.slice (some ⟨w.heap.size, 0, none⟩) 1 1) [s] :=
  Kd.R_of_own (own_lit_of w B 9 [s] hB (by simp)) (fun k hk => by
    simp [Value.ownBlock] at hk
    exact hok k (by omega))
theorem str_at {w : World} {B g cap : Nat} {ok : Nat → Prop} {xs : List ByteArray} (h : Kd.R Kd.string 9 w B ok (.slice (some ⟨g, 0, none⟩) xs.length cap) xs) {i : Nat} {x : ByteArray} (hx : xs[i]? = some x) : w.cell? ⟨g, i, none⟩ = some (.string x) := by
  have hi := (List.getElem?_eq_some_iff.1 hx).1
  have := (Kd.R_cell ByteArray.empty h (i : Int) (by omega) (by omega)).1
  rw [Int.toNat_natCast] at this
  rw [this]
  unfold rdOf
  rw [Int.toNat_natCast, List.getD_eq_getElem?_getD, hx]
  rfl
theorem allL_split {k : Nat} : ∀ {n}, k < n → ∃ rest, allL n = allL k ++ lev k ++ rest
  | 0, h => by omega
  | n + 1, h => by
    by_cases e : k = n
    · subst e
      exact ⟨[], by rw [allL_succ, List.append_nil]⟩
    · obtain ⟨rest, hr⟩ := allL_split (k := k) (n := n) (by omega)
      exact ⟨rest ++ lev n, by rw [allL_succ, hr, List.append_assoc (allL k ++ lev k)]⟩
theorem take_split {l : List ByteArray} {x : Nat} {s : ByteArray} (h : l[x]? = some s) : l = l.take x ++ s :: l.drop (x + 1) := by
  obtain ⟨h1, h2⟩ := List.getElem?_eq_some_iff.1 h
  rw [← h2, List.getElem_cons_drop, List.take_append_drop]
theorem flat_succ {l : List ByteArray} {x : Nat} {s : ByteArray} (h : l[x]? = some s) : (l.take (x + 1)).flatMap kids = (l.take x).flatMap kids ++ kids s := by
  rw [take_succ_of h, List.flatMap_append]
  simp
theorem enc_word {j : Nat} (h : j < 4) : Utf8.encode (97 + (j : Int)) = wrd j := by
  have hj : j = 0 ∨ j = 1 ∨ j = 2 ∨ j = 3 := by omega
  rcases hj with rfl | rfl | rfl | rfl <;> rfl
theorem u8_next {j : Nat} (h : j < 4) : IntKind.u8.wrap (97 + (j : Int) + 1) = 97 + ((j + 1 : Nat) : Int) := by
  unfold IntKind.wrap
  simp [IntKind.signed, IntKind.bits]
  omega
theorem flat_le {l : List ByteArray} {x : Nat} {s : ByteArray} {j : Nat} (hl : l.length ≤ 1024) (hj : j ≤ 4) : ((((l.take x).flatMap kids) ++ kidsTo s j).length + 1) * 16 ≤ 140737488355328 := by
  rw [List.length_append, flatKids_length, kidsTo_length, List.length_take]
  omega
set_option maxHeartbeats 16000000 in
set_option maxRecDepth 100000 in
theorem allStrings_calls {f : Nat} {lb : Array Value} {B most : Nat} {P : (Nat → Prop) → List ByteArray → World → Prop} {Q : List ByteArray → ByteArray → World → Prop} (H : Cb f lb B most P Q) (hm : most ≤ 4) (S0 : Nat → Prop) (w : World) (hB : B ≤ w.heap.size) (hP : P S0 [] w) :
    Calls Tryd.prog 68 #[.int .i64 (most : Nat), .func (.func f) #[] lb] w fun e w' => e = .returned (.tuple #[]) ∧ ((∃ S, P S (allL (most + 1)) w') ∨ ∃ pre s post, allL (most + 1) = pre ++ s :: post ∧ Q pre s w') := by
  have eg := H.eg
  have HH := Lib.hid H
  have HAS : Hid (As B P S0 (allL 0) (.slice (some ⟨w.heap.size, 0, none⟩) 1 1) (lev 0) (.slice none 0 0) [] (w.alloc (.cells #[.string ⟨#[]⟩] 9))) := Lib.hid ⟨one_string w _ B _ hB (fun k hk => ⟨fun h => by have := H.lt _ _ _ hP k h; omega, by simp [Value.ownBlock]⟩), Kd.R_nil _ _ _ _ _, H.stab _ _ _ _ hP (Stp.of_below (below_one _)), by simp; omega⟩
  clear H hP
  go_enter Tryd.func68, Tryd.ntmps68
  go_wp2_with fail
  generalize hv4 : Value.slice (some ⟨w.heap.size, 0, none⟩) 1 1 = v4 at HAS ⊢
  generalize w.alloc (.cells #[.string ⟨#[]⟩] 9) = w0 at HAS ⊢
  clear hv4
  go_loopw [12, 4] (fun i v4 wr => ∃ (k : Nat) (S : Nat → Prop), k ≤ most + 1 ∧ i = .int .i64 k ∧ Hid (As B P S (allL k) v4 (lev k) (.slice none 0 0) [] wr)) (fun i _ _ => most + 1 - (intOf i).toNat)
  case atStart => exact ⟨0, S0, by omega, rfl, HAS⟩
  case round =>
    clear HAS
    obtain ⟨k, S, hk, rfl, HAS⟩ := hrel
    by_cases hkm : k < most + 1
    · have hkI : (k : Int) < (most : Int) + 1 := by omega
      have hlen := lev_le (k := k) (by omega)
      have hpos : 0 < (lev k).length := by rw [lev_length]; exact Nat.pow_pos (by decide)
      obtain ⟨g, cap, rfl, -⟩ := Kd.R_form HAS.out.l4 hpos
      have HSZ := Lib.hid (show ∀ s ∈ lev k, s.size ≤ most from fun s hs => by rw [lev_size hs]; omega)
      obtain ⟨l, hl⟩ : ∃ l, lev k = l := ⟨_, rfl⟩
      rw [hl] at HAS hlen HSZ ⊢
      have HL := Lib.hid hl
      clear hl hpos
      have hcap := (Kd.R_reads' HAS.out.l4).2.1
      go_wp2_with fail
      go_loopw [16, 5] (fun i v5 wr => ∃ (x : Nat) (S : Nat → Prop), x ≤ l.length ∧ i = .int .i64 x ∧ Hid (As B P S (allL k ++ l.take x) (.slice (some ⟨g, 0, none⟩) l.length cap) l v5 ((l.take x).flatMap kids) wr)) (fun i _ _ => l.length - (intOf i).toNat)
      case atStart => exact ⟨0, S, by omega, rfl, by simpa using HAS⟩
      case round =>
        clear HAS
        obtain ⟨x, S, hx, rfl, HAS⟩ := hrel
        by_cases hxl : x < l.length
        · have hxI : (x : Int) < (l.length : Int) := by omega
          obtain ⟨s, hs⟩ : ∃ s, l[x]? = some s := ⟨_, List.getElem?_eq_getElem hxl⟩
          have c0 := str_at HAS.out.l4 hs
          have hxc : x < cap := by omega
          have HS := Lib.hid hs
          have HMS := Lib.hid (HSZ.out s (List.mem_of_getElem? hs))
          have HCL := Lib.hid (HH.out.call S _ s wr HAS.out.p HAS.out.size HMS.out (by
            have h1 := allL_le (n := k) (by omega)
            rw [List.length_append, List.length_take]
            omega))
          clear hs
          go_wp2_with fail
          refine HCL.out.mono ?_
          rintro e w2 ⟨S2, hS2, hcb, hr⟩
          clear HCL
          rcases hr with ⟨rfl, hp⟩ | ⟨rfl, hq⟩
          · have HA2 := Lib.hid (HAS.out.cb hS2 hcb hp)
            rw [List.append_assoc, ← take_succ_of HS.out] at HA2
            clear hS2 hcb hp HAS c0
            go_wp2_with fail
            go_loopw [8, 5] (fun c v5 wr => ∃ j : Nat, j ≤ 4 ∧ c = .int .u8 (97 + (j : Int)) ∧ Hid (As B P S2 (allL k ++ l.take (x + 1)) (.slice (some ⟨g, 0, none⟩) l.length cap) l v5 ((l.take x).flatMap kids ++ kidsTo s j) wr)) (fun c _ _ => 101 - (intOf c).toNat)
            case atStart => exact ⟨0, by omega, rfl, by simpa [kidsTo] using HA2⟩
            case round =>
              clear HA2
              obtain ⟨j, hj, rfl, HAS⟩ := hrel
              by_cases hj4 : j < 4
              · have HXS := Lib.hid (flat_le (l := l) (x := x) (s := s) (j := j) hlen hj)
                have HKT := Lib.hid (show (l.take x).flatMap kids ++ kidsTo s (j + 1) = ((l.take x).flatMap kids ++ kidsTo s j) ++ [s ++ wrd j] by rw [kidsTo_succ, List.append_assoc])
                obtain ⟨A5, c5, h5⟩ := Kd.R_slice HAS.out.l5
                obtain ⟨xs, hxs⟩ : ∃ xs, (l.take x).flatMap kids ++ kidsTo s j = xs := ⟨_, rfl⟩
                rw [hxs] at HAS HXS HKT h5
                subst h5
                clear hxs
                have henc := enc_word hj4
                have hss : (9223372036854775807 < s.size + (wrd j).size) = False := by
                  have := HMS.out
                  rw [wrd_size]
                  simp
                  omega
                have hwu := u8_next hj4
                have hjI : 97 + (j : Int) ≤ 100 := by omega
                generalize hy : wrd j = y at henc hss HKT
                clear hy
                go_wp2_with (at_builtin; refine Kd.R_append Kd.string (w0 := wr) B rfl (.tmp 28) (.tmp 33) 40 9 (.string ByteArray.empty) 16 rfl Tryd.underlying40 info9 rfl (by decide) (by decide) (.slice A5 xs.length c5) xs (s ++ y) [.string (s ++ y)] (fun k => ¬ S2 k) (fun _ => False) rfl rfl rfl (fun _ h => h.elim) ?hfr HAS.out.l5 (Below.refl _ _) HAS.out.size HXS.out ?_; (case hfr => exact fun k hk hs => Nat.lt_irrefl _ (Nat.lt_of_lt_of_le (HH.out.lt _ _ _ HAS.out.p k hs) hk)); intro v1 w3 hv hb hg hat; have HAS3 := Lib.hid (HAS.out.push HH.out hv hg hat); clear hv hb hg hat)
                refine ⟨⟨j + 1, hj4, by simp, by rw [HKT.out]; exact HAS3⟩, by simp [intOf]; omega⟩
              · obtain rfl : j = 4 := by omega
                have HFS := Lib.hid (flat_succ HS.out)
                go_wp2_with fail
                refine ⟨⟨x + 1, S2, by omega, by go_num, by rw [HFS.out]; exact HAS⟩, by simp [intOf]; omega⟩
          · have HQ := Lib.hid hq
            clear hq hcb hS2 c0
            have HSP := Lib.hid (take_split HS.out)
            have hkm2 := hkm
            obtain ⟨rest, hrest⟩ := allL_split (k := k) (n := most + 1) hkm2
            have HSPL : Hid (allL (most + 1) = (allL k ++ l.take x) ++ s :: (l.drop (x + 1) ++ rest)) := Lib.hid (by
              rw [hrest, HL.out]
              conv => lhs; rw [HSP.out]
              simp)
            clear hrest
            go_wp2_with fail
            refine bodyPost_ret (results_none rfl _ _ _) rfl ?_
            exact ⟨rfl, .inr ⟨_, s, _, HSPL.out, HQ.out⟩⟩
        · obtain rfl : x = l.length := by omega
          have HNX := Lib.hid HAS.out.next
          rw [List.take_length] at HNX
          have HLN : Hid (allL (k + 1) = allL k ++ l ∧ lev (k + 1) = l.flatMap kids) := Lib.hid ⟨by rw [allL_succ, HL.out], by rw [lev, HL.out]⟩
          go_wp2_with fail
          refine ⟨⟨k + 1, S, by omega, by go_num, by rw [HLN.out.1, HLN.out.2]; simpa using HNX⟩, by simp [intOf]; omega⟩
    · obtain rfl : k = most + 1 := by omega
      have hkI : ¬ ((most + 1 : Nat) : Int) < (most : Int) + 1 := by omega
      go_wp2_with fail
      go_end0
      exact ⟨rfl, .inl ⟨S, HAS.out.p⟩⟩
end Go.Proofs.YtjpfalanoifpbaaDoor.X
end

section
set_option linter.unusedVariables false
set_option linter.unusedSimpArgs false
namespace Go.Proofs.YtjpfalanoifpbaaDoor.X
open Go.RowKit Go.Proofs.YtjpfalanoifpbaaDoorW.PrintWords Go.Proofs.YtjpfalanoifpbaaDoorW.PrintLast Go.Proofs.YtjpfalanoifpbaaDoorW.PrintMore Go.Proofs.YtjpfalanoifpbaaDoor.T
def has1 (L : Nat → Int) (R : Nat → ByteArray) (n : Nat) (s : ByteArray) : Bool := decide (0 < treesN 1 L R n s)
structure Wd (w0 : World) (gb go : Nat) (A : Option Addr) (n c : Nat) (p : ByteArray → Bool) (S : Nat → Prop) (done : List ByteArray) (w : World) : Prop where
  bl : Below w0.heap.size w0 w
  bx : w.heap[gb]? = some (.cells #[.slice A n c] 27 (0, 0))
  row : ∃ v, w.heap[go]? = some (.cells #[v] 40 (0, 0)) ∧ Kd.R Kd.string 9 w w0.heap.size S v (done.filter p)
  sg : S go
  nb : ¬ S gb
  lt : ∀ k, S k → w0.heap.size ≤ k ∧ k < w.heap.size
theorem Wd.stab {w0 : World} {gb go B : Nat} {A : Option Addr} {n c : Nat} {p : ByteArray → Bool} {S : Nat → Prop} {done : List ByteArray} {w w' : World} (hB : w0.heap.size ≤ B) (hg : gb < B) (h : Wd w0 gb go A n c p S done w) (hs : Stp B S w w') : Wd w0 gb go A n c p S done w' := by
  obtain ⟨v, h1, h2⟩ := h.row
  refine ⟨⟨hs.os.trans h.bl.os, hs.tape.trans h.bl.tape, hs.output.trans h.bl.output, Nat.le_trans h.bl.size hs.size, fun k hk => ?_⟩, ?_, ⟨v, ?_, Kd.R_step h2 (fun k hk hlt => hs.block k hlt (.inr hk))⟩, h.sg, h.nb, fun k hk => ⟨(h.lt k hk).1, Nat.lt_of_lt_of_le (h.lt k hk).2 hs.size⟩⟩
  · exact (hs.block k (Nat.lt_of_lt_of_le hk h.bl.size) (.inl (by omega))).trans (h.bl.block k hk)
  · exact (hs.block gb (Array.getElem?_eq_some_iff.1 h.bx).1 (.inl hg)).trans h.bx
  · exact (hs.block go (Array.getElem?_eq_some_iff.1 h1).1 (.inr h.sg)).trans h1
theorem box_read {w : World} {g : Nat} {v : Value} {t : TypeId} (h : w.heap[g]? = some (.cells #[v] t (0, 0))) : w.cell? ⟨g, 0, none⟩ = some v := by
  rw [blk_cell h]
  rfl
theorem box_set {w : World} {g : Nat} {u : Value} {t : TypeId} (h : w.heap[g]? = some (.cells #[u] t (0, 0))) (v : Value) : (w.setCell ⟨g, 0, none⟩ v).heap[g]? = some (.cells #[v] t (0, 0)) := by
  have := blk_set h 0 v
  rw [this]
  rfl
theorem grown_box {w2 w3 : World} {go base : Nat} {v u : Value} {ok : Nat → Prop} {xs : List ByteArray} (hV : w2.heap[go]? = some (.cells #[u] 40 (0, 0))) (hR : Kd.R Kd.string 9 w2 base ok v xs) (hg : w2.grownBy w3 v.ownBlock) : w3.heap[go]? = some (.cells #[u] 40 (0, 0)) :=
  (hg.block go (Array.getElem?_eq_some_iff.1 hV).1 (Kd.R_ne hR hV (by decide))).trans hV
theorem Wd.found {w0 w w2 w3 : World} {gb go : Nat} {A : Option Addr} {n c : Nat} {p : ByteArray → Bool} {S : Nat → Prop} {done done' : List ByteArray} {v v1 u : Value} {xs ys : List ByteArray} (h : Wd w0 gb go A n c p S done w) (hb : Below w.heap.size w w2) (hV : w3.heap[go]? = some (.cells #[u] 40 (0, 0)))
    (hv : Kd.R Kd.string 9 w3 w0.heap.size (fun k => S k ∨ w2.heap.size ≤ k) v1 ys) (hg : w2.grownBy w3 v.ownBlock) (hR : Kd.R Kd.string 9 w2 w0.heap.size S v xs) (hbl : Below w0.heap.size w0 w3) :
    Cbk S w (w3.setCell ⟨go, 0, none⟩ v1) ∧ (done'.filter p = ys → Wd w0 gb go A n c p (fun k => (S k ∨ w.heap.size ≤ k) ∧ k < w3.heap.size) done' (w3.setCell ⟨go, 0, none⟩ v1)) := by
  have hsz : (w3.setCell ⟨go, 0, none⟩ v1).heap.size = w3.heap.size := by simp [World.setCell]
  have hgo := h.lt go h.sg
  have hkeep : ∀ k, k < w.heap.size → ¬ S k → (w3.setCell ⟨go, 0, none⟩ v1).heap[k]? = w.heap[k]? := fun k hk hS => by
    have h1 : k ≠ go := fun e => hS (by rw [e]; exact h.sg)
    rw [Below.heap_setCell w3 ⟨go, 0, none⟩ v1 k h1, hg.block k (Nat.lt_of_lt_of_le hk hb.size) (fun e => hS (hR.1 k e.symm))]
    exact hb.block k hk
  refine ⟨⟨by rw [hsz]; exact Nat.le_trans hb.size hg.size, hkeep⟩, fun hys => ⟨hbl.setCell (p := ⟨go, 0, none⟩) hgo.1 _, (hkeep gb (Array.getElem?_eq_some_iff.1 h.bx).1 h.nb).trans h.bx, ⟨v1, box_set hV v1, ?_⟩, ⟨.inl h.sg, by have := Nat.le_trans hb.size hg.size; omega⟩, fun q => ?_, fun k hk => ⟨?_, by rw [hsz]; exact hk.2⟩⟩⟩
  · rw [hys]
    have h1 := Kd.R_set hv hV (fun q hq => by
      have : q = 9 := by simpa [Kd.string, Kd.scalar] using hq
      rw [this]
      decide) 0 v1
    refine Kd.R_mono (Kd.R_bound h1) (fun k hk => ⟨?_, by have := hk.2.2.1; rw [hsz] at this; exact this⟩)
    rcases hk.1 with q | q
    · exact .inl q
    · exact .inr (Nat.le_trans hb.size q)
  · rcases q.1 with q1 | q1
    · exact h.nb q1
    · have := (Array.getElem?_eq_some_iff.1 h.bx).1
      omega
  · rcases hk.1 with q | q
    · exact (h.lt k q).1
    · exact Nat.le_trans h.bl.size q
set_option maxHeartbeats 8000000 in
set_option maxRecDepth 100000 in
theorem words1_call {w0 : World} {gb go : Nat} {A : Option Addr} {n c : Nat} {L : Nat → Int} {R : Nat → ByteArray} (hA : Sr w0 A n c L R) (hg : Gr L R n) {S : Nat → Prop} {done : List ByteArray} {s : ByteArray} {w : World} (h : Wd w0 gb go A n c (has1 L R n) S done w) (hs : s.size ≤ 4) (hdl : done.length ≤ 100000) :
    Calls Tryd.prog 69 #[.string s, .pointer (some ⟨gb, 0, none⟩), .pointer (some ⟨go, 0, none⟩)] w fun e w' => ∃ S' : Nat → Prop, (∀ k, S' k → S k ∨ w.heap.size ≤ k) ∧ Cbk S w w' ∧ e = .returned (.bool true) ∧ Wd w0 gb go A n c (has1 L R n) S' (done ++ [s]) w' := by
  obtain ⟨v, hv, hR⟩ := h.row
  have HA := Lib.hid (hA.later h.bl)
  have HV := Lib.hid hv
  have HR := Lib.hid hR
  have HG := Lib.hid hg
  have HH := Lib.hid h
  have c0 := box_read h.bx
  have hlen : (done.filter (has1 L R n)).length ≤ 100000 := Nat.le_trans (List.length_filter_le _ _) hdl
  clear hA hg h hv hR
  obtain ⟨xs, hxs⟩ : ∃ xs, done.filter (has1 L R n) = xs := ⟨_, rfl⟩
  have HXS := Lib.hid hxs
  rw [hxs] at HR hlen
  clear hxs
  obtain ⟨T1, hT1⟩ : ∃ T1, treesN 1 L R n s = T1 := ⟨_, rfl⟩
  have HT1 := Lib.hid hT1
  clear hT1
  go_enter Tryd.func69, Tryd.ntmps69
  go_wp2_with fail
  refine (trees_calls A n c L R s 1 w HA.out HG.out (by omega) (by decide)).mono ?_
  rintro e w2 ⟨rfl, hb2⟩
  rw [HT1.out]
  have HB2 := Lib.hid hb2
  have HV2 := Lib.hid ((hb2.block _ (Array.getElem?_eq_some_iff.1 HV.out).1).trans HV.out)
  have HR2 := Lib.hid (Kd.R_below HR.out hb2)
  have HP2 := Lib.hid (HH.out.bl.trans (hb2.mono HH.out.bl.size))
  have HX2 := Lib.hid ((hb2.block _ (Array.getElem?_eq_some_iff.1 HH.out.bx).1).trans HH.out.bx)
  clear hb2 c0
  by_cases hpos : 0 < T1
  · have hposI : 0 < (T1 : Int) := by omega
    have HF : Hid ((done ++ [s]).filter (has1 L R n) = xs ++ [s]) := Lib.hid (by
      rw [List.filter_append, HXS.out]
      have : has1 L R n s = true := by
        unfold has1
        rw [HT1.out]
        exact decide_eq_true hpos
      simp [this])
    have c1 := box_read HV2.out
    obtain ⟨A5, c5, h5⟩ := Kd.R_slice HR2.out
    subst h5
    go_wp2_with (at_builtin; refine Kd.R_append Kd.string (w0 := w2) w0.heap.size rfl (.tmp 9) (.tmp 11) 40 9 (.string ByteArray.empty) 16 rfl Tryd.underlying40 info9 rfl (by decide) (by decide) (.slice A5 xs.length c5) xs s [.string s] (fun k => S k ∨ w2.heap.size ≤ k) (fun _ => False) rfl rfl rfl (fun _ h => h.elim) (fun _ h => .inr h) (Kd.R_mono HR2.out (fun _ h => .inl h)) (Below.refl _ _) HP2.out.size (by omega) ?_; intro v1 w3 hv hb hg hat; obtain ⟨A6, c6, h6⟩ := Kd.R_slice hv; subst h6; have HV3 := Lib.hid hv; have HB3 := Lib.hid hb; have HG3 := Lib.hid hg; have HV4 := Lib.hid (grown_box HV2.out HR2.out hg); have c2 := box_read HV4.out; have f2 := blk_frozen HV4.out 0; clear hv hb hg hat)
    have HW := Lib.hid (HH.out.found (done' := done ++ [s]) HB2.out HV4.out HV3.out HG3.out HR2.out (HP2.out.trans HB3.out))
    have hl6 : (xs ++ [s]).length = xs.length + 1 := by simp
    rw [hl6] at HW
    clear c1 c2 f2
    go_ret
    refine ⟨fun k => (S k ∨ w.heap.size ≤ k) ∧ k < w3.heap.size, fun k hk => hk.1, HW.out.1, rfl, ?_⟩
    exact HW.out.2 HF.out
  · have hposI : ¬ 0 < (T1 : Int) := by omega
    have HF : Hid ((done ++ [s]).filter (has1 L R n) = xs) := Lib.hid (by
      rw [List.filter_append, HXS.out]
      have : has1 L R n s = false := by
        unfold has1
        rw [HT1.out]
        exact decide_eq_false hpos
      simp [this])
    go_wp2_with fail
    go_ret
    refine ⟨S, fun k hk => .inl hk, ⟨HB2.out.size, fun k hk _ => HB2.out.block k hk⟩, rfl, ?_⟩
    refine ⟨HP2.out, HX2.out, ⟨v, HV2.out, ?_⟩, HH.out.sg, HH.out.nb, fun k hk => ⟨(HH.out.lt k hk).1, Nat.lt_of_lt_of_le (HH.out.lt k hk).2 HB2.out.size⟩⟩
    rw [HF.out]
    exact HR2.out
theorem enters_of' {P : Program} {f : Nat} {fn : Func} (hf : P.funcs[f]? = some fn) (h1 : (fn.name == "runtime.NumGoroutine") = false) (h2 : fn.body.isSome = true) : ∀ args w, (callFunc f args).run P w = .ok (.enter f args) w := fun args w => enters_ hf h1 h2 args w
theorem words1_cb {w0 : World} {gb go B : Nat} {A : Option Addr} {n c : Nat} {L : Nat → Int} {R : Nat → ByteArray} (hA : Sr w0 A n c L R) (hg : Gr L R n) (hB : w0.heap.size ≤ B) (hgb : gb < B) (most : Nat) (hm : most ≤ 4) :
    Cb 69 #[.pointer (some ⟨gb, 0, none⟩), .pointer (some ⟨go, 0, none⟩)] B most (fun S done w => Wd w0 gb go A n c (has1 L R n) S done w) (fun _ _ _ => False) where
  eg := enters_of' Tryd.func69 (by kernel_rfl) rfl
  stab := fun S done w w' h hs => h.stab hB hgb hs
  lt := fun S done w h k hk => (h.lt k hk).2
  stop := fun _ _ _ _ h _ => h.elim
  call := fun S done s w h _ hs hd => (words1_call hA hg h (by omega) hd).mono (by
    rintro e w' ⟨S', h1, h2, h3, h4⟩
    exact ⟨S', h1, h2, .inl ⟨h3, h4⟩⟩)
end Go.Proofs.YtjpfalanoifpbaaDoor.X
end

section
set_option linter.unusedVariables false
set_option linter.unusedSimpArgs false
namespace Go.Proofs.YtjpfalanoifpbaaDoor.X
open Go.RowKit Go.Proofs.YtjpfalanoifpbaaDoorW.PrintWords Go.Proofs.YtjpfalanoifpbaaDoorW.PrintLast Go.Proofs.YtjpfalanoifpbaaDoorW.PrintMore Go.Proofs.YtjpfalanoifpbaaDoor.T
set_option maxHeartbeats 8000000 in
set_option maxRecDepth 100000 in
theorem Words_yes (A : Option Addr) (n c : Nat) (L : Nat → Int) (R : Nat → ByteArray) (most : Nat) (w : World) (hA : Sr w A n c L R) (hg : Gram L R n) (hm : most ≤ 4) :
    Calls Tryd.prog 30 #[.slice A n c, .int .i64 most] w fun e w' => (∃ v, e = .returned (.tuple #[v, .int .i64 0]) ∧ Kd.R Kd.string 9 w' w.heap.size (fun _ => True) v ((allL (most + 1)).filter (has1 L R n))) ∧ Below w.heap.size w w' := by
  have HA := Lib.hid hA
  have HG := Lib.hid hg
  have h8 := hg.1.2
  have h4 : ∀ k, k < n → (R k).size ≤ 1000 := fun k hk => Nat.le_trans (hg.2 k hk).sz (by decide)
  have HV := Lib.hid fun (w : World) (h : Sr w A n c L R) => valid_calls A n c L R w h (by omega) h4 true (by simp [hg])
  have hmI : ¬ (4 : Int) < most := by omega
  have hmJ : ¬ (most : Int) < 0 := by omega
  clear hA hg h4
  go_enter Tryd.func30, Tryd.ntmps30
  go_wp2_with fail
  have hb0 := below_one (w := w) (.cells #[.slice A n c] 27)
  have hk0 := blk_new w (.cells #[.slice A n c] 27)
  obtain ⟨w1, hw1⟩ : ∃ w1, w1 = w.alloc (.cells #[.slice A n c] 27) := ⟨_, rfl⟩
  rw [← hw1] at hb0 hk0 ⊢
  have HB1 := Lib.hid hb0
  have HK1 := Lib.hid hk0
  clear hb0 hk0 hw1
  refine (HV.out w1 (HA.out.later HB1.out)).mono ?_
  rintro e w2 ⟨rfl, hb2⟩
  have HB2 := Lib.hid (HB1.out.trans (hb2.mono HB1.out.size))
  have HK2 := Lib.hid ((hb2.block _ (Array.getElem?_eq_some_iff.1 HK1.out).1).trans HK1.out)
  clear hb2 HB1 HK1
  go_wp2_with fail
  have hb3 := below_one (w := w2) (.cells #[.slice none 0 0] 40)
  have hk3 := blk_new w2 (.cells #[.slice none 0 0] 40)
  have hsz3 : (w2.alloc (.cells #[.slice none 0 0] 40)).heap.size = w2.heap.size + 1 := by simp
  obtain ⟨w3, hw3⟩ : ∃ w3, w3 = w2.alloc (.cells #[.slice none 0 0] 40) := ⟨_, rfl⟩
  rw [← hw3] at hb3 hk3 hsz3 ⊢
  have HP : Hid (Wd w w.heap.size w2.heap.size A n c (has1 L R n) (fun k => k = w2.heap.size) [] w3) := Lib.hid ⟨HB2.out.trans (hb3.mono HB2.out.size), (hb3.block _ (Array.getElem?_eq_some_iff.1 HK2.out).1).trans HK2.out, ⟨_, hk3, Kd.R_nil _ _ _ _ _⟩, rfl, fun h => by
    have := (Array.getElem?_eq_some_iff.1 HK2.out).1
    omega, fun k hk => by
    have := HB2.out.size
    omega⟩
  have HLT := Lib.hid (show w.heap.size ≤ w3.heap.size ∧ w.heap.size < w3.heap.size by
    have := HB2.out.size
    omega)
  clear hb3 hk3 hsz3 hw3 HB2 HK2
  refine (allStrings_calls (words1_cb HA.out HG.out.gr HLT.out.1 HLT.out.2 most hm) hm _ w3 (Nat.le_refl _) HP.out).mono ?_
  rintro e w4 ⟨rfl, ⟨S, hP⟩ | ⟨_, _, _, _, h⟩⟩
  · obtain ⟨v, hv, hR⟩ := hP.row
    have HR := Lib.hid hR
    have HBL := Lib.hid hP.bl
    have c0 := box_read hv
    obtain ⟨A5, c5, h5⟩ := Kd.R_slice hR
    subst h5
    clear hR hP hv
    go_wp2
    go_ret2
    exact ⟨⟨_, rfl, Kd.R_mono HR.out (fun _ _ => trivial)⟩, HBL.out⟩
  · exact h.elim
set_option maxHeartbeats 8000000 in
set_option maxRecDepth 100000 in
theorem Words_no (A : Option Addr) (n c : Nat) (L : Nat → Int) (R : Nat → ByteArray) (most : Int) (w : World) (hA : Sr w A n c L R) (hn : n ≤ 1000) (hsz : ∀ k, k < n → (R k).size ≤ 1000) (hg : ¬ (Gram L R n ∧ 0 ≤ most ∧ most ≤ 4)) :
    Calls Tryd.prog 30 #[.slice A n c, .int .i64 most] w fun e w' => e = .returned (.tuple #[.slice none 0 0, .int .i64 2]) ∧ Below w.heap.size w w' := by
  have HA := Lib.hid hA
  obtain ⟨r, hr⟩ : ∃ r : Bool, r = true ↔ Gram L R n := by
    by_cases h : Gram L R n
    · exact ⟨true, by simp [h]⟩
    · exact ⟨false, by simp [h]⟩
  have HV := Lib.hid fun (w : World) (h : Sr w A n c L R) => valid_calls A n c L R w h hn hsz r hr
  have hq : r = true → ¬ (0 ≤ most ∧ most ≤ 4) := fun h q => hg ⟨hr.1 h, q⟩
  clear hA hg hsz hr
  go_enter Tryd.func30, Tryd.ntmps30
  go_wp2_with fail
  have hb0 := below_one (w := w) (.cells #[.slice A n c] 27)
  obtain ⟨w1, hw1⟩ : ∃ w1, w1 = w.alloc (.cells #[.slice A n c] 27) := ⟨_, rfl⟩
  rw [← hw1] at hb0 ⊢
  have HB1 := Lib.hid hb0
  clear hb0 hw1
  refine (HV.out w1 (HA.out.later HB1.out)).mono ?_
  rintro e w2 ⟨rfl, hb2⟩
  have HB2 := Lib.hid (HB1.out.trans (hb2.mono HB1.out.size))
  clear hb2 HB1
  cases r with
  | false =>
    clear hq
    go_wp2
    go_ret2
    exact ⟨rfl, HB2.out⟩
  | true =>
    have hq2 := hq rfl
    clear hq
    by_cases h0 : most < 0
    · go_wp2
      go_ret2
      exact ⟨rfl, HB2.out⟩
    · have h4 : 4 < most := by omega
      clear hq2
      go_wp2
      go_ret2
      exact ⟨rfl, HB2.out⟩
end Go.Proofs.YtjpfalanoifpbaaDoor.X
end

section
set_option linter.unusedVariables false
set_option linter.unusedSimpArgs false
namespace Go.Proofs.YtjpfalanoifpbaaDoor.X
open Go.RowKit Go.Proofs.YtjpfalanoifpbaaDoorW.PrintWords Go.Proofs.YtjpfalanoifpbaaDoorW.PrintLast Go.Proofs.YtjpfalanoifpbaaDoorW.PrintMore Go.Proofs.YtjpfalanoifpbaaDoor.T
def has2 (L : Nat → Int) (R : Nat → ByteArray) (n : Nat) (s : ByteArray) : Bool := decide (1 < treesN 2 L R n s)
structure Db (w0 : World) (gb gs gk : Nat) (A : Option Addr) (n c : Nat) (p : ByteArray → Bool) (S : Nat → Prop) (done : List ByteArray) (w : World) : Prop where
  bl : Below w0.heap.size w0 w
  bx : w.heap[gb]? = some (.cells #[.slice A n c] 27 (0, 0))
  st : ∃ s, w.heap[gs]? = some (.cells #[.string s] 9 (0, 0))
  ok : w.heap[gk]? = some (.cells #[.bool false] 4 (0, 0))
  no : ∀ y ∈ done, p y = false
  sg : S gs ∧ S gk
  nb : ¬ S gb
  lt : ∀ k, S k → w0.heap.size ≤ k ∧ k < w.heap.size
structure Dq (w0 : World) (gs gk : Nat) (p : ByteArray → Bool) (done : List ByteArray) (s : ByteArray) (w : World) : Prop where
  bl : Below w0.heap.size w0 w
  st : w.heap[gs]? = some (.cells #[.string s] 9 (0, 0))
  ok : w.heap[gk]? = some (.cells #[.bool true] 4 (0, 0))
  no : ∀ y ∈ done, p y = false
  yes : p s = true
  le : w0.heap.size ≤ w.heap.size
theorem Db.stab {w0 : World} {gb gs gk B : Nat} {A : Option Addr} {n c : Nat} {p : ByteArray → Bool} {S : Nat → Prop} {done : List ByteArray} {w w' : World} (hB : w0.heap.size ≤ B) (hg : gb < B) (h : Db w0 gb gs gk A n c p S done w) (hs : Stp B S w w') : Db w0 gb gs gk A n c p S done w' := by
  obtain ⟨v, h1⟩ := h.st
  refine ⟨⟨hs.os.trans h.bl.os, hs.tape.trans h.bl.tape, hs.output.trans h.bl.output, Nat.le_trans h.bl.size hs.size, fun k hk => ?_⟩, ?_, ⟨v, ?_⟩, ?_, h.no, h.sg, h.nb, fun k hk => ⟨(h.lt k hk).1, Nat.lt_of_lt_of_le (h.lt k hk).2 hs.size⟩⟩
  · exact (hs.block k (Nat.lt_of_lt_of_le hk h.bl.size) (.inl (by omega))).trans (h.bl.block k hk)
  · exact (hs.block gb (Array.getElem?_eq_some_iff.1 h.bx).1 (.inl hg)).trans h.bx
  · exact (hs.block gs (Array.getElem?_eq_some_iff.1 h1).1 (.inr h.sg.1)).trans h1
  · exact (hs.block gk (Array.getElem?_eq_some_iff.1 h.ok).1 (.inr h.sg.2)).trans h.ok
theorem two_boxes {w w0 : World} {gs gk : Nat} {u v : Value} (h1 : w.heap[gs]? = some (.cells #[u] 9 (0, 0))) (h2 : w.heap[gk]? = some (.cells #[v] 4 (0, 0))) (u' v' : Value) (hb : Below w0.heap.size w0 w) (hs : w0.heap.size ≤ gs) (hk : w0.heap.size ≤ gk) :
    (((w.setCell ⟨gs, 0, none⟩ u').setCell ⟨gk, 0, none⟩ v').heap[gs]? = some (.cells #[u'] 9 (0, 0)) ∧ ((w.setCell ⟨gs, 0, none⟩ u').setCell ⟨gk, 0, none⟩ v').heap[gk]? = some (.cells #[v'] 4 (0, 0))) ∧
    (∀ k, k ≠ gs → k ≠ gk → ((w.setCell ⟨gs, 0, none⟩ u').setCell ⟨gk, 0, none⟩ v').heap[k]? = w.heap[k]?) ∧ ((w.setCell ⟨gs, 0, none⟩ u').setCell ⟨gk, 0, none⟩ v').heap.size = w.heap.size ∧ Below w0.heap.size w0 ((w.setCell ⟨gs, 0, none⟩ u').setCell ⟨gk, 0, none⟩ v') := by
  have hne : gs ≠ gk := by
    rintro rfl
    rw [h1] at h2
    cases h2
  have k1 := box_set h1 u'
  have k2 : (w.setCell ⟨gs, 0, none⟩ u').heap[gk]? = some (.cells #[v] 4 (0, 0)) := (Below.heap_setCell w ⟨gs, 0, none⟩ u' gk (Ne.symm hne)).trans h2
  refine ⟨⟨(Below.heap_setCell _ ⟨gk, 0, none⟩ v' gs hne).trans k1, box_set k2 v'⟩, fun k h3 h4 => (Below.heap_setCell _ ⟨gk, 0, none⟩ v' k h4).trans (Below.heap_setCell w ⟨gs, 0, none⟩ u' k h3), by simp [World.setCell], (hb.setCell (p := ⟨gs, 0, none⟩) hs _).setCell (p := ⟨gk, 0, none⟩) hk _⟩
set_option maxHeartbeats 8000000 in
set_option maxRecDepth 100000 in
theorem double1_call {w0 : World} {gb gs gk : Nat} {A : Option Addr} {n c : Nat} {L : Nat → Int} {R : Nat → ByteArray} (hA : Sr w0 A n c L R) (hg : Gr L R n) {S : Nat → Prop} {done : List ByteArray} {s : ByteArray} {w : World} (h : Db w0 gb gs gk A n c (has2 L R n) S done w) (hs : s.size ≤ 4) :
    Calls Tryd.prog 71 #[.string s, .pointer (some ⟨gb, 0, none⟩), .pointer (some ⟨gs, 0, none⟩), .pointer (some ⟨gk, 0, none⟩)] w fun e w' => Cbk S w w' ∧ ((e = .returned (.bool true) ∧ Db w0 gb gs gk A n c (has2 L R n) S (done ++ [s]) w') ∨ (e = .returned (.bool false) ∧ Dq w0 gs gk (has2 L R n) done s w')) := by
  obtain ⟨s0, hst⟩ := h.st
  have HA := Lib.hid (hA.later h.bl)
  have HG := Lib.hid hg
  have HH := Lib.hid h
  have HS0 := Lib.hid hst
  have c0 := box_read h.bx
  clear hA hg h hst
  obtain ⟨T2, hT2⟩ : ∃ T2, treesN 2 L R n s = T2 := ⟨_, rfl⟩
  have HT2 := Lib.hid hT2
  clear hT2
  go_enter Tryd.func71, Tryd.ntmps71
  go_wp2_with fail
  refine (trees_calls A n c L R s 2 w HA.out HG.out (by omega) (by decide)).mono ?_
  rintro e w2 ⟨rfl, hb2⟩
  rw [HT2.out]
  have HB2 := Lib.hid hb2
  have hs2 := (hb2.block _ (Array.getElem?_eq_some_iff.1 HS0.out).1).trans HS0.out
  have hk2 := (hb2.block _ (Array.getElem?_eq_some_iff.1 HH.out.ok).1).trans HH.out.ok
  have HP2 := Lib.hid (HH.out.bl.trans (hb2.mono HH.out.bl.size))
  have HX2 := Lib.hid ((hb2.block _ (Array.getElem?_eq_some_iff.1 HH.out.bx).1).trans HH.out.bx)
  have c1 := box_read hs2
  have c2 := box_read hk2
  have f1 := blk_frozen hs2 0
  have f2 := blk_frozen hk2 0
  have hgs := HH.out.lt gs HH.out.sg.1
  have hgk := HH.out.lt gk HH.out.sg.2
  have HTB := Lib.hid (fun u v => two_boxes hs2 hk2 u v HP2.out hgs.1 hgk.1)
  have HNE := Lib.hid (show gs ≠ gk by
    rintro rfl
    rw [hs2] at hk2
    cases hk2)
  have hne : ¬ gs = gk := HNE.out
  have HCB := Lib.hid (show ∀ u v, Cbk S w ((w2.setCell ⟨gs, 0, none⟩ u).setCell ⟨gk, 0, none⟩ v) from fun u v => by
    obtain ⟨-, h2, h3, -⟩ := HTB.out u v
    exact ⟨by rw [h3]; exact HB2.out.size, fun k hk hS => (h2 k (fun e => hS (by rw [e]; exact HH.out.sg.1)) (fun e => hS (by rw [e]; exact HH.out.sg.2))).trans (HB2.out.block k hk)⟩)
  clear hb2 c0 hs2 hk2 hgs hgk
  by_cases hpos : 1 < T2
  · have hposI : 1 < (T2 : Int) := by omega
    have HY : Hid (has2 L R n s = true) := Lib.hid (by
      unfold has2
      rw [HT2.out]
      exact decide_eq_true hpos)
    go_wp2_with fail
    go_ret
    obtain ⟨h1, h2, h3, h4⟩ := HTB.out (.string s) (.bool true)
    exact ⟨HCB.out _ _, .inr ⟨rfl, ⟨h4, h1.1, h1.2, HH.out.no, HY.out, by rw [h3]; exact Nat.le_trans HH.out.bl.size HB2.out.size⟩⟩⟩
  · have hposI : decide (1 < (T2 : Int)) = false := decide_eq_false (by omega)
    have HY : Hid (has2 L R n s = false) := Lib.hid (by
      unfold has2
      rw [HT2.out]
      exact decide_eq_false hpos)
    go_wp2_with fail
    go_ret
    obtain ⟨h1, h2, h3, h4⟩ := HTB.out (.string s) (.bool false)
    refine ⟨HCB.out _ _, .inl ⟨rfl, ⟨h4, (HCB.out _ _).block gb (Array.getElem?_eq_some_iff.1 HH.out.bx).1 HH.out.nb |>.trans HH.out.bx, ⟨s, h1.1⟩, h1.2, fun y hy => ?_, HH.out.sg, HH.out.nb, fun k hk => ⟨(HH.out.lt k hk).1, Nat.lt_of_lt_of_le (HH.out.lt k hk).2 (HCB.out _ _).size⟩⟩⟩⟩
    rcases List.mem_append.1 hy with q | q
    · exact HH.out.no y q
    · rw [List.mem_singleton] at q
      rw [q]
      exact HY.out
theorem double1_cb {w0 : World} {gb gs gk B : Nat} {A : Option Addr} {n c : Nat} {L : Nat → Int} {R : Nat → ByteArray} (hA : Sr w0 A n c L R) (hg : Gr L R n) (hB : w0.heap.size ≤ B) (hgb : gb < B) (hgs : gs < B) (hgk : gk < B) (most : Nat) (hm : most ≤ 4) :
    Cb 71 #[.pointer (some ⟨gb, 0, none⟩), .pointer (some ⟨gs, 0, none⟩), .pointer (some ⟨gk, 0, none⟩)] B most (fun S done w => Db w0 gb gs gk A n c (has2 L R n) S done w) (fun done s w => Dq w0 gs gk (has2 L R n) done s w) where
  eg := enters_of' Tryd.func71 (by kernel_rfl) rfl
  stab := fun S done w w' h hs => h.stab hB hgb hs
  lt := fun S done w h k hk => (h.lt k hk).2
  stop := fun done s w w' h hb => ⟨h.bl.trans (hb.mono h.le), (hb.block _ (Array.getElem?_eq_some_iff.1 h.st).1).trans h.st, (hb.block _ (Array.getElem?_eq_some_iff.1 h.ok).1).trans h.ok, h.no, h.yes, Nat.le_trans h.le hb.size⟩
  call := fun S done s w h _ hs _ => (double1_call hA hg h (by omega)).mono (by
    rintro e w' ⟨h1, h2⟩
    exact ⟨S, fun k hk => .inl hk, h1, h2⟩)
def dblS (p : ByteArray → Bool) : ByteArray := ((allL 5).find? p).getD ⟨#[]⟩
def dblE (p : ByteArray → Bool) : Int := if ((allL 5).find? p).isSome then 0 else 4
set_option maxHeartbeats 8000000 in
set_option maxRecDepth 100000 in
theorem Double_yes (A : Option Addr) (n c : Nat) (L : Nat → Int) (R : Nat → ByteArray) (w : World) (hA : Sr w A n c L R) (hg : Gram L R n) :
    Calls Tryd.prog 32 #[.slice A n c] w fun e w' => e = .returned (.tuple #[.string (dblS (has2 L R n)), .int .i64 (dblE (has2 L R n))]) ∧ Below w.heap.size w w' := by
  have HA := Lib.hid hA
  have HG := Lib.hid hg
  have h8 := hg.1.2
  have h4 : ∀ k, k < n → (R k).size ≤ 1000 := fun k hk => Nat.le_trans (hg.2 k hk).sz (by decide)
  have HV := Lib.hid fun (w : World) (h : Sr w A n c L R) => valid_calls A n c L R w h (by omega) h4 true (by simp [hg])
  clear hA hg h4
  go_enter Tryd.func32, Tryd.ntmps32
  go_wp2_with fail
  have hb0 := below_one (w := w) (.cells #[.slice A n c] 27)
  have hk0 := blk_new w (.cells #[.slice A n c] 27)
  obtain ⟨w1, hw1⟩ : ∃ w1, w1 = w.alloc (.cells #[.slice A n c] 27) := ⟨_, rfl⟩
  rw [← hw1] at hb0 hk0 ⊢
  have HB1 := Lib.hid hb0
  have HK1 := Lib.hid hk0
  clear hb0 hk0 hw1
  refine (HV.out w1 (HA.out.later HB1.out)).mono ?_
  rintro e w2 ⟨rfl, hb2⟩
  have HB2 := Lib.hid (HB1.out.trans (hb2.mono HB1.out.size))
  have HK2 := Lib.hid ((hb2.block _ (Array.getElem?_eq_some_iff.1 HK1.out).1).trans HK1.out)
  clear hb2 HB1 HK1
  go_wp2_with fail
  have hb3 := below_one (w := w2) (.cells #[.string ⟨#[]⟩] 9)
  have hk3 := blk_new w2 (.cells #[.string ⟨#[]⟩] 9)
  have hsz3 : (w2.alloc (.cells #[.string ⟨#[]⟩] 9)).heap.size = w2.heap.size + 1 := by simp
  obtain ⟨w3, hw3⟩ : ∃ w3, w3 = w2.alloc (.cells #[.string ⟨#[]⟩] 9) := ⟨_, rfl⟩
  rw [← hw3] at hb3 hk3 hsz3 ⊢
  have hb4 := below_one (w := w3) (.cells #[.bool false] 4)
  have hk4 := blk_new w3 (.cells #[.bool false] 4)
  have hsz4 : (w3.alloc (.cells #[.bool false] 4)).heap.size = w3.heap.size + 1 := by simp
  obtain ⟨w4, hw4⟩ : ∃ w4, w4 = w3.alloc (.cells #[.bool false] 4) := ⟨_, rfl⟩
  rw [← hw4] at hb4 hk4 hsz4 ⊢
  rw [hsz3] at hk4 hsz4
  have hbb := hb3.trans (hb4.mono hb3.size)
  have HP : Hid (Db w w.heap.size w2.heap.size (w2.heap.size + 1) A n c (has2 L R n) (fun k => k = w2.heap.size ∨ k = w2.heap.size + 1) [] w4) := Lib.hid ⟨HB2.out.trans (hbb.mono HB2.out.size), (hbb.block _ (Array.getElem?_eq_some_iff.1 HK2.out).1).trans HK2.out, ⟨_, (hb4.block _ (Array.getElem?_eq_some_iff.1 hk3).1).trans hk3⟩, hk4, fun y hy => (by cases hy), ⟨.inl rfl, .inr rfl⟩, fun h => by
    have := (Array.getElem?_eq_some_iff.1 HK2.out).1
    omega, fun k hk => by
    have := HB2.out.size
    omega⟩
  have HLT := Lib.hid (show w.heap.size ≤ w4.heap.size ∧ w.heap.size < w4.heap.size ∧ w2.heap.size < w4.heap.size ∧ w2.heap.size + 1 < w4.heap.size by
    have := HB2.out.size
    omega)
  clear hb3 hk3 hsz3 hw3 HB2 HK2 hbb hb4 hk4 hsz4 hw4
  obtain ⟨gs, hgs⟩ : ∃ gs, w2.heap.size = gs := ⟨_, rfl⟩
  rw [hgs] at HP HLT ⊢
  obtain ⟨gk, hgk⟩ : ∃ gk, gs + 1 = gk := ⟨_, rfl⟩
  rw [hgk] at HP HLT ⊢
  clear hgs hgk
  refine (allStrings_calls (most := 4) (double1_cb HA.out HG.out.gr HLT.out.1 HLT.out.2.1 HLT.out.2.2.1 HLT.out.2.2.2 4 (Nat.le_refl _)) (Nat.le_refl _) _ w4 (Nat.le_refl _) HP.out).mono ?_
  rintro e w5 ⟨rfl, ⟨S, hP⟩ | ⟨pre, s, post, hl, hQ⟩⟩
  · have HF : Hid ((allL 5).find? (has2 L R n) = none) := Lib.hid (List.find?_eq_none.2 fun y hy => by rw [hP.no y hy]; decide)
    have c0 := box_read hP.ok
    have HBL := Lib.hid hP.bl
    clear hP
    go_wp2
    go_ret2
    refine ⟨?_, HBL.out⟩
    unfold dblS dblE
    rw [HF.out]
    rfl
  · have HF : Hid ((allL 5).find? (has2 L R n) = some s) := Lib.hid (by
      rw [hl]
      exact find_app hQ.no hQ.yes)
    have c0 := box_read hQ.ok
    have c1 := box_read hQ.st
    have HBL := Lib.hid hQ.bl
    clear hQ hl
    go_wp2
    go_ret2
    refine ⟨?_, HBL.out⟩
    unfold dblS dblE
    rw [HF.out]
    rfl
set_option maxHeartbeats 8000000 in
set_option maxRecDepth 100000 in
theorem Double_no (A : Option Addr) (n c : Nat) (L : Nat → Int) (R : Nat → ByteArray) (w : World) (hA : Sr w A n c L R) (hn : n ≤ 1000) (hsz : ∀ k, k < n → (R k).size ≤ 1000) (hg : ¬ Gram L R n) :
    Calls Tryd.prog 32 #[.slice A n c] w fun e w' => e = .returned (.tuple #[.string ⟨#[]⟩, .int .i64 2]) ∧ Below w.heap.size w w' := by
  have HA := Lib.hid hA
  have HV := Lib.hid fun (w : World) (h : Sr w A n c L R) => valid_calls A n c L R w h hn hsz false (by simp [hg])
  clear hA hg hsz
  go_enter Tryd.func32, Tryd.ntmps32
  go_wp2_with fail
  have hb0 := below_one (w := w) (.cells #[.slice A n c] 27)
  obtain ⟨w1, hw1⟩ : ∃ w1, w1 = w.alloc (.cells #[.slice A n c] 27) := ⟨_, rfl⟩
  rw [← hw1] at hb0 ⊢
  have HB1 := Lib.hid hb0
  clear hb0 hw1
  refine (HV.out w1 (HA.out.later HB1.out)).mono ?_
  rintro e w2 ⟨rfl, hb2⟩
  have HB2 := Lib.hid (HB1.out.trans (hb2.mono HB1.out.size))
  clear hb2 HB1
  go_wp2
  go_ret2
  exact ⟨rfl, HB2.out⟩
end Go.Proofs.YtjpfalanoifpbaaDoor.X
end

section
set_option linter.unusedVariables false
set_option linter.unusedSimpArgs false
namespace Go.Proofs.YtjpfalanoifpbaaDoor.X
open Go.RowKit Go.Proofs.YtjpfalanoifpbaaDoorW.PrintWords Go.Proofs.YtjpfalanoifpbaaDoorW.PrintLast Go.Proofs.YtjpfalanoifpbaaDoorW.PrintMore Go.Proofs.YtjpfalanoifpbaaDoor.T
abbrev SR (B : Nat) (w : World) (v : Value) (xs : List ByteArray) : Prop := Kd.R Kd.string 9 w B (fun _ => True) v xs
theorem sr_self {B : Nat} {w : World} {ok : Nat → Prop} {v : Value} {xs : List ByteArray} (h : Kd.R Kd.string 9 w B ok v xs) : Kd.R Kd.string 9 w B (fun k => v.ownBlock = some k) v xs := Kd.R_of_own (Kd.own_of_R h) (fun k hk => hk)
theorem sr_of {B : Nat} {w : World} {ok : Nat → Prop} {v : Value} {xs : List ByteArray} (h : Kd.R Kd.string 9 w B ok v xs) : SR B w v xs := Kd.R_mono h (fun _ _ => trivial)
theorem sr_step {B : Nat} {w w1 : World} {v : Value} {xs : List ByteArray} (h : SR B w v xs) {row : Option Nat} (hg : w.grownBy w1 row) (hne : ∀ k, v.ownBlock = some k → some k ≠ row) : SR B w1 v xs := sr_of (Kd.R_step (sr_self h) (fun k hk hlt => hg.block k hlt (hne k hk)))
theorem sr_below {B : Nat} {w w1 : World} {v : Value} {xs : List ByteArray} (h : SR B w v xs) (hb : Below w.heap.size w w1) : SR B w1 v xs := Kd.R_below h hb
structure Al (w0 w : World) (out : Value) (ol : List ByteArray) (last : Value) (ll : List ByteArray) (next : Value) (nl : List ByteArray) : Prop where
  o : SR w0.heap.size w out ol
  l : SR w0.heap.size w last ll
  x : SR w0.heap.size w next nl
  ol : ∀ k, out.ownBlock = some k → last.ownBlock ≠ some k
  ox : ∀ k, out.ownBlock = some k → next.ownBlock ≠ some k
  lx : ∀ k, last.ownBlock = some k → next.ownBlock ≠ some k
  bl : Below w0.heap.size w0 w
theorem Al.later {w0 w w1 : World} {out last next : Value} {ol ll nl : List ByteArray} (h : Al w0 w out ol last ll next nl) (hb : Below w.heap.size w w1) : Al w0 w1 out ol last ll next nl :=
  ⟨sr_below h.o hb, sr_below h.l hb, sr_below h.x hb, h.ol, h.ox, h.lx, h.bl.trans (hb.mono h.bl.size)⟩
theorem Al.push {w0 w w1 : World} {out last next v1 : Value} {ol ll nl ml : List ByteArray} (h : Al w0 w out ol last ll next nl) (hv : SR w0.heap.size w1 v1 ml) (hb : Below w0.heap.size w0 w1) (hg : w.grownBy w1 next.ownBlock) (hat : v1.ownBlock = next.ownBlock ∨ ∃ b, v1.ownBlock = some b ∧ w.heap.size ≤ b) : Al w0 w1 out ol last ll v1 ml := by
  refine ⟨sr_step h.o hg (fun k hk e => h.ox k hk e.symm), sr_step h.l hg (fun k hk e => h.lx k hk e.symm), hv, h.ol, fun k hk => ?_, fun k hk => ?_, hb⟩
  · rcases hat with e | ⟨b, e, hle⟩
    · rw [e]
      exact h.ox k hk
    · rw [e]
      have := Kd.R_lt h.o k hk
      intro q
      injection q with q
      omega
  · rcases hat with e | ⟨b, e, hle⟩
    · rw [e]
      exact h.lx k hk
    · rw [e]
      have := Kd.R_lt h.l k hk
      intro q
      injection q with q
      omega
theorem Al.turn {w0 w w1 : World} {out last next v1 : Value} {ol ll nl ml : List ByteArray} (h : Al w0 w out ol last ll next nl) (hv : SR w0.heap.size w1 v1 ml) (hb : Below w0.heap.size w0 w1) (hg : w.grownBy w1 out.ownBlock) (hat : v1.ownBlock = out.ownBlock ∨ ∃ b, v1.ownBlock = some b ∧ w.heap.size ≤ b) : Al w0 w1 v1 ml next nl (.slice none 0 0) [] := by
  refine ⟨hv, sr_step h.x hg (fun k hk e => h.ox k e.symm hk), Kd.R_nil _ _ _ _ _, fun k hk => ?_, fun k _ => by simp [Value.ownBlock], fun k _ => by simp [Value.ownBlock], hb⟩
  rcases hat with e | ⟨b, e, hle⟩
  · rw [e] at hk
    exact h.ox k hk
  · rw [e] at hk
    injection hk with hk
    intro q
    have := Kd.R_lt h.x k q
    omega
def four : Array Value := #[.string ⟨#[97]⟩, .string ⟨#[98]⟩, .string ⟨#[99]⟩, .string ⟨#[100]⟩]
theorem four_at {w : World} {g : Nat} (h : w.heap[g]? = some (.cells four 9 (0, 0))) {j : Nat} (hj : j < 4) : w.cell? ⟨g, j, none⟩ = some (.string (wrd j)) := by
  rw [blk_cell h]
  have : j = 0 ∨ j = 1 ∨ j = 2 ∨ j = 3 := by omega
  rcases this with rfl | rfl | rfl | rfl <;> rfl
set_option maxHeartbeats 16000000 in
set_option maxRecDepth 100000 in
theorem All_calls (most : Nat) (w : World) (hm : most ≤ 4) :
    Calls Tryd.prog 72 #[.int .i64 most] w fun e w' => (∃ v, e = .returned v ∧ SR w.heap.size w' v (allL (most + 1))) ∧ Below w.heap.size w w' := by
  go_enter Tryd.func72, Tryd.ntmps72
  go_wp2_with fail
  have HAL : Hid (Al w ((w.alloc (.cells #[.string ⟨#[]⟩] 9)).alloc (.cells #[.string ⟨#[]⟩] 9)) (.slice (some ⟨w.heap.size, 0, none⟩) 1 1) (allL 1) (.slice (some ⟨w.heap.size + 1, 0, none⟩) 1 1) (lev 0) (.slice none 0 0) []) := Lib.hid (by
    have h1 := one_string w ⟨#[]⟩ w.heap.size (fun _ => True) (Nat.le_refl _) (fun _ _ => trivial)
    have hb1 := below_one (w := w) (.cells #[.string ⟨#[]⟩] 9)
    obtain ⟨wa, hwa⟩ : ∃ wa, wa = w.alloc (.cells #[.string ⟨#[]⟩] 9) := ⟨_, rfl⟩
    have hsz : wa.heap.size = w.heap.size + 1 := by rw [hwa]; simp
    rw [← hwa] at h1 hb1 ⊢
    have h2 := one_string wa ⟨#[]⟩ w.heap.size (fun _ => True) (by omega) (fun _ _ => trivial)
    rw [hsz] at h2
    have hb2 := below_one (w := wa) (.cells #[.string ⟨#[]⟩] 9)
    refine ⟨sr_below h1 hb2, h2, Kd.R_nil _ _ _ _ _, fun k hk => ?_, fun k _ => by simp [Value.ownBlock], fun k _ => by simp [Value.ownBlock], hb1.trans (hb2.mono hb1.size)⟩
    simp [Value.ownBlock] at hk ⊢
    omega)
  generalize Value.slice (some ⟨w.heap.size, 0, none⟩) 1 1 = v3 at HAL ⊢
  generalize Value.slice (some ⟨w.heap.size + 1, 0, none⟩) 1 1 = v4 at HAL ⊢
  generalize (w.alloc (.cells #[.string ⟨#[]⟩] 9)).alloc (.cells #[.string ⟨#[]⟩] 9) = w0 at HAL ⊢
  go_loopw [13, 3, 4] (fun i v3 v4 wr => ∃ k : Nat, k ≤ most ∧ i = .int .i64 k ∧ Hid (Al w wr v3 (allL (k + 1)) v4 (lev k) (.slice none 0 0) [])) (fun i _ _ _ => most - (intOf i).toNat)
  case atStart => exact ⟨0, by omega, rfl, HAL⟩
  case round =>
    clear HAL
    obtain ⟨k, hk, rfl, HAL⟩ := hrel
    by_cases hkm : k < most
    · have hkI : (k : Int) < (most : Int) := by omega
      have hlen := lev_le (k := k) (by omega)
      have hpos : 0 < (lev k).length := by rw [lev_length]; exact Nat.pow_pos (by decide)
      have HALL := Lib.hid (allL_le (n := k + 1) (by omega))
      obtain ⟨g, cap, rfl, -⟩ := Kd.R_form HAL.out.l hpos
      have HSZ := Lib.hid (show ∀ s ∈ lev k, s.size ≤ most from fun s hs => by rw [lev_size hs]; omega)
      have HLN : Hid (allL (k + 1 + 1) = allL (k + 1) ++ (lev k).flatMap kids ∧ lev (k + 1) = (lev k).flatMap kids) := Lib.hid ⟨by rw [allL_succ, lev], by rw [lev]⟩
      obtain ⟨l, hl⟩ : ∃ l, lev k = l := ⟨_, rfl⟩
      rw [hl] at HAL hlen HSZ HLN ⊢
      clear hl hpos
      have hcap := (Kd.R_reads' HAL.out.l).2.1
      obtain ⟨al, hal⟩ : ∃ al, allL (k + 1) = al := ⟨_, rfl⟩
      rw [hal] at HAL HALL HLN
      clear hal
      go_wp2_with fail
      go_loopw [17, 5] (fun i v5 wr => ∃ x : Nat, x ≤ l.length ∧ i = .int .i64 x ∧ Hid (Al w wr u3 al (.slice (some ⟨g, 0, none⟩) l.length cap) l v5 ((l.take x).flatMap kids))) (fun i _ _ => l.length - (intOf i).toNat)
      case atStart => exact ⟨0, by omega, rfl, by simpa using HAL⟩
      case round =>
        clear HAL
        obtain ⟨x, hx, rfl, HAL⟩ := hrel
        by_cases hxl : x < l.length
        · have hxI : (x : Int) < (l.length : Int) := by omega
          obtain ⟨s, hs⟩ : ∃ s, l[x]? = some s := ⟨_, List.getElem?_eq_getElem hxl⟩
          have c0 := str_at HAL.out.l hs
          have hxc : x < cap := by omega
          have HS := Lib.hid hs
          have HMS := Lib.hid (HSZ.out s (List.mem_of_getElem? hs))
          clear hs
          go_wp2_with fail
          have hb1 := below_one (w := wr) (.cells four 9)
          have hk1 := blk_new wr (.cells four 9)
          unfold four at hb1 hk1
          generalize hw1 : wr.alloc (.cells #[.string ⟨#[97]⟩, .string ⟨#[98]⟩, .string ⟨#[99]⟩, .string ⟨#[100]⟩] 9) = w1 at hb1 hk1 ⊢
          have HA1 := Lib.hid (HAL.out.later hb1)
          have HK1 : Hid (w1.heap[wr.heap.size]? = some (.cells four 9 (0, 0))) := Lib.hid hk1
          have HN1 := Lib.hid (show ∀ k, u5.ownBlock = some k → k ≠ wr.heap.size from fun k hk e => by
            have := Kd.R_lt HAL.out.x k hk
            omega)
          clear hb1 hk1 hw1 HAL c0
          generalize wr.heap.size = g21 at HK1 HN1 ⊢
          go_loopw [23, 5] (fun i v5 wr => ∃ j : Nat, j ≤ 4 ∧ i = .int .i64 j ∧ Hid (Al w wr u3 al (.slice (some ⟨g, 0, none⟩) l.length cap) l v5 ((l.take x).flatMap kids ++ kidsTo s j)) ∧ Hid (wr.heap[g21]? = some (.cells four 9 (0, 0))) ∧ Hid (∀ k, v5.ownBlock = some k → k ≠ g21)) (fun i _ _ => 4 - (intOf i).toNat)
          case atStart => exact ⟨0, by omega, rfl, by simpa [kidsTo] using HA1, HK1, HN1⟩
          case round =>
            clear HA1 HK1 HN1
            obtain ⟨j, hj, rfl, HAL, HK, HN⟩ := hrel
            by_cases hj4 : j < 4
            · have hjI : (j : Int) < 4 := by omega
              have HXS := Lib.hid (flat_le (l := l) (x := x) (s := s) (j := j) hlen hj)
              have HKT := Lib.hid (show (l.take x).flatMap kids ++ kidsTo s (j + 1) = ((l.take x).flatMap kids ++ kidsTo s j) ++ [s ++ wrd j] by rw [kidsTo_succ, List.append_assoc])
              obtain ⟨A5, c5, h5⟩ := Kd.R_slice HAL.out.x
              obtain ⟨xs, hxs⟩ : ∃ xs, (l.take x).flatMap kids ++ kidsTo s j = xs := ⟨_, rfl⟩
              rw [hxs] at HAL HXS HKT h5
              subst h5
              clear hxs
              have c1 := four_at HK.out hj4
              have hss : (9223372036854775807 < s.size + (wrd j).size) = False := by
                have := HMS.out
                rw [wrd_size]
                simp
                omega
              generalize hy : wrd j = y at c1 hss HKT
              clear hy
              go_wp2_with (at_builtin; refine Kd.R_append Kd.string (w0 := w) w.heap.size rfl (.tmp 27) (.tmp 31) 40 9 (.string ByteArray.empty) 16 rfl Tryd.underlying40 info9 rfl (by decide) (by decide) (.slice A5 xs.length c5) xs (s ++ y) [.string (s ++ y)] (fun _ => True) (fun _ => False) rfl rfl rfl (fun _ h => h.elim) (fun _ _ => trivial) HAL.out.x HAL.out.bl HAL.out.bl.size HXS.out ?_; intro v1 w3 hv hb hg hat; have HAS3 := Lib.hid (HAL.out.push hv hb hg hat); have HK3 := Lib.hid ((hg.block g21 (Array.getElem?_eq_some_iff.1 HK.out).1 (fun e => HN.out g21 e.symm rfl)).trans HK.out); have HN3 := Lib.hid (show ∀ k, v1.ownBlock = some k → k ≠ g21 from fun k hk => by rcases hat with e | ⟨b, e, hle⟩; (· rw [e] at hk; exact HN.out k hk); (· have := (Array.getElem?_eq_some_iff.1 HK.out).1; rw [e] at hk; injection hk with hk; omega)); clear hv hb hg hat)
              refine ⟨⟨j + 1, hj4, by simp, by rw [HKT.out]; exact HAS3, HK3, HN3⟩, by simp [intOf]; omega⟩
            · obtain rfl : j = 4 := by omega
              have HFS := Lib.hid (flat_succ HS.out)
              go_wp2_with fail
              refine ⟨⟨x + 1, by omega, by go_num, by rw [HFS.out]; exact HAL⟩, by simp [intOf]; omega⟩
        · obtain rfl : x = l.length := by omega
          rw [List.take_length] at HAL
          obtain ⟨nl, hnl⟩ : ∃ nl, l.flatMap kids = nl := ⟨_, rfl⟩
          have hnll : nl.length ≤ 4096 := by rw [← hnl, flatKids_length]; omega
          rw [hnl] at HAL HLN
          obtain ⟨A5, c5, h5⟩ := Kd.R_slice HAL.out.x
          subst h5
          obtain ⟨A3, c3, h3⟩ := Kd.R_slice HAL.out.o
          subst h3
          have hall : (al.length + nl.length) * 16 ≤ 140737488355328 := by
            have := HALL.out
            omega
          have HALL2 := Lib.hid hall
          clear hall hnl hnll
          go_wp2_with ((with_reducible refine gate_dst (N := 37) rfl ?_); go_loud (refine Kd.R_append_row Value.string ByteArray.empty (w0 := w) w.heap.size rfl (.tmp 35) (.tmp 36) 40 9 (.string ByteArray.empty) 16 rfl Tryd.underlying40 info9 rfl (by decide) (.slice A3 al.length c3) al nl A5 nl.length c5 (fun _ => True) rfl rfl (fun _ _ => trivial) HAL.out.o (Kd.R_reads' HAL.out.x).2.2 HAL.out.bl HAL.out.bl.size HALL2.out ?_; intro v1 w3 hv hb hg hat; have HAT := Lib.hid (HAL.out.turn hv hb hg hat); clear hv hb hg hat))
          refine ⟨⟨k + 1, by omega, by go_num, by rw [HLN.out.1, HLN.out.2]; exact HAT⟩, by simp [intOf]; omega⟩
    · obtain rfl : k = most := by omega
      obtain ⟨A3, c3, h3⟩ := Kd.R_slice HAL.out.o
      subst h3
      go_wp2
      go_ret
      exact ⟨⟨_, rfl, HAL.out.o⟩, HAL.out.bl⟩
end Go.Proofs.YtjpfalanoifpbaaDoor.X
end

section
set_option linter.unusedVariables false
set_option linter.unusedSimpArgs false
namespace Go.Proofs.YtjpfalanoifpbaaDoor.X
open Go.RowKit Go.Proofs.YtjpfalanoifpbaaDoorW.PrintWords Go.Proofs.YtjpfalanoifpbaaDoorW.PrintLast Go.Proofs.YtjpfalanoifpbaaDoorW.PrintMore Go.Proofs.YtjpfalanoifpbaaDoor.T
theorem tree_size {n : Nat} {s : ByteArray} (h : s ∈ allL n) (hn : n ≤ 9) : s.size ≤ 8 := by
  have := allL_size h
  omega
theorem has1_iff (L : Nat → Int) (R : Nat → ByteArray) (n : Nat) (s : ByteArray) : has1 L R n s = decide (0 < treesN 100 L R n s) := by
  unfold has1
  rw [decide_eq_decide]
  exact treesN_pos L R n s
theorem has2_iff (L : Nat → Int) (R : Nat → ByteArray) (n : Nat) (s : ByteArray) : has2 L R n s = decide (1 < treesN 100 L R n s) := by
  unfold has2
  rw [decide_eq_decide]
  exact treesN_two L R n s
theorem filter_take {p : ByteArray → Bool} {l : List ByteArray} {x : Nat} {s : ByteArray} (h : l[x]? = some s) : (l.take (x + 1)).filter p = (l.take x).filter p ++ (if p s = true then [s] else []) := by
  rw [take_succ_of h, List.filter_append]
  congr 1
  by_cases hp : p s = true
  · rw [if_pos hp]
    simp [hp]
  · rw [if_neg hp]
    simp [hp]
structure Ar (w0 w : World) (v1 : Value) (l1 : List ByteArray) (v2 : Value) (l2 : List ByteArray) : Prop where
  a : SR w0.heap.size w v1 l1
  b : SR w0.heap.size w v2 l2
  ne : ∀ k, v1.ownBlock = some k → v2.ownBlock ≠ some k
  bl : Below w0.heap.size w0 w
theorem Ar.later {w0 w w1 : World} {v1 v2 : Value} {l1 l2 : List ByteArray} (h : Ar w0 w v1 l1 v2 l2) (hb : Below w.heap.size w w1) : Ar w0 w1 v1 l1 v2 l2 :=
  ⟨sr_below h.a hb, sr_below h.b hb, h.ne, h.bl.trans (hb.mono h.bl.size)⟩
theorem Ar.push {w0 w w1 : World} {v1 v2 v3 : Value} {l1 l2 l3 : List ByteArray} (h : Ar w0 w v1 l1 v2 l2) (hv : SR w0.heap.size w1 v3 l3) (hb : Below w0.heap.size w0 w1) (hg : w.grownBy w1 v2.ownBlock) (hat : v3.ownBlock = v2.ownBlock ∨ ∃ b, v3.ownBlock = some b ∧ w.heap.size ≤ b) : Ar w0 w1 v1 l1 v3 l3 := by
  refine ⟨sr_step h.a hg (fun k hk e => h.ne k hk e.symm), hv, fun k hk => ?_, hb⟩
  rcases hat with e | ⟨b, e, hle⟩
  · rw [e]
    exact h.ne k hk
  · rw [e]
    have := Kd.R_lt h.a k hk
    intro q
    injection q with q
    omega
theorem allL_pos (n : Nat) : 0 < (allL (n + 1)).length := by
  induction n with
  | zero => decide
  | succ n ih =>
    rw [allL_succ, List.length_append]
    omega
set_option maxHeartbeats 16000000 in
set_option maxRecDepth 100000 in
theorem rWords_calls (A : Option Addr) (n c : Nat) (L : Nat → Int) (R : Nat → ByteArray) (most : Nat) (w : World) (hA : Sr w A n c L R) (hg : Gr L R n) (hm : most ≤ 4) :
    Calls Tryd.prog 35 #[.slice A n c, .int .i64 most] w fun e w' => (∃ v, e = .returned v ∧ SR w.heap.size w' v ((allL (most + 1)).filter (has1 L R n))) ∧ Below w.heap.size w w' := by
  have HA := Lib.hid hA
  have HG := Lib.hid hg
  clear hA hg
  have HAC := Lib.hid (All_calls most w hm)
  have hlen := allL_le (n := most + 1) (by omega)
  have hpos := allL_pos most
  have HSZ := Lib.hid (show ∀ s ∈ allL (most + 1), s.size ≤ 8 from fun s hs => tree_size hs (by omega))
  obtain ⟨l, hl⟩ : ∃ l, allL (most + 1) = l := ⟨_, rfl⟩
  rw [hl] at HAC hlen hpos HSZ ⊢
  clear hl
  have HPOS := Lib.hid hpos
  have HLEN := Lib.hid hlen
  clear hpos hlen
  go_enter Tryd.func35, Tryd.ntmps35
  go_wp2_with fail
  refine HAC.out.mono ?_
  rintro e w1 ⟨⟨v1, rfl, hv1⟩, hb1⟩
  have hlen := HLEN.out
  have hpos := HPOS.out
  obtain ⟨g, cap, rfl, -⟩ := Kd.R_form hv1 hpos
  have hcap := (Kd.R_reads' hv1).2.1
  have HAR : Hid (Ar w w1 (.slice (some ⟨g, 0, none⟩) l.length cap) l (.slice none 0 0) ((l.take 0).filter (has1 L R n))) := Lib.hid ⟨hv1, by simpa using Kd.R_nil _ _ _ _ _, fun k _ => by simp [Value.ownBlock], hb1⟩
  clear hv1 hb1 hpos
  go_wp2_with fail
  go_loopw [11, 5] (fun i v wr => ∃ x : Nat, x ≤ l.length ∧ i = .int .i64 x ∧ Hid (Ar w wr (.slice (some ⟨g, 0, none⟩) l.length cap) l v ((l.take x).filter (has1 L R n)))) (fun i _ _ => l.length - (intOf i).toNat)
  case atStart => exact ⟨0, by omega, rfl, HAR⟩
  case round =>
    clear HAR
    obtain ⟨x, hx, rfl, HAR⟩ := hrel
    by_cases hxl : x < l.length
    · have hxI : (x : Int) < (l.length : Int) := by omega
      obtain ⟨s, hs⟩ : ∃ s, l[x]? = some s := ⟨_, List.getElem?_eq_getElem hxl⟩
      have c0 := str_at HAR.out.a hs
      have hxc : x < cap := by omega
      have HFT := Lib.hid (filter_take (p := has1 L R n) hs)
      have HMS := Lib.hid (HSZ.out s (List.mem_of_getElem? hs))
      clear hs
      go_wp2_with fail
      refine (rTrees_calls A n c L R s wr (HA.out.later HAR.out.bl) HG.out HMS.out).mono ?_
      rintro e w2 ⟨rfl, hb2⟩
      have HA2 := Lib.hid (HAR.out.later hb2)
      have H1 := Lib.hid (has1_iff L R n s)
      clear hb2 HAR c0
      obtain ⟨T, hT⟩ : ∃ T, treesN 100 L R n s = T := ⟨_, rfl⟩
      rw [hT] at H1 ⊢
      clear hT
      obtain ⟨xs, hxs⟩ : ∃ xs, (l.take x).filter (has1 L R n) = xs := ⟨_, rfl⟩
      have hxl2 : xs.length ≤ 100000 := by
        rw [← hxs]
        have h1 := List.length_filter_le (has1 L R n) (l.take x)
        rw [List.length_take] at h1
        omega
      rw [hxs] at HA2 HFT
      clear hxs
      by_cases hpT : 0 < T
      · have hpI : 0 < (T : Int) := by omega
        have HF2 : Hid ((l.take (x + 1)).filter (has1 L R n) = xs ++ [s]) := Lib.hid (by rw [HFT.out, H1.out, decide_eq_true hpT, if_pos rfl])
        obtain ⟨A5, c5, h5⟩ := Kd.R_slice HA2.out.b
        subst h5
        have HXL := Lib.hid (show (xs.length + 1) * 16 ≤ 140737488355328 by omega)
        go_wp2_with (at_builtin; refine Kd.R_append Kd.string (w0 := w) w.heap.size rfl (.tmp 19) (.tmp 21) 40 9 (.string ByteArray.empty) 16 rfl Tryd.underlying40 info9 rfl (by decide) (by decide) (.slice A5 xs.length c5) xs s [.string s] (fun _ => True) (fun _ => False) rfl rfl rfl (fun _ h => h.elim) (fun _ _ => trivial) HA2.out.b HA2.out.bl HA2.out.bl.size HXL.out ?_; intro v1 w3 hv hb hg hat; have HA3 := Lib.hid (HA2.out.push hv hb hg hat); clear hv hb hg hat)
        refine ⟨⟨x + 1, by omega, by go_num, by rw [HF2.out]; exact HA3⟩, by simp [intOf]; omega⟩
      · have hpI : ¬ 0 < (T : Int) := by omega
        have HF2 : Hid ((l.take (x + 1)).filter (has1 L R n) = xs) := Lib.hid (by rw [HFT.out, H1.out, decide_eq_false hpT, if_neg (by decide), List.append_nil])
        go_wp2_with fail
        refine ⟨⟨x + 1, by omega, by go_num, by rw [HF2.out]; exact HA2⟩, by simp [intOf]; omega⟩
    · obtain rfl : x = l.length := by omega
      rw [List.take_length] at HAR
      obtain ⟨A5, c5, h5⟩ := Kd.R_slice HAR.out.b
      rw [h5] at HAR
      subst h5
      go_wp2
      go_ret
      exact ⟨⟨_, rfl, HAR.out.b⟩, HAR.out.bl⟩
set_option maxHeartbeats 16000000 in
set_option maxRecDepth 100000 in
theorem rDouble_calls (A : Option Addr) (n c : Nat) (L : Nat → Int) (R : Nat → ByteArray) (w : World) (hA : Sr w A n c L R) (hg : Gr L R n) :
    Calls Tryd.prog 33 #[.slice A n c] w fun e w' => e = .returned (.tuple #[.string (dblS (has2 L R n)), .int .i64 (dblE (has2 L R n))]) ∧ Below w.heap.size w w' := by
  have HA := Lib.hid hA
  have HG := Lib.hid hg
  have HD : Hid (∀ o, (allL 5).find? (has2 L R n) = o → dblS (has2 L R n) = o.getD ⟨#[]⟩ ∧ dblE (has2 L R n) = if o.isSome then 0 else 4) := Lib.hid (fun o ho => by
    unfold dblS dblE
    rw [ho]
    exact ⟨rfl, rfl⟩)
  clear hA hg
  obtain ⟨ds, hds⟩ : ∃ ds, dblS (has2 L R n) = ds := ⟨_, rfl⟩
  obtain ⟨de, hde⟩ : ∃ de, dblE (has2 L R n) = de := ⟨_, rfl⟩
  rw [hds, hde] at HD ⊢
  clear hds hde
  go_enter Tryd.func33, Tryd.ntmps33
  go_wp2_with fail
  refine (All_calls 4 w (Nat.le_refl _)).mono ?_
  rintro e w1 ⟨⟨v1, rfl, hv1⟩, hb1⟩
  have hlen := allL_le (n := 5) (by omega)
  have hpos := allL_pos 4
  have HSZ := Lib.hid (show ∀ s ∈ allL 5, s.size ≤ 8 from fun s hs => tree_size hs (by omega))
  obtain ⟨l, hl⟩ : ∃ l, allL (4 + 1) = l := ⟨_, rfl⟩
  rw [show (5 : Nat) = 4 + 1 from rfl] at HD HSZ hlen
  rw [hl] at hv1 hlen hpos HSZ HD
  clear hl
  obtain ⟨g, cap, rfl, -⟩ := Kd.R_form hv1 hpos
  have hcap := (Kd.R_reads' hv1).2.1
  have HS1 := Lib.hid hv1
  have HB1 := Lib.hid hb1
  clear hv1 hb1 hpos
  go_wp2_with fail
  go_loopw [8] (fun i wr => ∃ x : Nat, x ≤ l.length ∧ i = .int .i64 x ∧ Hid (SR w.heap.size wr (.slice (some ⟨g, 0, none⟩) l.length cap) l) ∧ Hid (Below w.heap.size w wr) ∧ Hid (∀ y ∈ l.take x, has2 L R n y = false)) (fun i _ => l.length - (intOf i).toNat)
  case atStart => exact ⟨0, by omega, rfl, HS1, HB1, Lib.hid (fun y hy => by simp at hy)⟩
  case round =>
    clear HS1 HB1
    obtain ⟨x, hx, rfl, HS1, HB1, HN⟩ := hrel
    by_cases hxl : x < l.length
    · have hxI : (x : Int) < (l.length : Int) := by omega
      obtain ⟨s, hs⟩ : ∃ s, l[x]? = some s := ⟨_, List.getElem?_eq_getElem hxl⟩
      have c0 := str_at HS1.out hs
      have hxc : x < cap := by omega
      have HS := Lib.hid hs
      have HMS := Lib.hid (HSZ.out s (List.mem_of_getElem? hs))
      clear hs
      go_wp2_with fail
      refine (rTrees_calls A n c L R s wr (HA.out.later HB1.out) HG.out HMS.out).mono ?_
      rintro e w2 ⟨rfl, hb2⟩
      have HS2 := Lib.hid (sr_below HS1.out hb2)
      have HB2 := Lib.hid (HB1.out.trans (hb2.mono HB1.out.size))
      have H2 := Lib.hid (has2_iff L R n s)
      clear hb2 HS1 HB1 c0
      obtain ⟨T, hT⟩ : ∃ T, treesN 100 L R n s = T := ⟨_, rfl⟩
      rw [hT] at H2 ⊢
      clear hT
      by_cases hpT : 1 < T
      · have hpI : 1 < (T : Int) := by omega
        have HF : Hid (l.find? (has2 L R n) = some s) := Lib.hid (by
          rw [take_split HS.out]
          exact find_app HN.out (by rw [H2.out]; exact decide_eq_true hpT))
        have hd := HD.out _ HF.out
        obtain ⟨rfl, rfl⟩ := hd
        go_wp2
        go_ret2
        exact ⟨rfl, HB2.out⟩
      · have hpI : ¬ 1 < (T : Int) := by omega
        go_wp2_with fail
        refine ⟨⟨x + 1, by omega, by go_num, HS2, HB2, Lib.hid (fun y hy => ?_)⟩, by simp [intOf]; omega⟩
        rw [take_succ_of HS.out] at hy
        rcases List.mem_append.1 hy with q | q
        · exact HN.out y q
        · rw [List.mem_singleton] at q
          rw [q, H2.out]
          exact decide_eq_false hpT
    · obtain rfl : x = l.length := by omega
      rw [List.take_length] at HN
      have HF : Hid (l.find? (has2 L R n) = none) := Lib.hid (List.find?_eq_none.2 fun y hy => by rw [HN.out y hy]; decide)
      have hd := HD.out _ HF.out
      obtain ⟨rfl, rfl⟩ := hd
      go_wp2
      go_ret2
      exact ⟨rfl, HB1.out⟩
end Go.Proofs.YtjpfalanoifpbaaDoor.X
end

section
set_option linter.unusedVariables false
set_option linter.unusedSimpArgs false
namespace Go.Proofs.YtjpfalanoifpbaaDoor.X
open Go.RowKit Go.Proofs.YtjpfalanoifpbaaDoorW.PrintWords Go.Proofs.YtjpfalanoifpbaaDoorW.PrintLast Go.Proofs.YtjpfalanoifpbaaDoorW.PrintMore Go.Proofs.YtjpfalanoifpbaaDoor.T
set_option maxHeartbeats 8000000 in
set_option maxRecDepth 100000 in
theorem eqStr_same {B B' : Nat} {v1 v2 : Value} {xs : List ByteArray} {w : World} (h1 : SR B w v1 xs) (h2 : SR B' w v2 xs) (hl : xs.length ≤ 100000) :
    Calls Tryd.prog 34 #[v1, v2] w fun e w' => e = .returned (.bool true) ∧ Below w.heap.size w w' := by
  have H1 := Lib.hid h1
  have H2 := Lib.hid h2
  obtain ⟨A1, c1, k1, hc1, -⟩ := Kd.R_reads h1
  obtain ⟨A2, c2, k2, hc2, -⟩ := Kd.R_reads h2
  subst k1 k2
  clear h1 h2
  go_enter Tryd.func34, Tryd.ntmps34
  go_wp2_with fail
  have HB := Lib.hid (Below.refl w.heap.size w)
  go_loopw [13] (fun i wr => ∃ x : Nat, x ≤ xs.length ∧ i = .int .i64 x ∧ Hid (Below w.heap.size w wr)) (fun i _ => xs.length - (intOf i).toNat)
  case atStart => exact ⟨0, by omega, rfl, HB⟩
  case round =>
    clear HB
    obtain ⟨x, hx, rfl, HB⟩ := hrel
    by_cases hxl : x < xs.length
    · have hxI : (x : Int) < (xs.length : Int) := by omega
      obtain ⟨s, hs⟩ : ∃ s, xs[x]? = some s := ⟨_, List.getElem?_eq_getElem hxl⟩
      obtain ⟨g1, d1, e1, -⟩ := Kd.R_form H1.out (Nat.lt_of_le_of_lt (Nat.zero_le _) hxl)
      obtain ⟨g2, d2, e2, -⟩ := Kd.R_form H2.out (Nat.lt_of_le_of_lt (Nat.zero_le _) hxl)
      injection e1 with e1 _ e1'
      injection e2 with e2 _ e2'
      subst e1 e2 e1' e2'
      have f1 := str_at (sr_below H1.out HB.out) hs
      have f2 := str_at (sr_below H2.out HB.out) hs
      have hx1 : x < c1 := by omega
      have hx2 : x < c2 := by omega
      clear hs
      go_wp2_with fail
      go_quiet (fail)
      have hbq := pw_below_drewN (Below.refl wr.heap.size wr) nq
      have HB3 := Lib.hid (HB.out.trans (hbq.mono HB.out.size))
      clear hbq f1 f2
      generalize wr.drewN nq = w3 at HB3 ⊢
      go_wp2_with fail
      refine ⟨⟨x + 1, by omega, by go_num, HB3⟩, by simp [intOf]; omega⟩
    · obtain rfl : x = xs.length := by omega
      go_wp2
      go_ret
      exact ⟨rfl, HB.out⟩
theorem allL_filter {p : ByteArray → Bool} {n : Nat} (h : n ≤ 6) : ((allL n).filter p).length ≤ 100000 := by
  have h1 := List.length_filter_le p (allL n)
  have h2 := allL_le h
  omega
set_option maxHeartbeats 8000000 in
set_option maxRecDepth 100000 in
theorem Words_law_yes (A : Option Addr) (n c : Nat) (L : Nat → Int) (R : Nat → ByteArray) (most : Nat) (w : World) (hA : Sr w A n c L R) (hn : n ≤ 9223372036854775807) (hR : ∀ k, k < n → (R k).size ≤ 9223372036854775807) (hg : Gram L R n) (hm : most ≤ 4) :
    Calls Tryd.prog 6 #[.slice A n c, .int .i64 most] w fun e w' => e = .returned (.bool true) ∧ Below w.heap.size w w' := by
  have HO := Lib.hid (fun (w : World) (h : Sr w A n c L R) => Of_yes A n c L R w h hn hR hg)
  have HG := Lib.hid (fun (w : World) (h : Sr w A n c L R) => Grammar_calls A n c L R w h hn true (by simp [hg]))
  have HW := Lib.hid (fun (A' : Option Addr) (c' : Nat) (w : World) h => Words_yes A' n c' L R most w h hg hm)
  have HD := Lib.hid (fun (A' : Option Addr) (c' : Nat) (w : World) h => Double_yes A' n c' L R w h hg)
  have HRW := Lib.hid (fun (w : World) (h : Sr w A n c L R) => rWords_calls A n c L R most w h hg.gr hm)
  have HRD := Lib.hid (fun (w : World) (h : Sr w A n c L R) => rDouble_calls A n c L R w h hg.gr)
  have HLL := Lib.hid (allL_filter (p := has1 L R n) (n := most + 1) (by omega))
  have HA := Lib.hid hA
  clear hA hR hg
  generalize (allL (most + 1)).filter (has1 L R n) = xs at HW HRW HLL
  generalize dblS (has2 L R n) = ds at HD HRD
  have hde : ∃ de : Int, dblE (has2 L R n) = de := ⟨_, rfl⟩
  generalize dblE (has2 L R n) = de at HD HRD
  clear hde
  have hm0 : ¬ (most : Int) < 0 := by omega
  have hm4 : ¬ 4 < (most : Int) := by omega
  go_enter Tryd.func6, Tryd.ntmps6
  go_wp2_with fail
  refine (HO.out w HA.out).mono ?_
  rintro e w1 ⟨⟨A1, c1, rfl, hS1⟩, hb1⟩
  have HB1 := Lib.hid hb1
  have HS1 := Lib.hid hS1
  clear hb1 hS1
  go_wp2_with fail
  refine (HW.out A1 c1 w1 HS1.out).mono ?_
  rintro e w2 ⟨⟨v, rfl, hv⟩, hb2⟩
  obtain ⟨A5, c5, h5⟩ := Kd.R_slice hv
  subst h5
  have HV2 := Lib.hid hv
  have HB2 := Lib.hid (HB1.out.trans (hb2.mono HB1.out.size))
  clear hb2 hv HB1 HS1
  go_wp2_with fail
  refine (HO.out w2 (HA.out.later HB2.out)).mono ?_
  rintro e w3 ⟨⟨A3, c3, rfl, hS3⟩, hb3⟩
  have HB3 := Lib.hid (HB2.out.trans (hb3.mono HB2.out.size))
  have HV3 := Lib.hid (sr_below HV2.out hb3)
  have HS3 := Lib.hid hS3
  clear hb3 hS3 HB2 HV2
  go_wp2_with fail
  refine (HD.out A3 c3 w3 HS3.out).mono ?_
  rintro e w4 ⟨rfl, hb4⟩
  have HB4 := Lib.hid (HB3.out.trans (hb4.mono HB3.out.size))
  have HV4 := Lib.hid (sr_below HV3.out hb4)
  clear hb4 HB3 HV3 HS3
  go_wp2_with fail
  refine (HG.out w4 (HA.out.later HB4.out)).mono ?_
  rintro e w5 ⟨rfl, hb5⟩
  have HB5 := Lib.hid (HB4.out.trans (hb5.mono HB4.out.size))
  have HV5 := Lib.hid (sr_below HV4.out hb5)
  clear hb5 HB4 HV4
  go_wp2_with fail
  refine (HRD.out w5 (HA.out.later HB5.out)).mono ?_
  rintro e w6 ⟨rfl, hb6⟩
  have HB6 := Lib.hid (HB5.out.trans (hb6.mono HB5.out.size))
  have HV6 := Lib.hid (sr_below HV5.out hb6)
  clear hb6 HB5 HV5
  go_wp2_with fail
  refine (awake_calls w6).mono ?_
  rintro e w7 ⟨rfl, hb7⟩
  have HB7 := Lib.hid (HB6.out.trans (hb7.mono HB6.out.size))
  have HV7 := Lib.hid (sr_below HV6.out hb7)
  clear hb7 HB6 HV6
  go_wp2_with fail
  refine (HRW.out w7 (HA.out.later HB7.out)).mono ?_
  rintro e w8 ⟨⟨v2, rfl, hv2⟩, hb8⟩
  have HB8 := Lib.hid (HB7.out.trans (hb8.mono HB7.out.size))
  have HV8 := Lib.hid (sr_below HV7.out hb8)
  obtain ⟨A6, c6, h6⟩ := Kd.R_slice hv2
  subst h6
  have HX8 := Lib.hid hv2
  clear hb8 hv2 HB7 HV7
  go_wp2_with fail
  refine (eqStr_same HV8.out HX8.out HLL.out).mono ?_
  rintro e w9 ⟨rfl, hb9⟩
  have HB9 := Lib.hid (HB8.out.trans (hb9.mono HB8.out.size))
  clear hb9 HB8 HV8 HX8
  go_wp2
  go_ret
  exact ⟨rfl, HB9.out⟩
set_option maxHeartbeats 8000000 in
set_option maxRecDepth 100000 in
theorem Words_law_most (A : Option Addr) (n c : Nat) (L : Nat → Int) (R : Nat → ByteArray) (most : Int) (w : World) (hA : Sr w A n c L R) (hn : n ≤ 9223372036854775807) (hR : ∀ k, k < n → (R k).size ≤ 9223372036854775807) (hg : Gram L R n) (hm : ¬ (0 ≤ most ∧ most ≤ 4)) :
    Calls Tryd.prog 6 #[.slice A n c, .int .i64 most] w fun e w' => e = .returned (.bool true) ∧ Below w.heap.size w w' := by
  have HO := Lib.hid (fun (w : World) (h : Sr w A n c L R) => Of_yes A n c L R w h hn hR hg)
  have HG := Lib.hid (fun (w : World) (h : Sr w A n c L R) => Grammar_calls A n c L R w h hn true (by simp [hg]))
  have h8 := hg.1.2
  have HW := Lib.hid (fun (A' : Option Addr) (c' : Nat) (w : World) h => Words_no A' n c' L R most w h (by omega) (fun k hk => Nat.le_trans (hg.2 k hk).sz (by decide)) (fun q => hm q.2))
  have HD := Lib.hid (fun (A' : Option Addr) (c' : Nat) (w : World) h => Double_yes A' n c' L R w h hg)
  have HRD := Lib.hid (fun (w : World) (h : Sr w A n c L R) => rDouble_calls A n c L R w h hg.gr)
  have HA := Lib.hid hA
  have HM := Lib.hid hm
  clear hA hR hg hm
  generalize dblS (has2 L R n) = ds at HD HRD
  generalize dblE (has2 L R n) = de at HD HRD
  go_enter Tryd.func6, Tryd.ntmps6
  go_wp2_with fail
  refine (HO.out w HA.out).mono ?_
  rintro e w1 ⟨⟨A1, c1, rfl, hS1⟩, hb1⟩
  have HB1 := Lib.hid hb1
  have HS1 := Lib.hid hS1
  clear hb1 hS1
  go_wp2_with fail
  refine (HW.out A1 c1 w1 HS1.out).mono ?_
  rintro e w2 ⟨rfl, hb2⟩
  have HB2 := Lib.hid (HB1.out.trans (hb2.mono HB1.out.size))
  clear hb2 HB1 HS1
  go_wp2_with fail
  refine (HO.out w2 (HA.out.later HB2.out)).mono ?_
  rintro e w3 ⟨⟨A3, c3, rfl, hS3⟩, hb3⟩
  have HB3 := Lib.hid (HB2.out.trans (hb3.mono HB2.out.size))
  have HS3 := Lib.hid hS3
  clear hb3 hS3 HB2
  go_wp2_with fail
  refine (HD.out A3 c3 w3 HS3.out).mono ?_
  rintro e w4 ⟨rfl, hb4⟩
  have HB4 := Lib.hid (HB3.out.trans (hb4.mono HB3.out.size))
  clear hb4 HB3 HS3
  go_wp2_with fail
  refine (HG.out w4 (HA.out.later HB4.out)).mono ?_
  rintro e w5 ⟨rfl, hb5⟩
  have HB5 := Lib.hid (HB4.out.trans (hb5.mono HB4.out.size))
  clear hb5 HB4
  go_wp2_with fail
  refine (HRD.out w5 (HA.out.later HB5.out)).mono ?_
  rintro e w6 ⟨rfl, hb6⟩
  have HB6 := Lib.hid (HB5.out.trans (hb6.mono HB5.out.size))
  clear hb6 HB5
  go_wp2_with fail
  refine (awake_calls w6).mono ?_
  rintro e w7 ⟨rfl, hb7⟩
  have HB7 := Lib.hid (HB6.out.trans (hb7.mono HB6.out.size))
  clear hb7 HB6
  by_cases h0 : most < 0
  · go_wp2
    go_ret
    exact ⟨rfl, HB7.out⟩
  · have h4 : 4 < most := by
      have := HM.out
      omega
    go_wp2
    go_ret
    exact ⟨rfl, HB7.out⟩
set_option maxHeartbeats 8000000 in
set_option maxRecDepth 100000 in
theorem Words_law_no (A : Option Addr) (n c : Nat) (L : Nat → Int) (R : Nat → ByteArray) (most : Int) (w : World) (hA : Sr w A n c L R) (hn : n ≤ 9223372036854775807) (hR : ∀ k, k < n → (R k).size ≤ 9223372036854775807) (hg : ¬ Gram L R n) :
    Calls Tryd.prog 6 #[.slice A n c, .int .i64 most] w fun e w' => e = .returned (.bool true) ∧ Below w.heap.size w w' := by
  have HO := Lib.hid (fun (w : World) (h : Sr w A n c L R) => Of_calls A n c L R w h hn hR)
  have HG := Lib.hid (fun (w : World) (h : Sr w A n c L R) => Grammar_calls A n c L R w h hn false (by simp [hg]))
  have hng : ¬ Gram L (fun k => cut12 (R k)) (mnN n 11) := fun q => hg (cut_gram q)
  have h11 := mnN_le n 11
  have HW := Lib.hid (fun (A' : Option Addr) (c' : Nat) (w : World) h => Words_no A' (mnN n 11) c' L (fun k => cut12 (R k)) most w h (by omega) (fun k _ => cut12_1000 _) (fun q => hng q.1))
  have HD := Lib.hid (fun (A' : Option Addr) (c' : Nat) (w : World) h => Double_no A' (mnN n 11) c' L (fun k => cut12 (R k)) w h (by omega) (fun k _ => cut12_1000 _) hng)
  have HA := Lib.hid hA
  clear hA hR hg hng h11
  generalize mnN n 11 = m at HO HW HD
  go_enter Tryd.func6, Tryd.ntmps6
  go_wp2_with fail
  refine (HO.out w HA.out).mono ?_
  rintro e w1 ⟨⟨A1, c1, rfl, hS1⟩, hb1⟩
  have HB1 := Lib.hid hb1
  have HS1 := Lib.hid hS1
  clear hb1 hS1
  go_wp2_with fail
  refine (HW.out A1 c1 w1 HS1.out).mono ?_
  rintro e w2 ⟨rfl, hb2⟩
  have HB2 := Lib.hid (HB1.out.trans (hb2.mono HB1.out.size))
  clear hb2 HB1 HS1
  go_wp2_with fail
  refine (HO.out w2 (HA.out.later HB2.out)).mono ?_
  rintro e w3 ⟨⟨A3, c3, rfl, hS3⟩, hb3⟩
  have HB3 := Lib.hid (HB2.out.trans (hb3.mono HB2.out.size))
  have HS3 := Lib.hid hS3
  clear hb3 hS3 HB2
  go_wp2_with fail
  refine (HD.out A3 c3 w3 HS3.out).mono ?_
  rintro e w4 ⟨rfl, hb4⟩
  have HB4 := Lib.hid (HB3.out.trans (hb4.mono HB3.out.size))
  clear hb4 HB3 HS3
  go_wp2_with fail
  refine (HG.out w4 (HA.out.later HB4.out)).mono ?_
  rintro e w5 ⟨rfl, hb5⟩
  have HB5 := Lib.hid (HB4.out.trans (hb5.mono HB4.out.size))
  clear hb5 HB4
  go_wp2_with fail
  refine (awake_calls w5).mono ?_
  rintro e w7 ⟨rfl, hb7⟩
  have HB7 := Lib.hid (HB5.out.trans (hb7.mono HB5.out.size))
  clear hb7 HB5
  go_wp2
  go_ret
  exact ⟨rfl, HB7.out⟩
theorem TablesWords.calls (A : Option Addr) (n c : Nat) (L : Nat → Int) (R : Nat → ByteArray) (most : Int) (w : World) (hA : Sr w A n c L R) (hR : ∀ k, k < n → (R k).size ≤ 9223372036854775807) (hn : n ≤ 9223372036854775807) (hc : c ≤ 9223372036854775807) :
    Calls Tryd.prog 6 #[.slice A n c, .int .i64 most] w fun e w' => e = .returned (.bool true) ∧ Below w.heap.size w w' := by
  by_cases hg : Gram L R n
  · by_cases hm : 0 ≤ most ∧ most ≤ 4
    · obtain ⟨k, rfl⟩ := Int.eq_ofNat_of_zero_le hm.1
      exact Words_law_yes A n c L R k w hA hn hR hg (by omega)
    · exact Words_law_most A n c L R most w hA hn hR hg hm
  · exact Words_law_no A n c L R most w hA hn hR hg
end Go.Proofs.YtjpfalanoifpbaaDoor.X
end
