/- Texts of this claim, merged by a program (wip/tools/shake.py); what nothing names is left out. -/
import Derived.KernelRfl
import Derived.Laws.StructEq
import Derived.Laws.Cover2
import Derived.Maps.RangeRun
import Derived.Test.YtjpfalanoifpbaaDoorSga
section
set_option linter.unusedVariables false
set_option linter.unusedSimpArgs false
namespace Go.Proofs.YtjpfalanoifpbaaDoor.X
open Go.RowKit Go.Proofs.YtjpfalanoifpbaaDoorW.PrintWords Go.Proofs.YtjpfalanoifpbaaDoorW.PrintLast Go.Proofs.YtjpfalanoifpbaaDoorW.PrintMore Go.Proofs.YtjpfalanoifpbaaDoor.T
abbrev Tri := Int × Nat × Nat
def triV (u : Tri) : Value := .agg #[.int .i64 u.1, .int .i64 (u.2.1 : Nat), .int .i64 (u.2.2 : Nat)]
def natV (x : Nat) : Value := .int .i64 (x : Int)
theorem tri_eq (a b c a' b' c' : Int) (w : World) : (Op.equalIn 10000 139 (.agg #[.int .i64 a, .int .i64 b, .int .i64 c]) (.agg #[.int .i64 a', .int .i64 b', .int .i64 c'])).run Tryd.prog w = .ok (a == a' && (b == b' && c == c')) w := by
  have u3 := Tryd.underlying3
  have a3 := Tryd.isAgg3
  have z3 := Tryd.sizeOf3
  rw [show (10000 : Nat) = 9999 + 1 from rfl, Op.equalIn]
  simp only [Sem.run_bind, run_underlying Tryd.underlying139, Result.andThen_ok]
  simp only [Std.Legacy.Range.forIn_eq_forIn_range', Std.Legacy.Range.size, Nat.sub_zero, Nat.add_sub_cancel, Nat.div_one, List.range'_succ, List.range'_zero, List.forIn_cons, List.forIn_nil]
  go_simp
  by_cases h1 : a = a' <;> by_cases h2 : b = b' <;> by_cases h3 : c = c' <;> simp [h1, h2, h3]
theorem tri_check (em : Bool) (u : Tri) (w : World) : (Instr.checkKey em 10000 139 (triV u)).run Tryd.prog w = .ok () w := by
  have u3 := Tryd.underlying3
  have a3 := Tryd.isAgg3
  have z3 := Tryd.sizeOf3
  unfold triV
  rw [show (10000 : Nat) = 9998 + 1 + 1 from rfl, Instr.checkKey]
  simp only [Sem.run_bind, run_underlying Tryd.underlying139, Result.andThen_ok]
  simp only [Std.Legacy.Range.forIn_eq_forIn_range', Std.Legacy.Range.size, Nat.sub_zero, Nat.add_sub_cancel, Nat.div_one, List.range'_succ, List.range'_zero, List.forIn_cons, List.forIn_nil]
  have hk : ∀ (a : Int) w, (Instr.checkKey em (9998 + 1) 3 (.int .i64 a)).run Tryd.prog w = .ok () w := fun a w => Go.MapKept.run_checkKey u3 (show Go.MapKept.IsKey (.int .i64) (.int .i64 a) from rfl) em 9998
  go_simp
theorem tri_dec (k a : Tri) : (k.1 == a.1 && ((k.2.1 : Int) == (a.2.1 : Int) && (k.2.2 : Int) == (a.2.2 : Int))) = decide (a = k) := by
  obtain ⟨x, y, z⟩ := k
  obtain ⟨x', y', z'⟩ := a
  rw [Bool.eq_iff_iff]
  simp only [Bool.and_eq_true, beq_iff_eq, decide_eq_true_eq, Prod.mk.injEq]
  omega
theorem tri_find (k : Tri) : ∀ (es : List MapEntry) (l : List Tri) (i : Nat) (w : World), es.map (·.key) = l.map triV → (Instr.findAsking 139 (triV k) es i).run Tryd.prog w = .ok ((es[l.findIdx (· = k)]?).map fun e => (i + l.findIdx (· = k), e.val)) w
  | [], [], i, w, _ => by simp [Instr.findAsking]
  | [], _ :: _, i, w, h => by simp at h
  | _ :: _, [], i, w, h => by simp at h
  | e :: es, a :: l, i, w, h => by
    simp only [List.map_cons, List.cons.injEq] at h
    have he := tri_eq k.1 k.2.1 k.2.2 a.1 a.2.1 a.2.2 w
    rw [tri_dec] at he
    have ih := tri_find k es l (i + 1) w h.2
    unfold Instr.findAsking
    rw [Sem.run_bind, h.1]
    show ((Op.equalIn 10000 139 (triV k) (triV a)).run Tryd.prog w).andThen _ = _
    unfold triV
    rw [he]
    by_cases hk : a = k
    · subst hk
      simp [List.findIdx_cons]
    · unfold triV at ih
      simp only [Result.andThen_ok, hk, decide_false, Bool.false_eq_true, if_false, ih, List.findIdx_cons, cond_false, List.getElem?_cons_succ]
      cases es[l.findIdx (· = k)]? with
      | none => rfl
      | some x =>
        simp only [Option.map_some]
        rw [show i + 1 + l.findIdx (· = k) = i + (l.findIdx (· = k) + 1) by omega]
theorem tri_find0 (k : Tri) (es : List MapEntry) (l : List Tri) (w : World) (h : es.map (·.key) = l.map triV) : (Instr.findKey 139 (triV k) es).run Tryd.prog w = .ok ((es[l.findIdx (· = k)]?).map fun e => (l.findIdx (· = k), e.val)) w := by
  cases es with
  | nil =>
    cases l with
    | nil => simp [Instr.findKey, run_underlying Tryd.underlying139, Instr.findNow]
    | cons a l => simp at h
  | cons e es =>
    have hf := tri_find k (e :: es) l 0 w h
    have hn : Instr.findNow (.array 3 3) (triV k) (e :: es) 0 = none := by
      unfold Instr.findNow
      rfl
    simp only [Instr.findKey, Sem.run_bind, run_underlying Tryd.underlying139, Result.andThen_ok, hn]
    rw [hf]
    simp
theorem keyOk_tri : KeyOk Tryd.prog 139 triV where
  inj := fun a b h => by
    unfold triV at h
    simp only [Value.agg.injEq, Array.mk.injEq, List.cons.injEq, Value.int.injEq, true_and, and_true] at h
    exact Prod.ext h.1 (Prod.ext (by exact_mod_cast h.2.1) (by exact_mod_cast h.2.2))
  check := fun b k w => tri_check b k w
  find := fun k es l w h => tri_find0 k es l w h
  stays := fun k w => by simp [Instr.keyThatStays, Instr.sameBits, triV]
end Go.Proofs.YtjpfalanoifpbaaDoor.X
end

section
set_option linter.unusedVariables false
set_option linter.unusedSimpArgs false
namespace Go.Proofs.YtjpfalanoifpbaaDoor.X
open Go.RowKit Go.Proofs.YtjpfalanoifpbaaDoorW.PrintWords Go.Proofs.YtjpfalanoifpbaaDoorW.PrintLast Go.Proofs.YtjpfalanoifpbaaDoorW.PrintMore Go.Proofs.YtjpfalanoifpbaaDoor.T
structure Fo (w : World) (g : Nat) (sl : Value) (s : ByteArray) (M r : Nat) (a : Cnt) : Prop where
  blk : w.heap[g]? = some (.cells #[sl, .string s, .int .i64 (M : Nat), .map (some r)] 138 (0, 0))
  map : ∃ l, IsM triV natV w r l ∧ ∀ c i j, (findL l (c, i, j)).getD 0 = a c i j
theorem Fo.later {w w' : World} {g : Nat} {sl : Value} {s : ByteArray} {M r : Nat} {a : Cnt} (h : Fo w g sl s M r a) (hb : Below w.heap.size w w') : Fo w' g sl s M r a := by
  obtain ⟨l, h1, h2⟩ := h.map
  exact ⟨(hb.block _ (Array.getElem?_eq_some_iff.1 h.blk).1).trans h.blk, l, h1.below hb, h2⟩
theorem Fo.c1 {w : World} {g : Nat} {sl : Value} {s : ByteArray} {M r : Nat} {a : Cnt} (h : Fo w g sl s M r a) : w.cell? ⟨g, 1, none⟩ = some (.string s) := by
  rw [blk_cell h.blk]
  rfl
theorem Fo.c2 {w : World} {g : Nat} {sl : Value} {s : ByteArray} {M r : Nat} {a : Cnt} (h : Fo w g sl s M r a) : w.cell? ⟨g, 2, none⟩ = some (.int .i64 (M : Nat)) := by
  rw [blk_cell h.blk]
  rfl
theorem Fo.c3 {w : World} {g : Nat} {sl : Value} {s : ByteArray} {M r : Nat} {a : Cnt} (h : Fo w g sl s M r a) : w.cell? ⟨g, 3, none⟩ = some (.map (some r)) := by
  rw [blk_cell h.blk]
  rfl
theorem zero3 : ∀ w, (zeroValue 3).run Tryd.prog w = .ok (natV 0) w := fun _ => by kernel_rfl
set_option maxHeartbeats 2000000 in
set_option maxRecDepth 100000 in
theorem count_calls {g : Nat} {sl : Value} {s : ByteArray} {M r : Nat} {a : Cnt} {w : World} (h : Fo w g sl s M r a) (c : Int) (hc : 0 ≤ c ∧ c < 256) (i j : Nat) :
    Calls Tryd.prog 101 #[.pointer (some ⟨g, 0, none⟩), .int .u8 c, .int .i64 i, .int .i64 j] w fun e w' => e = .returned (.int .i64 (a c i j : Nat)) ∧ w' = w := by
  obtain ⟨l, hl, ha⟩ := h.map
  have c3 := h.c3
  have hw : IntKind.i64.wrap c = c := by rw [IntKind.wrap_i64]; omega
  have HZ := Lib.hid zero3
  have HL := Lib.hid hl
  have HA := Lib.hid ha
  clear h hl ha
  go_enter Tryd.func101, Tryd.ntmps101
  go_wp2_with (first | ((with_reducible refine gate_dst (N := 18) rfl ?_); refine map_get_event rfl 136 (.tmp 12) (.tmp 17) false rfl Tryd.underlying136 (enc := triV) (encv := natV) HZ.out keyOk_tri (c, i, j) rfl rfl HL.out ?_; rw [HA.out]; simp only [Bool.false_eq_true, if_false]))
  go_ret
  exact ⟨rfl, rfl⟩
theorem wrap_small {x : Int} (h0 : 0 ≤ x) (h1 : x ≤ 100000) : wrap64 x = x := by
  unfold wrap64
  omega
theorem cap_min {C p M : Nat} (hC : C ≤ 101) (hp : p ≤ 10201) (hM : M ≤ 101) : (if (M : Int) < wrap64 ((C : Int) + (p : Int)) then (M : Int) else wrap64 ((C : Int) + (p : Int))) = ((min (C + p) M : Nat) : Int) := by
  obtain ⟨x, hx⟩ : ∃ x, C + p = x := ⟨_, rfl⟩
  have e : (C : Int) + (p : Int) = (x : Int) := by rw [← hx]; simp
  rw [e, hx, wrap_small (by omega) (by omega)]
  split <;> omega
theorem cap_min2 {C p M : Nat} (hC : C ≤ 101) (hp : p ≤ 10201) : min (wrap64 ((C : Int) + (p : Int))) (M : Int) = ((min (C + p) M : Nat) : Int) := by
  obtain ⟨x, hx⟩ : ∃ x, C + p = x := ⟨_, rfl⟩
  have e : (C : Int) + (p : Int) = (x : Int) := by rw [← hx]; simp
  rw [e, hx, wrap_small (by omega) (by omega)]
  omega
theorem size_zero {q : ByteArray} (h : q.size = 0) : q = ByteArray.empty := by
  apply ByteArray.ext
  exact Array.eq_empty_of_size_eq_zero h
set_option maxHeartbeats 4000000 in
set_option maxRecDepth 100000 in
theorem ways_zero {g : Nat} {sl : Value} {s : ByteArray} {M r : Nat} {a : Cnt} (q : ByteArray) (i j : Nat) (w : World) (hq : q.size = 0) (h : Fo w g sl s M r a) :
    Calls Tryd.prog 99 #[.pointer (some ⟨g, 0, none⟩), .string q, .int .i64 i, .int .i64 j] w fun e w' => e = .returned (.int .i64 (cW M (ch s) a (lst q) i j : Nat)) ∧ Below w.heap.size w w' := by
  obtain rfl := size_zero hq
  rw [lst_nil hq, cW]
  clear hq
  by_cases hij : i = j
  · rw [if_pos hij]
    have hI : (i : Int) = j := by omega
    go_enter Tryd.func99, Tryd.ntmps99
    go_wp2
    go_ret
    exact ⟨rfl, Below.refl _ _⟩
  · rw [if_neg hij]
    have hI : ¬ (i : Int) = j := by omega
    go_enter Tryd.func99, Tryd.ntmps99
    go_wp2
    go_ret
    exact ⟨rfl, Below.refl _ _⟩
theorem toList_ne {q : ByteArray} (h : 0 < q.size) : q.toList.isEmpty = false := by
  have h2 : q.size = q.data.toList.length := rfl
  cases hq : q.toList with
  | nil =>
    rw [ByteArray.toList_eq] at hq
    rw [hq] at h2
    have h3 : q.size = 0 := h2
    omega
  | cons x l => rfl
def WaysAt (g : Nat) (sl : Value) (s : ByteArray) (M r : Nat) (a : Cnt) (d : Nat) : Prop := ∀ (q : ByteArray) (i j : Nat) (w : World), q.size = d → okR q → i ≤ 9 → j ≤ s.size → Fo w g sl s M r a →
    Calls Tryd.prog 99 #[.pointer (some ⟨g, 0, none⟩), .string q, .int .i64 i, .int .i64 j] w fun e w' => e = .returned (.int .i64 (cW M (ch s) a (lst q) i j : Nat)) ∧ Below w.heap.size w w'
set_option maxHeartbeats 4000000 in
set_option maxRecDepth 100000 in
theorem ways_step {g : Nat} {sl : Value} {s : ByteArray} {M r : Nat} {a : Cnt} (hM : 0 < M ∧ M ≤ 101) (ha : ∀ c i j, a c i j ≤ M) (hs8 : s.size ≤ 8) (d : Nat) (hd4 : d < 4) (IH : WaysAt g sl s M r a d) : WaysAt g sl s M r a (d + 1) := by
  intro q i j w hd hok hi hj hF
  have hne : q.toList.isEmpty = false := toList_ne (by omega)
  have hl := lst_cons (s := q) (by omega)
  have hq0 := hok 0 (by omega)
  have hch := ch_range q 0
  have hqs : (q.extract 1 q.size).size = d := by rw [ByteArray.size_extract]; omega
  have HI : Hid (∀ (i j : Nat) (w : World), i ≤ 9 → j ≤ s.size → Fo w g sl s M r a → Calls Tryd.prog 99 #[.pointer (some ⟨g, 0, none⟩), .string (q.extract 1 q.size), .int .i64 i, .int .i64 j] w fun e w' => e = .returned (.int .i64 (cW M (ch s) a (lst (q.extract 1 q.size)) i j : Nat)) ∧ Below w.heap.size w w') := Lib.hid (fun i j w => IH _ i j w hqs (okR_tail hok 1))
  obtain ⟨c, hc⟩ : ∃ c, ch q 0 = c := ⟨_, rfl⟩
  rw [hc] at hl hq0 hch
  obtain ⟨X, hX⟩ : ∃ X, cW M (ch s) a (lst q) i j = X := ⟨_, rfl⟩
  rw [hX]
  rw [hl, cW] at hX
  have HX := Lib.hid hX
  have HF := Lib.hid hF
  have HC := Lib.hid hc
  have HA := Lib.hid ha
  have HD := Lib.hid hd
  have hq1 : 0 < q.size := by omega
  have hq2 : 1 ≤ q.size := by omega
  clear hF hl hc ha IH hok hqs hX hd
  have hbt : (((q[0]'hq1).toNat : Nat) : Int) = c := (ch_at q 0 hq1).trans HC.out
  go_enter Tryd.func99, Tryd.ntmps99
  go_wp2_with fail
  go_quiet (fail)
  have HB := Lib.hid (pw_below_drewN (Below.refl w.heap.size w) nq)
  have HF := Lib.hid (HF.out.later HB.out)
  generalize w.drewN nq = w1 at HB HF ⊢
  go_wp2_with fail
  refine (isPart_calls c w1).mono ?_
  rintro e w2 ⟨rfl, rfl⟩
  cases hp : isP c with
  | false =>
    have HX2 := Lib.hid (show X = if i < j ∧ ch s i = c then cW M (ch s) a (lst (q.extract 1 q.size)) (i + 1) j else 0 by rw [← HX.out, hp, if_neg (by decide)])
    by_cases hij : i < j
    · have hI : (i : Int) < j := by omega
      have his : i < s.size := by omega
      have c1 := HF.out.c1
      have hbi : (((s[i]'his).toNat : Nat) : Int) = ch s i := ch_at s i his
      obtain ⟨x, hx⟩ : ∃ x, ch s i = x := ⟨_, rfl⟩
      rw [hx] at hbi
      have HXX := Lib.hid hx
      clear hx
      by_cases hxc : x = c
      · subst hxc
        have HX3 := Lib.hid (HX2.out.trans (if_pos ⟨hij, HXX.out⟩))
        have hi1 : i + 1 ≤ 9 := by omega
        go_wp2_with fail
        refine (HI.out (i + 1) j w2 hi1 hj HF.out).mono ?_
        rintro e w3 ⟨rfl, hb3⟩
        have HB3 := Lib.hid (HB.out.trans (hb3.mono HB.out.size))
        clear hb3
        go_wp2
        go_ret
        rw [HX3.out]
        exact ⟨rfl, HB3.out⟩
      · have HX3 := Lib.hid (HX2.out.trans (if_neg (fun q => hxc (HXX.out.symm.trans q.2))))
        go_wp2
        go_ret
        rw [HX3.out]
        exact ⟨rfl, HB.out⟩
    · have hI : ¬ (i : Int) < j := by omega
      have HX3 := Lib.hid (HX2.out.trans (if_neg (fun q => hij q.1)))
      go_wp2
      go_ret
      rw [HX3.out]
      exact ⟨rfl, HB.out⟩
  | true =>
    have HX2 := Lib.hid (show X = csum M (fun k => a c i k) (fun k => cW M (ch s) a (lst (q.extract 1 q.size)) k j) i (j + 1 - i) by rw [← HX.out, hp, if_pos rfl])
    clear HX
    obtain ⟨f, hf⟩ : ∃ f, (fun k => a c i k) = f := ⟨_, rfl⟩
    obtain ⟨h, hh⟩ : ∃ h, (fun k => cW M (ch s) a (lst (q.extract 1 q.size)) k j) = h := ⟨_, rfl⟩
    rw [hf, hh] at HX2
    have HFM := Lib.hid (show ∀ k, f k ≤ M by intro k; rw [← hf]; exact HA.out _ _ _)
    have HHM := Lib.hid (show ∀ k, h k ≤ M by intro k; rw [← hh]; exact cW_le hM.1 _ _ _)
    have HFE := Lib.hid (show ∀ k, a c i k = f k by intro k; rw [← hf])
    have HHE := Lib.hid (show ∀ k, cW M (ch s) a (lst (q.extract 1 q.size)) k j = h k by intro k; rw [← hh])
    clear hf hh
    go_wp2_with fail
    go_loopw [11, 12, 13] (fun o k v wr => ∃ e : Nat, e ≤ j + 1 - i ∧ o = .int .i64 (csum M f h i e : Nat) ∧ k = .int .i64 ((i + e : Nat) : Int) ∧ Hid (Below w.heap.size w wr) ∧ Hid (Fo wr g sl s M r a)) (fun _ k _ _ => j + 1 - (intOf k).toNat)
    case atStart => exact ⟨0, by omega, rfl, rfl, HB, HF⟩
    case round =>
      clear HB HF
      obtain ⟨e, he, rfl, rfl, HB, HF⟩ := hrel
      obtain ⟨x, hx⟩ : ∃ x, i + e = x := ⟨_, rfl⟩
      obtain ⟨C, hC⟩ : ∃ C, csum M f h i e = C := ⟨_, rfl⟩
      have hCM : C ≤ M := by rw [← hC]; exact csum_le _
      rw [hx, hC]
      by_cases hlt : x ≤ j
      · have hltI : (x : Int) ≤ j := by omega
        have HS1 : Hid (csum M f h i (e + 1) = if 0 < f x then min (C + f x * h x) M else C) := Lib.hid (by rw [csum, hx, hC])
        have HEX : Hid (e + 1 ≤ j + 1 - i ∧ i + (e + 1) = x + 1) := Lib.hid (by omega)
        have hx9 : x ≤ 9 := by omega
        clear hC hx
        go_wp2_with fail
        refine (count_calls HF.out c hch i x).mono ?_
        rintro e w2 ⟨rfl, rfl⟩
        rw [HFE.out]
        have hfm := HFM.out x
        have hhm := HHM.out x
        have HHX := Lib.hid (HHE.out x)
        obtain ⟨y, hy⟩ : ∃ y, f x = y := ⟨_, rfl⟩
        obtain ⟨z, hz⟩ : ∃ z, h x = z := ⟨_, rfl⟩
        rw [hy, hz] at HS1
        rw [hz] at HHX
        rw [hy] at hfm ⊢
        rw [hz] at hhm
        clear hy hz
        by_cases hpos : 0 < y
        · have hposI : 0 < (y : Int) := by omega
          have HS2 := Lib.hid (HS1.out.trans (if_pos hpos))
          obtain ⟨p, hpp⟩ : ∃ p, y * z = p := ⟨_, rfl⟩
          have hpb : p ≤ 10201 := by
            rw [← hpp]
            exact Nat.mul_le_mul (show y ≤ 101 by omega) (show z ≤ 101 by omega)
          have hpi : (y : Int) * (z : Int) = (p : Int) := by rw [← hpp]; simp
          rw [hpp] at HS2
          clear hpp
          have hwp : IntKind.i64.wrap (p : Int) = (p : Int) := i64_nat (Nat.lt_of_le_of_lt hpb (by decide))
          have hmi := cap_min (C := C) (p := p) (M := M) (by omega) hpb hM.2
          have hmj : min (wrap64 ((C : Int) + (p : Int))) (M : Int) = ((min (C + p) M : Nat) : Int) := cap_min2 (by omega) hpb
          generalize min (C + p) M = m at HS2 hmi hmj
          have c2 := HF.out.c2
          go_upto_region 16 with fail
          refine start_ (n := 15) (S := fun w' => w'.cell? ⟨g, 2, none⟩ = some (.int .i64 (M : Nat)) ∧ w'.cell? ⟨g, 1, none⟩ = some (.string s)) (ds := []) #[false, false, false, false, false, false, false, false, false, false, false, false, false, false, false] (by kernel_rfl) rfl rfl ⟨HF.out.c2, HF.out.c1⟩ (fun hHeld => ?_)
          refine pure_ (i := 0) (N := (some 58)) (v := ?_) (a' := ?_) #[true, false, false, false, false, false, false, false, false, false, false, false, false, false, false] rfl rfl (by kernel_rfl) (fun _ _ _ h => h) (Or.inl ⟨by rfl, ?_⟩) ?_ ?_
          rotate_left
          · intro w'; go_simp; first | done | with_reducible rfl
          rotate_left
          · simp only [Act.put, List.setIfInBounds_toArray, List.set_cons_zero, List.set_cons_succ, i64_w, i32_w]; rfl
          refine pure_ (i := 1) (N := (some 59)) (v := ?_) (a' := ?_) #[true, true, false, false, false, false, false, false, false, false, false, false, false, false, false] rfl rfl (by kernel_rfl) (fun _ _ _ h => h) (Or.inl ⟨by rfl, ?_⟩) ?_ ?_
          rotate_left
          · intro w'; go_simp; first | done | with_reducible rfl
          rotate_left
          · simp only [Act.put, List.setIfInBounds_toArray, List.set_cons_zero, List.set_cons_succ, i64_w, i32_w]; rfl
          refine pure_ (i := 2) (N := (some 60)) (v := ?_) (a' := ?_) #[true, true, true, false, false, false, false, false, false, false, false, false, false, false, false] rfl rfl (by kernel_rfl) (fun _ _ _ h => h) (Or.inl ⟨by rfl, ?_⟩) ?_ ?_
          rotate_left
          · intro w'; go_simp; first | done | with_reducible rfl
          rotate_left
          · simp only [Act.put, List.setIfInBounds_toArray, List.set_cons_zero, List.set_cons_succ, i64_w, i32_w]; rfl
          refine pure_ (i := 3) (N := (some 61)) (v := ?_) (a' := ?_) #[true, true, true, true, false, false, false, false, false, false, false, false, false, false, false] rfl rfl (by kernel_rfl) (fun _ _ _ h => h) (Or.inl ⟨by rfl, ?_⟩) ?_ ?_
          rotate_left
          · intro w'; go_simp; first | done | with_reducible rfl
          rotate_left
          · simp only [Act.put, List.setIfInBounds_toArray, List.set_cons_zero, List.set_cons_succ, i64_w, i32_w]; rfl
          refine pure_ (i := 4) (N := (some 62)) (v := ?_) (a' := ?_) #[true, true, true, true, true, false, false, false, false, false, false, false, false, false, false] rfl rfl (by kernel_rfl) (fun _ _ _ h => h) (Or.inl ⟨by rfl, ?_⟩) ?_ ?_
          rotate_left
          · intro w'; go_simp; first | done | with_reducible rfl
          rotate_left
          · simp only [Act.put, List.setIfInBounds_toArray, List.set_cons_zero, List.set_cons_succ, i64_w, i32_w]; rfl
          refine pure_ (i := 5) (N := (some 63)) (v := ?_) (a' := ?_) #[true, true, true, true, true, true, false, false, false, false, false, false, false, false, false] rfl rfl (by kernel_rfl) (fun _ _ _ h => h) (Or.inl ⟨by rfl, ?_⟩) ?_ ?_
          rotate_left
          · intro w'; go_simp; first | done | with_reducible rfl
          rotate_left
          · simp only [Act.put, List.setIfInBounds_toArray, List.set_cons_zero, List.set_cons_succ, i64_w, i32_w]; rfl
          refine pure_ (i := 9) (N := (some 67)) (v := ?_) (a' := ?_) #[true, true, true, true, true, true, false, false, false, true, false, false, false, false, false] rfl rfl (by kernel_rfl) (fun _ _ _ h => h) (Or.inl ⟨by rfl, ?_⟩) ?_ ?_
          rotate_left
          · intro w'; go_simp; first | done | with_reducible rfl
          rotate_left
          · simp only [Act.put, List.setIfInBounds_toArray, List.set_cons_zero, List.set_cons_succ, i64_w, i32_w]; rfl
          refine pure_ (i := 10) (N := (some 68)) (v := ?_) (a' := ?_) #[true, true, true, true, true, true, false, false, false, true, true, false, false, false, false] rfl rfl (by kernel_rfl) (fun _ _ _ h => h) (Or.inl ⟨by rfl, ?_⟩) ?_ ?_
          rotate_left
          · intro w'; go_simp; first | done | with_reducible rfl
          rotate_left
          · simp only [Act.put, List.setIfInBounds_toArray, List.set_cons_zero, List.set_cons_succ, i64_w, i32_w]; rfl
          refine pure_ (i := 11) (N := (some 69)) (v := ?_) (a' := ?_) #[true, true, true, true, true, true, false, false, false, true, true, true, false, false, false] rfl rfl (by kernel_rfl) (fun _ _ _ h => h) (Or.inl ⟨by rfl, ?_⟩) ?_ ?_
          rotate_left
          · intro w'; go_simp; first | done | with_reducible rfl
          rotate_left
          · simp only [Act.put, List.setIfInBounds_toArray, List.set_cons_zero, List.set_cons_succ, i64_w, i32_w]; rfl
          refine take_ (i := 12) (N := (some 70)) (v := ?_) (a' := ?_) #[true, true, true, true, true, true, false, false, false, true, true, true, true, false, false] rfl rfl (by kernel_rfl) (fun _ _ _ h => h) (Or.inl ⟨by rfl, ?_⟩) hHeld ?_ ?_
          rotate_left
          · rintro w' ⟨s0, s1⟩; go_simp; first | done | with_reducible rfl
          rotate_left
          · simp only [Act.put, List.setIfInBounds_toArray, List.set_cons_zero, List.set_cons_succ, i64_w, i32_w]; rfl
          refine one_ (i := 6) (N := (some 64)) #[true, true, true, true, true, true, true, false, false, true, true, true, true, false, false] rfl rfl (by kernel_rfl) (by decide) (fun K hK => ?_)
          refine goes_ Tryd.func99 (by kernel_rfl) rfl #[.pointer (some ⟨g, 0, none⟩), .string (q.extract 1 q.size), .int .i64 x, .int .i64 j] (by rfl) rfl rfl (by (try simp only [List.map_toArray, List.map_cons, List.map_nil]); first | done | rfl) ?_
          refine (HI.out x j _ hx9 hj (HF.out.later (Below.refl _ _).drew)).mono ?_
          rintro e w3 ⟨rfl, hb3⟩
          refine ⟨_, rfl, ?_⟩
          rw [HHX.out]
          have hbd := (Below.refl w2.heap.size w2).drew.trans hb3
          have HB3 := Lib.hid (HB.out.trans (hbd.mono HB.out.size))
          have HF3 := Lib.hid (HF.out.later hbd)
          clear hb3 hbd HB HF c2
          refine hK.out _ _ ⟨HF3.out.c2, HF3.out.c1⟩ (fun hHeld => ?_)
          clear hK K
          refine norm_ (a' := ?_) ?_ ?_
          rotate_left
          · show Act.put _ (some 64) _ = _; simp only [Act.put, List.setIfInBounds_toArray, List.set_cons_zero, List.set_cons_succ, i64_w, i32_w]; rfl
          refine pure_ (i := 7) (N := (some 65)) (v := (.int .i64 (p : Nat))) (a' := ?_) #[true, true, true, true, true, true, true, true, false, true, true, true, true, false, false] rfl rfl (by kernel_rfl) (fun _ _ _ h => h) (Or.inl ⟨by rfl, ?_⟩) ?_ ?_
          · intro w'; go_simp; first | done | with_reducible rfl
          rotate_left
          · simp only [Act.put, List.setIfInBounds_toArray, List.set_cons_zero, List.set_cons_succ, i64_w, i32_w]; rfl
          refine pure_ (i := 8) (N := (some 66)) (v := ?_) (a' := ?_) #[true, true, true, true, true, true, true, true, true, true, true, true, true, false, false] rfl rfl (by kernel_rfl) (fun _ _ _ h => h) (Or.inl ⟨by rfl, ?_⟩) ?_ ?_
          rotate_left
          · intro w'; go_simp; first | done | with_reducible rfl
          rotate_left
          · simp only [Act.put, List.setIfInBounds_toArray, List.set_cons_zero, List.set_cons_succ, i64_w, i32_w]; rfl
          refine pure_ (i := 13) (N := (some 71)) (v := (.int .i64 (m : Nat))) (a' := ?_) #[true, true, true, true, true, true, true, true, true, true, true, true, true, true, false] rfl rfl (by kernel_rfl) (fun _ _ _ h => h) (Or.inl ⟨by rfl, ?_⟩) ?_ ?_
          · intro w'; go_simp; first | done | with_reducible rfl
          rotate_left
          · simp only [Act.put, List.setIfInBounds_toArray, List.set_cons_zero, List.set_cons_succ, i64_w, i32_w]; rfl
          refine pure_ (i := 14) (N := (some 11)) (v := ?_) (a' := ?_) #[true, true, true, true, true, true, true, true, true, true, true, true, true, true, true] rfl rfl (by kernel_rfl) (fun _ _ _ h => h) (Or.inl ⟨by rfl, ?_⟩) ?_ ?_
          rotate_left
          · intro w'; go_simp; first | done | with_reducible rfl
          rotate_left
          · simp only [Act.put, List.setIfInBounds_toArray, List.set_cons_zero, List.set_cons_succ, i64_w, i32_w]; rfl
          refine done_ (by kernel_rfl) ?_
          go_wp2_with fail
          refine ⟨⟨e + 1, HEX.out.1, by rw [HS2.out], by rw [HEX.out.2]; go_num, HB3, HF3⟩, by simp [intOf]; omega⟩
        · have HS2 := Lib.hid (HS1.out.trans (if_neg hpos))
          obtain rfl : y = 0 := by omega
          go_wp2_with fail
          refine ⟨⟨e + 1, HEX.out.1, by rw [HS2.out], by rw [HEX.out.2]; go_num, HB, HF⟩, by simp [intOf]; omega⟩
      · have hltI : ¬ (x : Int) ≤ j := by omega
        obtain rfl : e = j + 1 - i := by omega
        have HX3 := Lib.hid (HX2.out.trans hC)
        go_wp2
        go_ret
        rw [HX3.out]
        exact ⟨rfl, HB.out⟩
theorem ways_calls {g : Nat} {sl : Value} {s : ByteArray} {M r : Nat} {a : Cnt} (hM : 0 < M ∧ M ≤ 101) (ha : ∀ c i j, a c i j ≤ M) (hs8 : s.size ≤ 8) : ∀ d, d ≤ 4 → WaysAt g sl s M r a d
  | 0, _ => fun q i j w hd _ _ _ hF => ways_zero q i j w hd hF
  | d + 1, h => ways_step hM ha hs8 d (by omega) (ways_calls hM ha hs8 d (by omega))
end Go.Proofs.YtjpfalanoifpbaaDoor.X
end

section
set_option linter.unusedVariables false
set_option linter.unusedSimpArgs false
namespace Go.Proofs.YtjpfalanoifpbaaDoor.X
open Go.RowKit Go.Proofs.YtjpfalanoifpbaaDoorW.PrintWords Go.Proofs.YtjpfalanoifpbaaDoorW.PrintLast Go.Proofs.YtjpfalanoifpbaaDoorW.PrintMore Go.Proofs.YtjpfalanoifpbaaDoor.T
structure Itr (w0 w : World) (r1 r2 r : Nat) (es : Array MapEntry) (clock : Nat) (l2 : List (Tri × Nat)) (seen : Array Nat) (c0 : Nat) : Prop where
  it : w.heap[r]? = some (.mapIter (some r1) clock seen c0)
  le : clock ≤ c0
  m1 : w.heap[r1]? = some (.map es clock)
  m2 : IsM triV natV w r2 l2
  bl : Below w0.heap.size w0 w
theorem Itr.later {w0 w w' : World} {r1 r2 r : Nat} {es : Array MapEntry} {clock : Nat} {l2 : List (Tri × Nat)} {seen : Array Nat} {c0 : Nat} (h : Itr w0 w r1 r2 r es clock l2 seen c0) (hb : Below w.heap.size w w') : Itr w0 w' r1 r2 r es clock l2 seen c0 :=
  ⟨(hb.block _ (Array.getElem?_eq_some_iff.1 h.it).1).trans h.it, h.le, (hb.block _ (Array.getElem?_eq_some_iff.1 h.m1).1).trans h.m1, h.m2.below hb, h.bl.trans (hb.mono h.bl.size)⟩
theorem Itr.step {w0 w w1 : World} {r1 r2 r : Nat} {es : Array MapEntry} {clock : Nat} {l2 : List (Tri × Nat)} {seen : Array Nat} {c0 : Nat} (h : Itr w0 w r1 r2 r es clock l2 seen c0) (hr : w0.heap.size ≤ r) (hw : w1 = w ∨ w1 = w.drew) (b : Nat) : Itr w0 (Go.ChangeMaps.setBlock w1 r (.mapIter (some r1) clock (seen.push b) clock)) r1 r2 r es clock l2 (seen.push b) clock := by
  have h1 : Itr w0 w1 r1 r2 r es clock l2 seen c0 := by
    rcases hw with rfl | rfl
    · exact h
    · exact h.later (Below.refl _ _).drew
  have hne1 : r1 ≠ r := by
    rintro e
    have := h1.it
    rw [← e, h1.m1] at this
    cases this
  have hne2 : r2 ≠ r := by
    rintro e
    obtain ⟨es2, clock2, hb2, _⟩ := h1.m2
    have := h1.it
    rw [← e, hb2] at this
    cases this
  have ho : ∀ k, k ≠ r → (Go.ChangeMaps.setBlock w1 r (.mapIter (some r1) clock (seen.push b) clock)).heap[k]? = w1.heap[k]? := fun k hk => Array.getElem?_setIfInBounds_ne (Ne.symm hk)
  refine ⟨Array.getElem?_setIfInBounds_self_of_lt (Array.getElem?_eq_some_iff.1 h1.it).1, Nat.le_refl _, (ho _ hne1).trans h1.m1, h1.m2.of_heap (ho _ hne2), ?_⟩
  exact h1.bl.trans ⟨rfl, rfl, rfl, by simp [Go.ChangeMaps.setBlock], fun k hk => ho k (by omega)⟩
theorem iter_seen {w : World} {r : Nat} {a : Option Nat} {b : Nat} {s : Array Nat} {c : Nat} (h : w.heap[r]? = some (.mapIter a b s c)) : w.iterSeen r = s := by
  unfold World.iterSeen
  rw [h]
def Agrees (l2 : List (Tri × Nat)) (x : MapEntry) : Prop := ∀ u v, x.key = triV u → x.val = natV v → (findL l2 u).getD 0 = v
theorem natV_inj {a b : Nat} (h : natV a = natV b) : a = b := by
  unfold natV at h
  injection h with _ h
  exact_mod_cast h
set_option maxHeartbeats 4000000 in
set_option maxRecDepth 100000 in
theorem same_calls {r1 r2 : Nat} {l1 l2 : List (Tri × Nat)} {w : World} (h1 : IsM triV natV w r1 l1) (h2 : IsM triV natV w r2 l2) :
    Calls Tryd.prog 100 #[.map (some r1), .map (some r2)] w fun e w' => (∃ b, e = .returned (.bool b) ∧ (b = true → ∀ p ∈ l1, (findL l2 p.1).getD 0 = p.2)) ∧ Below w.heap.size w w' := by
  obtain ⟨es, clock, hb, hl, hst⟩ := h1
  have hrg := run_range_map (P := Tryd.prog) w 136 139 3 r1 es clock Tryd.underlying136 hb
  have HI : Hid (Itr w (w.alloc (.mapIter (some r1) clock #[] clock)) r1 r2 w.heap.size es clock l2 #[] clock) := Lib.hid ⟨blk_new _ _, Nat.le_refl _, ((below_one (w := w) (.mapIter (some r1) clock #[] clock)).block _ (Array.getElem?_eq_some_iff.1 hb).1).trans hb, h2.below (below_one _), below_one _⟩
  have HEV := Lib.hid (show ∀ x ∈ es.toList, ∃ u v, x.key = triV u ∧ x.val = natV v ∧ (u, v) ∈ l1 from fun x hx => by
    have h3 : (x.key, x.val) ∈ es.toList.map fun e => (e.key, e.val) := List.mem_map.2 ⟨x, hx, rfl⟩
    rw [hl] at h3
    obtain ⟨p, hp, e⟩ := List.mem_map.1 h3
    exact ⟨p.1, p.2, (congrArg Prod.fst e).symm, (congrArg Prod.snd e).symm, hp⟩)
  have HVE := Lib.hid (show ∀ p ∈ l1, ∃ x ∈ es.toList, x.key = triV p.1 ∧ x.val = natV p.2 from fun p hp => by
    have h3 : (triV p.1, natV p.2) ∈ l1.map fun p => (triV p.1, natV p.2) := List.mem_map.2 ⟨p, hp, rfl⟩
    rw [← hl] at h3
    obtain ⟨x, hx, e⟩ := List.mem_map.1 h3
    exact ⟨x, hx, congrArg Prod.fst e, congrArg Prod.snd e⟩)
  have HST := Lib.hid hst
  have HZ := Lib.hid zero3
  clear hb hl hst h2
  go_enter Tryd.func100, Tryd.ntmps100
  go_wp2_with fail
  clear hrg
  generalize w.alloc (.mapIter (some r1) clock #[] clock) = w0 at HI ⊢
  obtain ⟨r, hr⟩ : ∃ r, w.heap.size = r := ⟨_, rfl⟩
  rw [hr] at HI ⊢
  go_loopw [] (fun wr => ∃ (seen : Array Nat) (c0 : Nat), Hid (Itr w wr r1 r2 r es clock l2 seen c0) ∧ Hid (∀ x ∈ es.toList, seen.contains x.born = true → Agrees l2 x)) (fun wr => (leftOf es (wr.iterSeen r)).size)
  case atStart => exact ⟨#[], clock, HI, Lib.hid (fun x _ h => by simp at h)⟩
  case round =>
    clear HI
    obtain ⟨seen, c0, HI, HA⟩ := hrel
    rcases run_next_at (P := Tryd.prog) wr 0 r r1 clock c0 seen es clock HI.out.it HI.out.m1 HST.out.1 HI.out.le with ⟨h0, hrun⟩ | ⟨e, he, w1, hw1, hrun⟩
    · have hnx : ∀ ty, (Instr.next (.pointer (some ⟨r, 0, none⟩)) false ty).run Tryd.prog wr = _ := fun _ => hrun
      clear hrun
      go_wp2
      go_ret
      refine ⟨⟨true, rfl, fun _ p hp => ?_⟩, HI.out.bl⟩
      obtain ⟨x, hx, hk, hv⟩ := HVE.out p hp
      exact HA.out x hx (all_seen es seen h0 x hx) p.1 p.2 hk hv
    · have hem := (mem_left he).1
      obtain ⟨u, v, hk, hv, hp⟩ := HEV.out e hem
      have HI2 := Lib.hid (HI.out.step (by omega) hw1 e.born)
      have hen := run_entry_at (P := Tryd.prog) _ r r1 clock seen es clock e HI2.out.it HI2.out.m1 hem HST.out.2.1
      have HLS := Lib.hid (show (leftOf es (seen.push e.born)).size < (leftOf es (wr.iterSeen r)).size by rw [iter_seen HI.out.it]; exact left_shrinks es seen e he)
      have HE : Hid (∀ x ∈ es.toList, (seen.push e.born).contains x.born = true → seen.contains x.born = true ∨ x = e) := Lib.hid (fun x hx hc => by
        rw [contains_push] at hc
        rcases Bool.or_eq_true _ _ ▸ hc with h1 | h1
        · exact .inl h1
        · exact .inr (born_inj HST.out.2.1 hx hem (beq_iff_eq.1 h1)))
      rw [hk, hv] at hrun hen
      have HKV := Lib.hid (And.intro hk hv)
      obtain ⟨w2, hw2⟩ : ∃ w2, Go.ChangeMaps.setBlock w1 r (.mapIter (some r1) clock (seen.push e.born) clock) = w2 := ⟨_, rfl⟩
      rw [hw2] at hrun hen HI2
      have hnx : ∀ ty, (Instr.next (.pointer (some ⟨r, 0, none⟩)) false ty).run Tryd.prog wr = _ := fun _ => hrun
      generalize e.born = eb at *
      clear hrun hw2 he hk hv hem
      unfold triV natV at hen hnx
      have HI3 := Lib.hid (HI2.out.later (below_one (w := w2) (.cells #[.int .i64 u.1, .int .i64 (u.2.1 : Nat), .int .i64 (u.2.2 : Nat)] 139)))
      have HA2 := Lib.hid (show (findL l2 u).getD 0 = v → ∀ x ∈ es.toList, (seen.push eb).contains x.born = true → Agrees l2 x from fun hy x hx hc => by
        rcases HE.out x hx hc with h1 | h1
        · exact HA.out x hx h1
        · intro u' v' k1 k2
          rw [h1, HKV.out.1] at k1
          rw [h1, HKV.out.2] at k2
          rw [← keyOk_tri.inj _ _ k1, ← natV_inj k2]
          exact hy)
      obtain ⟨y, hy⟩ : ∃ y, (findL l2 u).getD 0 = y := ⟨_, rfl⟩
      rw [hy] at HA2
      have HY := Lib.hid hy
      clear hy
      by_cases hyv : y = v
      · subst hyv
        go_wp2_with (first | ((with_reducible refine gate_dst (N := 16) rfl ?_); refine map_get_event rfl 136 (.tmp 14) (.tmp 15) false rfl Tryd.underlying136 (enc := triV) (encv := natV) HZ.out keyOk_tri u rfl rfl HI3.out.m2 ?_; rw [HY.out]; simp only [Bool.false_eq_true, if_false]; unfold natV))
        refine ⟨⟨seen.push eb, clock, HI3, Lib.hid (HA2.out rfl)⟩, ?_⟩
        rw [iter_seen HI3.out.it]
        exact HLS.out
      · have hyI : ¬ (y : Int) = (v : Int) := by omega
        go_wp2_with (first | ((with_reducible refine gate_dst (N := 16) rfl ?_); refine map_get_event rfl 136 (.tmp 14) (.tmp 15) false rfl Tryd.underlying136 (enc := triV) (encv := natV) HZ.out keyOk_tri u rfl rfl HI3.out.m2 ?_; rw [HY.out]; simp only [Bool.false_eq_true, if_false]; unfold natV))
        go_ret
        exact ⟨⟨false, rfl, fun h => by cases h⟩, HI3.out.bl⟩
end Go.Proofs.YtjpfalanoifpbaaDoor.X
end

section
set_option linter.unusedVariables false
set_option linter.unusedSimpArgs false
namespace Go.Proofs.YtjpfalanoifpbaaDoor.X
open Go.RowKit Go.Proofs.YtjpfalanoifpbaaDoorW.PrintWords Go.Proofs.YtjpfalanoifpbaaDoorW.PrintLast Go.Proofs.YtjpfalanoifpbaaDoorW.PrintMore Go.Proofs.YtjpfalanoifpbaaDoor.T
def MapC (w : World) (r : Nat) (b : Cnt) : Prop := ∃ l, IsM triV natV w r l ∧ ∀ c i j, (findL l (c, i, j)).getD 0 = b c i j
theorem MapC.later {w w' : World} {r : Nat} {b : Cnt} (h : MapC w r b) (hb : Below w.heap.size w w') : MapC w' r b := by
  obtain ⟨l, h1, h2⟩ := h
  exact ⟨l, h1.below hb, h2⟩
theorem MapC.congr {w : World} {r : Nat} {b b' : Cnt} (h : MapC w r b) (e : ∀ c i j, b c i j = b' c i j) : MapC w r b' := by
  obtain ⟨l, h1, h2⟩ := h
  exact ⟨l, h1, fun c i j => (h2 c i j).trans (e c i j)⟩
theorem MapC.lt {w : World} {r : Nat} {b : Cnt} (h : MapC w r b) : r < w.heap.size := by
  obtain ⟨l, h1, _⟩ := h
  exact h1.lt
theorem MapC.new {w w1 : World} (h1 : w1.heap[w.heap.size]? = some (.map #[] 0)) : MapC w1 w.heap.size fun _ _ _ => 0 :=
  ⟨[], ⟨#[], 0, h1, rfl, Go.MapKept.stamped_empty 0⟩, fun _ _ _ => rfl⟩
structure Tr (w0 w : World) (g : Nat) (sl : Value) (s : ByteArray) (M rk rn : Nat) (a b : Cnt) : Prop where
  fo : Fo w g sl s M rk a
  nx : MapC w rn b
  bl : Below w0.heap.size w0 w
  hg : w0.heap.size ≤ g
  hk : w0.heap.size ≤ rk
  hn : w0.heap.size ≤ rn
  ne : rk ≠ rn
theorem Tr.later {w0 w w' : World} {g : Nat} {sl : Value} {s : ByteArray} {M rk rn : Nat} {a b : Cnt} (h : Tr w0 w g sl s M rk rn a b) (hb : Below w.heap.size w w') : Tr w0 w' g sl s M rk rn a b :=
  ⟨h.fo.later hb, h.nx.later hb, h.bl.trans (hb.mono h.bl.size), h.hg, h.hk, h.hn, h.ne⟩
theorem Tr.congr {w0 w : World} {g : Nat} {sl : Value} {s : ByteArray} {M rk rn : Nat} {a b b' : Cnt} (h : Tr w0 w g sl s M rk rn a b) (e : ∀ c i j, b c i j = b' c i j) : Tr w0 w g sl s M rk rn a b' :=
  ⟨h.fo, h.nx.congr e, h.bl, h.hg, h.hk, h.hn, h.ne⟩
theorem Tr.gn {w0 w : World} {g : Nat} {sl : Value} {s : ByteArray} {M rk rn : Nat} {a b : Cnt} (h : Tr w0 w g sl s M rk rn a b) : g ≠ rn := by
  rintro rfl
  obtain ⟨l, ⟨es, clock, hb, _⟩, _⟩ := h.nx
  have := h.fo.blk
  rw [hb] at this
  cases this
theorem Tr.put {w0 w : World} {g : Nat} {sl : Value} {s : ByteArray} {M rk rn : Nat} {a b b' : Cnt} (h : Tr w0 w g sl s M rk rn a b) (c : Int) (i j m : Nat) (e : ∀ c' i' j', b' c' i' j' = if (c', i', j') = (c, i, j) then m else b c' i' j') :
    ∃ w1, (Instr.mapUpdate 136 (.map (some rn)) (triV (c, i, j)) (natV m)).run Tryd.prog w = .ok () w1 ∧ Tr w0 w1 g sl s M rk rn a b' := by
  obtain ⟨l, h1, h2⟩ := h.nx
  obtain ⟨o, hrun, hm⟩ := run_update_is Tryd.underlying136 keyOk_tri h1 (c, i, j) m
  have hot : ∀ k, k ≠ rn → (putObj w rn o).heap[k]? = w.heap[k]? := fun k hk => Array.getElem?_setIfInBounds_ne (Ne.symm hk)
  obtain ⟨lk, hk1, hk2⟩ := h.fo.map
  refine ⟨_, hrun, ⟨(hot _ h.gn).trans h.fo.blk, lk, hk1.of_heap (hot _ h.ne), hk2⟩, ⟨_, hm, fun c' i' j' => ?_⟩, h.bl.trans ⟨rfl, rfl, rfl, by simp [putObj], fun k hk => hot k (by have := h.hn; omega)⟩, h.hg, h.hk, h.hn, h.ne⟩
  rw [findL_putL, e]
  by_cases q : (c', i', j') = (c, i, j)
  · rw [if_pos q.symm, if_pos q]
    rfl
  · rw [if_neg (fun z => q z.symm), if_neg q]
    exact h2 c' i' j'
theorem Tr.turn {w0 w : World} {g : Nat} {sl : Value} {s : ByteArray} {M rk rn : Nat} {a b : Cnt} (h : Tr w0 w g sl s M rk rn a b) : Fo (w.setCell ⟨g, 3, none⟩ (.map (some rn))) g sl s M rn b ∧ Below w0.heap.size w0 (w.setCell ⟨g, 3, none⟩ (.map (some rn))) := by
  refine ⟨⟨?_, ?_⟩, h.bl.setCell (p := ⟨g, 3, none⟩) h.hg _⟩
  · have := blk_set h.fo.blk 3 (.map (some rn))
    rw [this]
    rfl
  · obtain ⟨l, h1, h2⟩ := h.nx
    exact ⟨l, h1.of_heap (Below.heap_setCell w ⟨g, 3, none⟩ _ rn (Ne.symm h.gn)), h2⟩
theorem Tr.look {w0 w : World} {g : Nat} {sl : Value} {s : ByteArray} {M rk rn : Nat} {a b : Cnt} (h : Tr w0 w g sl s M rk rn a b) (c : Int) (i j : Nat) :
    (Instr.lookup 136 (.map (some rn)) (.agg #[.int .i64 c, .int .i64 (i : Nat), .int .i64 (j : Nat)]) false).run Tryd.prog w = .ok (.int .i64 (b c i j : Nat)) w := by
  obtain ⟨l, h1, h2⟩ := h.nx
  have := run_lookup_is Tryd.underlying136 (z := 0) zero3 keyOk_tri h1 (c, i, j) false
  rw [h2] at this
  exact this
theorem Tr.agree {w0 w : World} {g : Nat} {sl : Value} {s : ByteArray} {M rk rn : Nat} {a b : Cnt} (h : Tr w0 w g sl s M rk rn a b) : ∃ l1 l2, IsM triV natV w rn l1 ∧ IsM triV natV w rk l2 ∧ ((∀ p ∈ l1, (findL l2 p.1).getD 0 = p.2) → ∀ c i j, b c i j = a c i j ∨ b c i j = 0) := by
  obtain ⟨l1, h1, h2⟩ := h.nx
  obtain ⟨l2, h3, h4⟩ := h.fo.map
  refine ⟨l1, l2, h1, h3, fun hp c i j => ?_⟩
  rw [← h2, ← h4]
  cases hf : findL l1 (c, i, j) with
  | none => exact .inr rfl
  | some v => exact .inl (hp _ (findL_mem hf)).symm
theorem trees_fin {sw : Nat → Int} {L : Nat → Int} {rt : Nat → List Int} {n N M m j : Nat} {a b : Cnt} (H : Ok sw L rt N n) (hM : 0 < M) (hm : m ≤ 600) (ha : ∀ c x y, y ≤ N → a c x y = cA M sw L rt n m c x y) (hb : ∀ c x y, b c x y = nx M sw L rt n N a (N + 1) j 0 c x y) (hag : ∀ c x y, b c x y = a c x y ∨ b c x y = 0) (c : Int) (x y : Nat) (hy : y ≤ N) : a c x y = cA M sw L rt n 600 c x y := by
  have key : ∀ c x y, y ≤ N → cA M sw L rt n (m + 1) c x y = cA M sw L rt n m c x y := fun c x y hy => by
    have h1 := nx_cA hM H ha (j := j) c x y hy
    rw [← hb] at h1
    have h2 := cA_up (M := M) (sw := sw) (L := L) (rt := rt) (n := n) m c x y
    rcases hag c x y with h3 | h3
    · rw [← h1, h3, ha c x y hy]
    · omega
  have := cA_stands hM key (600 - m) c x y hy
  rw [show m + (600 - m) = 600 by omega] at this
  rw [ha c x y hy, this]
theorem wrap_add {v z p : Nat} (hv : v ≤ 101) (hz : z ≤ 101) (hp : v + z = p) : wrap64 ((v : Int) + (z : Int)) = (p : Int) := by
  have e : (v : Int) + (z : Int) = (p : Int) := by rw [← hp]; simp
  rw [e, wrap_small (by omega) (by omega)]
theorem wrap_addk {v z p : Nat} (hv : v ≤ 101) (hz : z ≤ 101) (hp : v + z = p) : IntKind.i64.wrap ((v : Int) + (z : Int)) = (p : Int) := by
  have e : (v : Int) + (z : Int) = (p : Int) := by rw [← hp]; simp
  rw [e]
  exact i64_nat (Nat.lt_of_le_of_lt (show p ≤ 202 by omega) (by decide))
theorem min_cast (p M : Nat) : min (p : Int) (M : Int) = ((min p M : Nat) : Int) := by omega
theorem key_new (w : World) (a b c : Value) : (w.alloc (.cells #[a, b, c] 139)).heap[w.heap.size]? = some (.cells #[a, b, c] 139 (0, 0)) := blk_new w _
set_option maxHeartbeats 16000000 in
set_option maxRecDepth 100000 in
theorem trees_calls (A : Option Addr) (n c : Nat) (L : Nat → Int) (R : Nat → ByteArray) (s : ByteArray) (M : Nat) (w : World) (hA : Sr w A n c L R) (hg : Gr L R n) (hs8 : s.size ≤ 8) (hM : 0 < M ∧ M ≤ 101) :
    Calls Tryd.prog 66 #[.slice A n c, .string s, .int .i64 (M : Nat)] w fun e w' => e = .returned (.int .i64 (treesN M L R n s : Nat)) ∧ Below w.heap.size w w' := by
  obtain ⟨b, off, rfl, hnc, hP⟩ := hA.open hg.n1
  have HP := Lib.hid hP
  have HG := Lib.hid hg
  have hn8 := hg.n8
  have hn1 := hg.n1
  have HOK : Hid (Ok (ch s) L (fun k => lst (R k)) s.size n) := Lib.hid (Gs.Ok ⟨hg.ok, hs8⟩)
  have HM := Lib.hid hM
  clear hA hP hg
  obtain ⟨X, hT⟩ : ∃ X, treesN M L R n s = X := ⟨_, rfl⟩
  have HT : Hid (cA M (ch s) L (fun k => lst (R k)) n 600 (L 0) 0 s.size = X) := Lib.hid hT
  rw [hT]
  clear hT
  obtain ⟨rt, hrt⟩ : ∃ rt, (fun k => lst (R k)) = rt := ⟨_, rfl⟩
  rw [hrt] at HT HOK
  have HRT := Lib.hid (show ∀ k, rt k = lst (R k) from fun k => by rw [← hrt])
  clear hrt
  go_enter Tryd.func66, Tryd.ntmps66
  go_wp2_with (first | ((with_reducible refine gate_op (op := .makeMap 136 none) rfl ?_); refine map_make_event rfl 136 rfl ?_; intro rk wm hrk hmk hbk; have HMK := Lib.hid hmk; have HBK := Lib.hid hbk; have HRK := Lib.hid hrk; clear hmk hbk hrk) | ((with_reducible refine gate_dst (N := 19) rfl ?_); refine box_event ?hg (N := 19) ?hd (cs := #[.slice (some ⟨b, off, none⟩) n c, .string s, .int .i64 (M : Nat), .map (some rk)]) (t := 138) ?hr ?_; (case hd => rfl); (case hg => rfl); (case hr => first | (go_simp; done) | (go_simp; rfl)); intro gw hgw wb hbw hbb; have HBX := Lib.hid hbw; have HGW := Lib.hid hgw; have HB0 := Lib.hid (hbb); clear hgw hbw hbb))
  have HB := Lib.hid (below_step HBK.out HB0.out)
  have HFO : Hid (Fo wb gw (.slice (some ⟨b, off, none⟩) n c) s M rk fun _ _ _ => 0) := Lib.hid ⟨HBX.out, by
    have h1 : wb.heap[rk]? = some (.map #[] 0) := (HB0.out.block _ (Array.getElem?_eq_some_iff.1 HMK.out).1).trans HMK.out
    exact ⟨[], ⟨#[], 0, h1, rfl, Go.MapKept.stamped_empty 0⟩, fun _ _ _ => rfl⟩⟩
  have HG2 : Hid (w.heap.size ≤ gw) := Lib.hid (by rw [HGW.out]; exact HBK.out.size)
  have HK2 : Hid (w.heap.size ≤ rk) := Lib.hid (Nat.le_of_eq HRK.out.symm)
  clear HMK HBK HRK HBX HGW HB0
  obtain ⟨sl, hsl⟩ : ∃ sl, Value.slice (some ⟨b, off, none⟩) n c = sl := ⟨_, rfl⟩
  rw [hsl] at HFO
  clear hsl
  go_wp2_with fail
  go_loopw [20] (fun i wr => ∃ (m rk : Nat) (a : Cnt), m ≤ 600 ∧ i = .int .i64 m ∧ Hid (∀ c x y, y ≤ s.size → a c x y = cA M (ch s) L rt n m c x y) ∧ Hid (∀ c x y, a c x y ≤ M) ∧ Hid (Fo wr gw sl s M rk a) ∧ Hid (Below w.heap.size w wr) ∧ Hid (w.heap.size ≤ rk)) (fun i _ => 600 - (intOf i).toNat)
  case atStart => exact ⟨0, rk, _, by omega, rfl, Lib.hid (fun c x y _ => by simp [cA, T.A]), Lib.hid (fun _ _ _ => Nat.zero_le _), HFO, HB, HK2⟩
  case round =>
    clear HFO HB HK2
    obtain ⟨m, rk, a, hm, rfl, HA, HAM, HFO, HB, HK2⟩ := hrel
    by_cases hlt : m < 600
    · have hltI : (m : Int) < 600 := by omega
      go_wp2_with (first | ((with_reducible refine gate_op (op := .makeMap 136 none) rfl ?_); refine map_make_event rfl 136 rfl ?_; intro rn wm hrn hmn hbn; have HMN := Lib.hid hmn; have HBN := Lib.hid hbn; have HRN := Lib.hid hrn; clear hmn hbn hrn))
      have HTR : Hid (Tr w wm gw sl s M rk rn a fun _ _ _ => 0) := Lib.hid ⟨HFO.out.later HBN.out, by rw [HRN.out]; rw [HRN.out] at HMN; exact MapC.new HMN.out, HB.out.trans (HBN.out.mono HB.out.size), HG2.out, HK2.out, by rw [HRN.out]; exact HB.out.size, by
        obtain ⟨l, h1, _⟩ := HFO.out.map
        have := h1.lt
        have := HRN.out
        omega⟩
      have HTS := Lib.hid (HTR.out.congr (b' := nx M (ch s) L rt n s.size a 0 0 0) (fun c x y => (nx_start c x y).symm))
      clear HFO HB HMN HBN HRN HTR
      go_wp2_with fail
      go_loopw [26] (fun i wr => ∃ x : Nat, x ≤ s.size + 1 ∧ i = .int .i64 x ∧ Hid (Tr w wr gw sl s M rk rn a (nx M (ch s) L rt n s.size a x x 0))) (fun i _ => s.size + 1 - (intOf i).toNat)
      case atStart => exact ⟨0, by omega, rfl, HTS⟩
      case round =>
        clear HTS
        obtain ⟨x, hx, rfl, HTS⟩ := hrel
        by_cases hxl : x < s.size + 1
        · have hxI : (x : Int) < (s.size : Int) + 1 := by omega
          go_wp2_with fail
          go_loopw [10] (fun j wr => ∃ y : Nat, x ≤ y ∧ y ≤ s.size + 1 ∧ j = .int .i64 y ∧ Hid (Tr w wr gw sl s M rk rn a (nx M (ch s) L rt n s.size a x y 0))) (fun j _ => s.size + 1 - (intOf j).toNat)
          case atStart => exact ⟨x, by omega, by omega, rfl, HTS⟩
          case round =>
            clear HTS
            obtain ⟨y, hxy, hy, rfl, HTS⟩ := hrel
            by_cases hyl : y ≤ s.size
            · have hyI : (y : Int) ≤ (s.size : Int) := by omega
              go_wp2_with fail
              go_loopw [38] (fun i wr => ∃ k : Nat, k ≤ n ∧ i = .int .i64 k ∧ Hid (Tr w wr gw sl s M rk rn a (nx M (ch s) L rt n s.size a x y k))) (fun i _ => n - (intOf i).toNat)
              case atStart => exact ⟨0, by omega, rfl, HTS⟩
              case round =>
                clear HTS
                obtain ⟨k, hk, rfl, HTS⟩ := hrel
                by_cases hkn : k < n
                · have hkI : (k : Int) < (n : Int) := by omega
                  have c0 := (HP.out.later HTS.out.bl).c0 k hkn
                  have c1 := (HP.out.later HTS.out.bl).c1 k hkn
                  have hkc : k < c := by omega
                  obtain ⟨l, hl⟩ : ∃ l, L k = l := ⟨_, rfl⟩
                  obtain ⟨q, hq⟩ : ∃ q, R k = q := ⟨_, rfl⟩
                  have hlp : isP l = true := by rw [← hl]; exact (HG.out.ok k hkn).1
                  have hl5 := isP_iff.1 hlp
                  have HQ : Hid (okR q ∧ q.size ≤ 4) := Lib.hid (by rw [← hq]; exact ⟨(HG.out.ok k hkn).2, HG.out.sz k hkn⟩)
                  have HLR : Hid (L k = l ∧ rt k = lst q) := Lib.hid ⟨hl, by rw [HRT.out, hq]⟩
                  rw [hl] at c0
                  rw [hq] at c1
                  have hwl : IntKind.i64.wrap l = l := by rw [IntKind.wrap_i64]; omega
                  clear hl hq hlp
                  go_upto_region 15 with fail
                  obtain ⟨d0, d1⟩ := rule_new wr 60 l q
                  have hbA := below_one (w := wr) (.cells #[.int .u8 l, .string q] 60)
                  obtain ⟨wa, hwa⟩ : ∃ wa, wa = wr.alloc (.cells #[.int .u8 l, .string q] 60) := ⟨_, rfl⟩
                  have hza : wa.heap.size = wr.heap.size + 1 := by rw [hwa]; simp
                  rw [← hwa] at d0 d1 hbA ⊢
                  have hkb := key_new wa (.int .i64 l) (.int .i64 (x : Nat)) (.int .i64 (y : Nat))
                  have hbB := below_one (w := wa) (.cells #[.int .i64 l, .int .i64 (x : Nat), .int .i64 (y : Nat)] 139)
                  obtain ⟨wb, hwb⟩ : ∃ wb, wb = wa.alloc (.cells #[.int .i64 l, .int .i64 (x : Nat), .int .i64 (y : Nat)] 139) := ⟨_, rfl⟩
                  rw [← hwb] at hkb hbB ⊢
                  rw [hza] at hkb
                  have hbb := hbA.trans (hbB.mono (by omega))
                  have HTB := Lib.hid (HTS.out.later hbb)
                  have HKB := Lib.hid hkb
                  have q0 := (blk_cell hkb 0).trans rfl
                  have q1 := (blk_cell hkb 1).trans rfl
                  have q2 := (blk_cell hkb 2).trans rfl
                  have HD1 : Hid (wb.cell? ⟨wr.heap.size, 1, none⟩ = some (.string q)) := Lib.hid ((hbB.cell (p := ⟨wr.heap.size, 1, none⟩) (by rw [hza]; exact Nat.lt_succ_self _)).trans d1)
                  generalize wr.heap.size = G at HD1 HKB q0 q1 q2 ⊢
                  clear hwa hwb hkb hbA hbB hbb hza d0 d1 c0 c1 HTS
                  obtain ⟨v, hv⟩ : ∃ v, nx M (ch s) L rt n s.size a x y k l x y = v := ⟨_, rfl⟩
                  have hvM : v ≤ M := by rw [← hv]; exact nx_le _ _ _
                  have HV := Lib.hid hv
                  have lk := (HTB.out.later (Below.refl _ _).drew).look l x y
                  rw [hv] at lk
                  clear hv
                  obtain ⟨z, hz⟩ : ∃ z, cW M (ch s) a (lst q) x y = z := ⟨_, rfl⟩
                  have hzM : z ≤ M := by rw [← hz]; exact cW_le HM.out.1 _ _ _
                  have HZ := Lib.hid hz
                  clear hz
                  refine start_ (n := 15) (S := fun w' => w'.cell? ⟨G + 1, 0, none⟩ = some (.int .i64 l) ∧ w'.cell? ⟨G + 1, 1, none⟩ = some (.int .i64 (x : Nat)) ∧ w'.cell? ⟨G + 1, 2, none⟩ = some (.int .i64 (y : Nat)) ∧ w'.cell? ⟨G, 1, none⟩ = some (.string q) ∧ (Instr.lookup 136 (.map (some rn)) (.agg #[.int .i64 l, .int .i64 (x : Nat), .int .i64 (y : Nat)]) false).run Tryd.prog w' = .ok (.int .i64 (v : Nat)) w') (ds := [14]) #[false, false, false, false, false, false, false, false, false, false, false, false, false, false, false] (by kernel_rfl) rfl rfl ⟨q0, q1, q2, HD1.out, lk⟩ (fun hHeld => ?_)
                  refine pure_ (i := 0) (N := (some 48)) (v := ?_) (a' := ?_) #[true, false, false, false, false, false, false, false, false, false, false, false, false, false, false] rfl rfl (by kernel_rfl) (fun _ _ _ h => h) (Or.inl ⟨by rfl, ?_⟩) ?_ ?_
                  rotate_left
                  · intro w'; go_simp; first | done | with_reducible rfl
                  rotate_left
                  · simp only [Act.put, List.setIfInBounds_toArray, List.set_cons_zero, List.set_cons_succ, i64_w, i32_w]; rfl
                  refine take_ (i := 1) (N := (some 49)) (v := ?_) (a' := ?_) #[true, true, false, false, false, false, false, false, false, false, false, false, false, false, false] rfl rfl (by kernel_rfl) (fun _ _ _ h => h) (Or.inl ⟨by rfl, ?_⟩) hHeld ?_ ?_
                  rotate_left
                  · rintro w' ⟨s0, s1, s2, s3, s4⟩; go_simp; first | done | with_reducible rfl
                  rotate_left
                  · simp only [Act.put, List.setIfInBounds_toArray, List.set_cons_zero, List.set_cons_succ, i64_w, i32_w]; rfl
                  refine pure_ (i := 2) (N := (some 50)) (v := ?_) (a' := ?_) #[true, true, true, false, false, false, false, false, false, false, false, false, false, false, false] rfl rfl (by kernel_rfl) (fun _ _ _ h => h) (Or.inl ⟨by rfl, ?_⟩) ?_ ?_
                  rotate_left
                  · intro w'; go_simp; first | done | with_reducible rfl
                  rotate_left
                  · simp only [Act.put, List.setIfInBounds_toArray, List.set_cons_zero, List.set_cons_succ, i64_w, i32_w]; rfl
                  refine take_ (i := 3) (N := (some 51)) (v := ?_) (a' := ?_) #[true, true, true, true, false, false, false, false, false, false, false, false, false, false, false] rfl rfl (by kernel_rfl) (fun _ _ _ h => h) (Or.inl ⟨by rfl, ?_⟩) hHeld ?_ ?_
                  rotate_left
                  · rintro w' ⟨s0, s1, s2, s3, s4⟩; go_simp; first | done | with_reducible rfl
                  rotate_left
                  · simp only [Act.put, List.setIfInBounds_toArray, List.set_cons_zero, List.set_cons_succ, i64_w, i32_w]; rfl
                  refine take_ (i := 4) (N := (some 52)) (v := ?_) (a' := ?_) #[true, true, true, true, true, false, false, false, false, false, false, false, false, false, false] rfl rfl (by kernel_rfl) (fun _ _ _ h => h) (Or.inl ⟨by rfl, ?_⟩) hHeld ?_ ?_
                  rotate_left
                  · rintro w' ⟨s0, s1, s2, s3, s4⟩; go_simp; first | done | with_reducible rfl
                  rotate_left
                  · simp only [Act.put, List.setIfInBounds_toArray, List.set_cons_zero, List.set_cons_succ, i64_w, i32_w]; rfl
                  refine pure_ (i := 5) (N := (some 53)) (v := ?_) (a' := ?_) #[true, true, true, true, true, true, false, false, false, false, false, false, false, false, false] rfl rfl (by kernel_rfl) (fun _ _ _ h => h) (Or.inl ⟨by rfl, ?_⟩) ?_ ?_
                  rotate_left
                  · intro w'; go_simp; first | done | with_reducible rfl
                  rotate_left
                  · simp only [Act.put, List.setIfInBounds_toArray, List.set_cons_zero, List.set_cons_succ, i64_w, i32_w]; rfl
                  refine pure_ (i := 6) (N := (some 54)) (v := ?_) (a' := ?_) #[true, true, true, true, true, true, true, false, false, false, false, false, false, false, false] rfl rfl (by kernel_rfl) (fun _ _ _ h => h) (Or.inl ⟨by rfl, ?_⟩) ?_ ?_
                  rotate_left
                  · intro w'; go_simp; first | done | with_reducible rfl
                  rotate_left
                  · simp only [Act.put, List.setIfInBounds_toArray, List.set_cons_zero, List.set_cons_succ, i64_w, i32_w]; rfl
                  refine take_ (i := 7) (N := (some 55)) (v := ?_) (a' := ?_) #[true, true, true, true, true, true, true, true, false, false, false, false, false, false, false] rfl rfl (by kernel_rfl) (fun _ _ _ h => h) (Or.inl ⟨by rfl, ?_⟩) hHeld ?_ ?_
                  rotate_left
                  · rintro w' ⟨s0, s1, s2, s3, s4⟩; go_simp; first | done | with_reducible rfl
                  rotate_left
                  · simp only [Act.put, List.setIfInBounds_toArray, List.set_cons_zero, List.set_cons_succ, i64_w, i32_w]; rfl
                  refine pure_ (i := 8) (N := (some 56)) (v := ?_) (a' := ?_) #[true, true, true, true, true, true, true, true, true, false, false, false, false, false, false] rfl rfl (by kernel_rfl) (fun _ _ _ h => h) (Or.inl ⟨by rfl, ?_⟩) ?_ ?_
                  rotate_left
                  · intro w'; go_simp; first | done | with_reducible rfl
                  rotate_left
                  · simp only [Act.put, List.setIfInBounds_toArray, List.set_cons_zero, List.set_cons_succ, i64_w, i32_w]; rfl
                  refine pure_ (i := 9) (N := (some 57)) (v := ?_) (a' := ?_) #[true, true, true, true, true, true, true, true, true, true, false, false, false, false, false] rfl rfl (by kernel_rfl) (fun _ _ _ h => h) (Or.inl ⟨by rfl, ?_⟩) ?_ ?_
                  rotate_left
                  · intro w'; go_simp; first | done | with_reducible rfl
                  rotate_left
                  · simp only [Act.put, List.setIfInBounds_toArray, List.set_cons_zero, List.set_cons_succ, i64_w, i32_w]; rfl
                  refine pure_ (i := 12) (N := (some 60)) (v := ?_) (a' := ?_) #[true, true, true, true, true, true, true, true, true, true, false, false, true, false, false] rfl rfl (by kernel_rfl) (fun _ _ _ h => h) (Or.inl ⟨by rfl, ?_⟩) ?_ ?_
                  rotate_left
                  · intro w'; go_simp; first | done | with_reducible rfl
                  rotate_left
                  · simp only [Act.put, List.setIfInBounds_toArray, List.set_cons_zero, List.set_cons_succ, i64_w, i32_w]; rfl
                  refine one_ (i := 10) (N := (some 58)) #[true, true, true, true, true, true, true, true, true, true, true, false, true, false, false] rfl rfl (by kernel_rfl) (by decide) (fun K hK => ?_)
                  refine goes_ Tryd.func99 (by kernel_rfl) rfl #[.pointer (some ⟨gw, 0, none⟩), .string q, .int .i64 x, .int .i64 y] (by rfl) rfl rfl (by (try simp only [List.map_toArray, List.map_cons, List.map_nil]); first | done | rfl) ?_
                  refine (ways_calls HM.out HAM.out hs8 q.size HQ.out.2 q x y _ rfl HQ.out.1 (by omega) (by omega) (HTB.out.fo.later (Below.refl _ _).drew)).mono ?_
                  rintro e w2 ⟨rfl, hb2⟩
                  refine ⟨_, rfl, ?_⟩
                  rw [HZ.out]
                  have hbd := (Below.refl wb.heap.size wb).drew.trans hb2
                  have HT2 := Lib.hid (HTB.out.later hbd)
                  have hk2 := (hbd.block _ (Array.getElem?_eq_some_iff.1 HKB.out).1).trans HKB.out
                  have r0 := (blk_cell hk2 0).trans rfl
                  have r1 := (blk_cell hk2 1).trans rfl
                  have r2 := (blk_cell hk2 2).trans rfl
                  have hd1 := (hbd.cell (p := ⟨G, 1, none⟩) (World.block_lt_of_cell? _ _ HD1.out)).trans HD1.out
                  have lk2 := HT2.out.look l x y
                  rw [HV.out] at lk2
                  clear hb2 hbd
                  obtain ⟨p, hp⟩ : ∃ p, v + z = p := ⟨_, rfl⟩
                  have hv1 : v ≤ 101 := Nat.le_trans hvM HM.out.2
                  have hz1 : z ≤ 101 := Nat.le_trans hzM HM.out.2
                  have hwp := wrap_add hv1 hz1 hp
                  have hwq := wrap_addk hv1 hz1 hp
                  have hmc := min_cast p M
                  obtain ⟨m2, hm2⟩ : ∃ m2, min p M = m2 := ⟨_, rfl⟩
                  rw [hm2] at hmc
                  obtain ⟨w3, hrun, ht3⟩ := HT2.out.put (b' := nx M (ch s) L rt n s.size a x y (k + 1)) l x y m2 (fun c' i' j' => by rw [nx_rule hxy hyl, HLR.out.1, HLR.out.2, HV.out, HZ.out, hp, hm2])
                  have HT3 := Lib.hid ht3
                  unfold triV natV at hrun
                  clear hp hm2 ht3 q0 q1 q2 lk
                  refine hK.out _ _ ⟨r0, r1, r2, hd1, lk2⟩ (fun hHeld => ?_)
                  clear hK K
                  refine norm_ (a' := ?_) ?_ ?_
                  rotate_left
                  · show Act.put _ (some 58) _ = _; simp only [Act.put, List.setIfInBounds_toArray, List.set_cons_zero, List.set_cons_succ, i64_w, i32_w]; rfl
                  refine pure_ (i := 11) (N := (some 59)) (v := (.int .i64 (p : Nat))) (a' := ?_) #[true, true, true, true, true, true, true, true, true, true, true, true, true, false, false] rfl rfl (by kernel_rfl) (fun _ _ _ h => h) (Or.inl ⟨by rfl, ?_⟩) ?_ ?_
                  · intro w'; go_simp; first | done | with_reducible rfl
                  rotate_left
                  · simp only [Act.put, List.setIfInBounds_toArray, List.set_cons_zero, List.set_cons_succ, i64_w, i32_w]; rfl
                  refine pure_ (i := 13) (N := (some 61)) (v := (.int .i64 (m2 : Nat))) (a' := ?_) #[true, true, true, true, true, true, true, true, true, true, true, true, true, true, false] rfl rfl (by kernel_rfl) (fun _ _ _ h => h) (Or.inl ⟨by rfl, ?_⟩) ?_ ?_
                  · intro w'; go_simp; first | done | with_reducible rfl
                  rotate_left
                  · simp only [Act.put, List.setIfInBounds_toArray, List.set_cons_zero, List.set_cons_succ, i64_w, i32_w]; rfl
                  refine last_ (i := 14) (N := none) #[true, true, true, true, true, true, true, true, true, true, true, true, true, true, true] rfl rfl (by kernel_rfl) (by decide) (fun K hK => ?_)
                  refine skip_step (w1 := w3) (by rfl) (by go_simp) ?_
                  refine hK.out _ _ ?_
                  clear hK K
                  refine norm_ (a' := ?_) ?_ ?_
                  rotate_left
                  · show Act.put _ none _ = _; simp only [Act.put, List.setIfInBounds_toArray, List.set_cons_zero, List.set_cons_succ, i64_w, i32_w]; rfl
                  refine done_ (by kernel_rfl) ?_
                  clear hrun r0 r1 r2 hd1 lk2 hHeld hmc hwp hwq
                  go_wp2_with fail
                  refine ⟨⟨k + 1, by omega, by go_num, HT3⟩, by simp [intOf]; omega⟩
                · obtain rfl : k = n := by omega
                  go_wp2_with fail
                  refine ⟨⟨y + 1, by omega, by omega, by go_num, Lib.hid (HTS.out.congr fun c x y => nx_piece c x y)⟩, by simp [intOf]; omega⟩
            · obtain rfl : y = s.size + 1 := by omega
              have hyI : ¬ ((s.size + 1 : Nat) : Int) ≤ (s.size : Int) := by omega
              go_wp2_with fail
              refine ⟨⟨x + 1, by omega, by go_num, Lib.hid (HTS.out.congr fun c x y => nx_row c x y)⟩, by simp [intOf]; omega⟩
        · obtain rfl : x = s.size + 1 := by omega
          have hxI : ¬ ((s.size + 1 : Nat) : Int) < (s.size : Int) + 1 := by omega
          obtain ⟨l1, l2, h1, h2, hag⟩ := HTS.out.agree
          have HS := Lib.hid (same_calls h1 h2)
          have HAG := Lib.hid hag
          clear h1 h2 hag
          have f3 := HTS.out.fo.c3
          go_wp2_with fail
          refine HS.out.mono ?_
          rintro e w2 ⟨⟨bb, rfl, hbb⟩, hb2⟩
          have HTQ := Lib.hid (HTS.out.later hb2)
          have HBB := Lib.hid hbb
          clear hbb hb2 f3 HTS HS
          cases bb with
          | true =>
            have HFIN := Lib.hid (trees_fin HOK.out HM.out.1 (by omega) HA.out (fun c x y => rfl) (HAG.out (HBB.out rfl)) (L 0) 0 s.size (Nat.le_refl _))
            have c0 := (HP.out.later HTQ.out.bl).c0 0 hn1
            have hl0 := isP_iff.1 (HG.out.ok 0 hn1).1
            have HX : Hid (a (L 0) 0 s.size = X) := Lib.hid (HFIN.out.trans HT.out)
            clear HFIN HT
            obtain ⟨l0, hl0e⟩ : ∃ l0, L 0 = l0 := ⟨_, rfl⟩
            rw [hl0e] at c0 hl0 HX
            clear hl0e
            have hc1 : 0 < c := by omega
            simp only [Nat.zero_mul, Nat.add_zero] at c0
            go_wp2_with fail
            refine (count_calls HTQ.out.fo l0 (by omega) 0 s.size).mono ?_
            rintro e w3 ⟨rfl, rfl⟩
            rw [HX.out]
            go_wp2
            go_ret
            exact ⟨rfl, HTQ.out.bl⟩
          | false =>
            have hn3 : w2.cell? ⟨gw, 3, none⟩ = some (.map (some rk)) := HTQ.out.fo.c3
            have hfz := blk_frozen HTQ.out.fo.blk 3
            obtain ⟨ht1, ht2⟩ := HTQ.out.turn
            have HT1 := Lib.hid ht1
            have HT2 := Lib.hid ht2
            have HHN := Lib.hid HTQ.out.hn
            clear ht1 ht2
            go_wp2_with fail
            refine ⟨⟨m + 1, rn, _, by omega, by go_num, Lib.hid (nx_cA HM.out.1 HOK.out HA.out), Lib.hid (fun c x y => nx_le c x y), HT1, HT2, HHN⟩, by simp [intOf]; omega⟩
    · obtain rfl : m = 600 := by omega
      have HX : Hid (a (L 0) 0 s.size = X) := Lib.hid ((HA.out _ _ _ (Nat.le_refl _)).trans HT.out)
      have c0 := (HP.out.later HB.out).c0 0 hn1
      have hl0 := isP_iff.1 (HG.out.ok 0 hn1).1
      clear HT
      obtain ⟨l0, hl0e⟩ : ∃ l0, L 0 = l0 := ⟨_, rfl⟩
      rw [hl0e] at c0 hl0 HX
      clear hl0e
      have hc1 : 0 < c := by omega
      simp only [Nat.zero_mul, Nat.add_zero] at c0
      go_wp2_with fail
      refine (count_calls HFO.out l0 (by omega) 0 s.size).mono ?_
      rintro e w3 ⟨rfl, rfl⟩
      rw [HX.out]
      go_wp2
      go_ret
      exact ⟨rfl, HB.out⟩
end Go.Proofs.YtjpfalanoifpbaaDoor.X
end

section
set_option linter.unusedVariables false
set_option linter.unusedSimpArgs false
namespace Go.Proofs.YtjpfalanoifpbaaDoor.X
open Go.RowKit Go.Proofs.YtjpfalanoifpbaaDoorW.PrintWords Go.Proofs.YtjpfalanoifpbaaDoorW.PrintLast Go.Proofs.YtjpfalanoifpbaaDoorW.PrintMore Go.Proofs.YtjpfalanoifpbaaDoor.T
def okS (s : ByteArray) : Prop := ∀ i, i < s.size → isD (ch s i) = true
def wordsC : List UInt8 := [97, 98, 99, 100]
theorem word_iff (x : UInt8) : wordsC.contains x = true ↔ isD (x.toNat : Int) = true := by
  rw [isD_iff]
  unfold wordsC
  simp only [List.contains_iff_mem, List.mem_cons, List.not_mem_nil, or_false]
  constructor
  · rintro (h | h | h | h) <;> rw [h] <;> decide
  · intro h
    have key : ∀ n : Nat, n < 256 → (97 ≤ (n : Int) ∧ (n : Int) ≤ 100) → n = 97 ∨ n = 98 ∨ n = 99 ∨ n = 100 := fun n _ _ => by omega
    have := key x.toNat x.toNat_lt h
    have hx : ∀ m : UInt8, x.toNat = m.toNat → x = m := fun m e => UInt8.toNat_inj.1 e
    rcases this with e | e | e | e
    · exact .inl (hx 97 e)
    · exact .inr (.inl (hx 98 e))
    · exact .inr (.inr (.inl (hx 99 e)))
    · exact .inr (.inr (.inr (hx 100 e)))
theorem trimD_ok (s : ByteArray) : Lib.trimS s.data.toList wordsC = [] ↔ okS s := by
  rw [trim_nil]
  unfold okS
  constructor
  · intro h i hi
    rw [← ch_at s i hi]
    exact (word_iff _).1 (h _ (by
      have : s[i]'hi = s.data.toList[i]'(by simpa using hi) := rfl
      rw [this]
      exact List.getElem_mem _))
  · intro h x hx
    obtain ⟨i, hi, e⟩ := List.getElem_of_mem hx
    have hs : i < s.size := by simpa using hi
    have := h i hs
    rw [← ch_at s i hs] at this
    have e2 : s[i]'hs = x := e
    rw [e2] at this
    exact (word_iff x).2 this
set_option maxHeartbeats 4000000 in
set_option maxRecDepth 100000 in
theorem isString_calls (s : ByteArray) (hs : s.size ≤ 9223372036854775807) (w : World) (r : Bool) (hr : r = true ↔ s.size ≤ 8 ∧ okS s) : Calls Tryd.prog 65 #[.string s] w fun e w' => e = .returned (.bool r) ∧ Below w.heap.size w w' := by
  have HTR := Lib.hid (fun w : World => Any.strings_Trim_laid Tryd.lays160 (by kernel_rfl) s ⟨#[97, 98, 99, 100]⟩ w (by omega) (by decide) (ascii_of_all (by decide)))
  by_cases h8 : s.size ≤ 8
  · have h8I : (s.size : Int) ≤ 8 := by omega
    cases ht : Lib.trimS s.data.toList [97, 98, 99, 100] with
    | nil =>
      have hrt : r = true := hr.2 ⟨h8, (trimD_ok s).1 ht⟩
      subst hrt
      have HT := Lib.hid ht
      clear ht hr
      go_enter Tryd.func65, Tryd.ntmps65
      go_wp2_with fail
      refine (HTR.out _).mono ?_
      rintro e w3 ⟨rfl, hb3⟩
      rw [HT.out]
      have HB := Lib.hid hb3
      clear hb3
      go_wp2
      go_ret
      exact ⟨rfl, HB.out⟩
    | cons x t =>
      have hrt : r = false := by
        rw [Bool.eq_false_iff]
        intro h
        have := (trimD_ok s).2 (hr.1 h).2
        unfold wordsC at this
        rw [ht] at this
        cases this
      subst hrt
      have HT := Lib.hid ht
      clear ht hr
      go_enter Tryd.func65, Tryd.ntmps65
      go_wp2_with fail
      refine (HTR.out _).mono ?_
      rintro e w3 ⟨rfl, hb3⟩
      rw [HT.out]
      have HB := Lib.hid hb3
      clear hb3
      go_wp2
      go_ret
      exact ⟨rfl, HB.out⟩
  · have hrt : r = false := by
      rw [Bool.eq_false_iff]
      exact fun h => h8 (hr.1 h).1
    subst hrt
    have h8I : ¬ (s.size : Int) ≤ 8 := by omega
    clear hr
    go_enter Tryd.func65, Tryd.ntmps65
    go_wp2
    go_ret
    exact ⟨rfl, Below.refl _ _⟩
set_option maxHeartbeats 4000000 in
set_option maxRecDepth 100000 in
theorem rString_calls (s : ByteArray) (hs : s.size ≤ 9223372036854775807) (w : World) (r : Bool) (hr : r = true ↔ s.size ≤ 8 ∧ okS s) : Calls Tryd.prog 28 #[.string s] w fun e w' => e = .returned (.bool r) ∧ Below w.heap.size w w' := by
  have HR := Lib.hid hr
  clear hr
  go_enter Tryd.func28, Tryd.ntmps28
  go_wp2_with fail
  go_loopw [6] (fun i wr => ∃ k : Nat, k ≤ s.size ∧ i = .int .i64 k ∧ Hid (∀ j, j < k → isD (ch s j) = true) ∧ wr = w) (fun i _ => s.size - (intOf i).toNat)
  case atStart => exact ⟨0, by omega, rfl, Lib.hid (fun j hj => by omega), rfl⟩
  case round =>
    obtain ⟨k, hk, rfl, HW, rfl⟩ := hrel
    by_cases hlt : k < s.size
    · have hbt : (((s[k]'hlt).toNat : Nat) : Int) = ch s k := ch_at s k hlt
      obtain ⟨c, hcc⟩ : ∃ c, ch s k = c := ⟨_, rfl⟩
      rw [hcc] at hbt
      have HCC := Lib.hid hcc
      clear hcc
      go_wp2_with fail
      refine (word_calls c _).mono ?_
      rintro e w2 ⟨rfl, rfl⟩
      cases hd : isD c with
      | true =>
        have HD := Lib.hid hd
        clear hd
        go_wp2_with fail
        refine ⟨⟨k + 1, by omega, by go_num, Lib.hid (fun j hj => ?_), by trivial⟩, by simp [intOf]; omega⟩
        by_cases e : j = k
        · rw [e, HCC.out]
          exact HD.out
        · exact HW.out j (by omega)
      | false =>
        have hrt : r = false := by
          rw [Bool.eq_false_iff]
          intro h
          have := (HR.out.1 h).2 k hlt
          rw [HCC.out, hd] at this
          cases this
        subst hrt
        clear hd
        go_wp2
        go_ret
        exact ⟨rfl, Below.refl _ _⟩
    · obtain rfl : k = s.size := by omega
      by_cases h8 : s.size ≤ 8
      · have h8I : (s.size : Int) ≤ 8 := by omega
        have hrt : r = true := HR.out.2 ⟨h8, HW.out⟩
        subst hrt
        go_wp2
        go_ret
        exact ⟨rfl, Below.refl _ _⟩
      · have h8I : ¬ (s.size : Int) ≤ 8 := by omega
        have hrt : r = false := by
          rw [Bool.eq_false_iff]
          exact fun h => h8 (HR.out.1 h).1
        subst hrt
        go_wp2
        go_ret
        exact ⟨rfl, Below.refl _ _⟩
def Str (s : ByteArray) : Prop := s.size ≤ 8 ∧ okS s
set_option maxHeartbeats 4000000 in
set_option maxRecDepth 100000 in
theorem Trees_yes (A : Option Addr) (n c : Nat) (L : Nat → Int) (R : Nat → ByteArray) (s : ByteArray) (w : World) (hA : Sr w A n c L R) (hg : Gram L R n) (hs : Str s) :
    Calls Tryd.prog 26 #[.slice A n c, .string s] w fun e w' => e = .returned (.tuple #[.int .i64 (treesN 100 L R n s : Nat), .int .i64 0]) ∧ Below w.heap.size w w' := by
  have HA := Lib.hid hA
  have HG := Lib.hid hg
  have h8 := hg.1.2
  have h4 : ∀ k, k < n → (R k).size ≤ 1000 := fun k hk => Nat.le_trans (hg.2 k hk).sz (by decide)
  have HV := Lib.hid fun (w : World) (h : Sr w A n c L R) => valid_calls A n c L R w h (by omega) h4 true (by simp [hg])
  have hs8 := hs.1
  have HI := Lib.hid fun (w : World) => isString_calls s (by omega) w true ⟨fun _ => hs, fun _ => rfl⟩
  clear hA hg h4 hs
  go_enter Tryd.func26, Tryd.ntmps26
  go_wp2_with fail
  refine (HV.out w HA.out).mono ?_
  rintro e w1 ⟨rfl, hb1⟩
  have HB := Lib.hid hb1
  clear hb1
  go_wp2_with fail
  refine (HI.out w1).mono ?_
  rintro e w2 ⟨rfl, hb2⟩
  have HB2 := Lib.hid (HB.out.trans (hb2.mono HB.out.size))
  clear hb2 HB
  go_wp2_with fail
  refine (trees_calls A n c L R s 100 w2 (HA.out.later HB2.out) HG.out.gr hs8 (by decide)).mono ?_
  rintro e w3 ⟨rfl, hb3⟩
  have HB3 := Lib.hid (HB2.out.trans (hb3.mono HB2.out.size))
  clear hb3 HB2
  go_wp2
  go_ret2
  exact ⟨rfl, HB3.out⟩
end Go.Proofs.YtjpfalanoifpbaaDoor.X
end

section
set_option linter.unusedVariables false
set_option linter.unusedSimpArgs false
namespace Go.Proofs.YtjpfalanoifpbaaDoor.X
open Go.RowKit Go.Proofs.YtjpfalanoifpbaaDoorW.PrintWords Go.Proofs.YtjpfalanoifpbaaDoorW.PrintLast Go.Proofs.YtjpfalanoifpbaaDoorW.PrintMore Go.Proofs.YtjpfalanoifpbaaDoor.T
def Tab (w : World) (g : Nat) (F : Nat → Nat → Nat → Nat) : Prop := w.heap[g]? = some (.cells (c405 natV F) 97 (0, 0))
theorem Tab.later {w w' : World} {g : Nat} {F : Nat → Nat → Nat → Nat} (h : Tab w g F) (hb : Below w.heap.size w w') : Tab w' g F :=
  (hb.block _ (Array.getElem?_eq_some_iff.1 h).1).trans h
theorem Tab.at {w : World} {g : Nat} {F : Nat → Nat → Nat → Nat} (h : Tab w g F) {p i j : Nat} (hp : p < 5) (hi : i < 9) (hj : j < 9) : w.cell? ⟨g, p * 81 + i * 9 + j, none⟩ = some (.int .i64 (F p i j : Nat)) := by
  rw [blk_cell h]
  exact c405_at natV F hp hi hj
end Go.Proofs.YtjpfalanoifpbaaDoor.X
end

section
set_option linter.unusedVariables false
set_option linter.unusedSimpArgs false
namespace Go.Proofs.YtjpfalanoifpbaaDoor.X
open Go.RowKit Go.Proofs.YtjpfalanoifpbaaDoorW.PrintWords Go.Proofs.YtjpfalanoifpbaaDoorW.PrintLast Go.Proofs.YtjpfalanoifpbaaDoorW.PrintMore Go.Proofs.YtjpfalanoifpbaaDoor.T
structure Rt (w0 w : World) (g h : Nat) (F G : Nat → Nat → Nat → Nat) : Prop where
  t : Tab w g F
  n : Tab w h G
  bl : Below w0.heap.size w0 w
  hg : w0.heap.size ≤ g
  hh : w0.heap.size ≤ h
  ne : g ≠ h
theorem Rt.later {w0 w w' : World} {g h : Nat} {F G : Nat → Nat → Nat → Nat} (r : Rt w0 w g h F G) (hb : Below w.heap.size w w') : Rt w0 w' g h F G :=
  ⟨r.t.later hb, r.n.later hb, r.bl.trans (hb.mono r.bl.size), r.hg, r.hh, r.ne⟩
end Go.Proofs.YtjpfalanoifpbaaDoor.X
end

section
set_option linter.unusedVariables false
set_option linter.unusedSimpArgs false
namespace Go.Proofs.YtjpfalanoifpbaaDoor.X
open Go.RowKit Go.Proofs.YtjpfalanoifpbaaDoorW.PrintWords Go.Proofs.YtjpfalanoifpbaaDoorW.PrintLast Go.Proofs.YtjpfalanoifpbaaDoorW.PrintMore Go.Proofs.YtjpfalanoifpbaaDoor.T
theorem cut12_1000 (s : ByteArray) : (cut12 s).size ≤ 1000 := by
  rw [cut12_size]
  have := mnN_le s.size 12
  omega
end Go.Proofs.YtjpfalanoifpbaaDoor.X
end

section
set_option linter.unusedVariables false
namespace Go.Proofs.YtjpfalanoifpbaaDoor.T
def wrd : Nat → ByteArray
  | 0 => ⟨#[97]⟩
  | 1 => ⟨#[98]⟩
  | 2 => ⟨#[99]⟩
  | _ => ⟨#[100]⟩
def kidsTo (s : ByteArray) (c : Nat) : List ByteArray := (List.range c).map fun j => s ++ wrd j
def kids (s : ByteArray) : List ByteArray := kidsTo s 4
def lev : Nat → List ByteArray
  | 0 => [ByteArray.empty]
  | k + 1 => (lev k).flatMap kids
def allL (n : Nat) : List ByteArray := (List.range n).flatMap lev
theorem kidsTo_succ (s : ByteArray) (c : Nat) : kidsTo s (c + 1) = kidsTo s c ++ [s ++ wrd c] := by
  unfold kidsTo
  rw [List.range_succ, List.map_append]
  rfl
theorem kids_length (s : ByteArray) : (kids s).length = 4 := by simp [kids, kidsTo]
theorem kidsTo_length (s : ByteArray) (c : Nat) : (kidsTo s c).length = c := by simp [kidsTo]
theorem flatKids_length : ∀ l : List ByteArray, (l.flatMap kids).length = 4 * l.length
  | [] => rfl
  | a :: l => by
    rw [List.flatMap_cons, List.length_append, kids_length, flatKids_length l, List.length_cons]
    omega
theorem lev_length : ∀ k, (lev k).length = 4 ^ k
  | 0 => rfl
  | k + 1 => by
    rw [lev, flatKids_length, lev_length k, Nat.pow_succ]
    omega
theorem lev_le {k : Nat} (h : k ≤ 5) : (lev k).length ≤ 1024 := by
  rw [lev_length]
  exact Nat.pow_le_pow_right (by decide) h
theorem allL_succ (n : Nat) : allL (n + 1) = allL n ++ lev n := by
  unfold allL
  rw [List.range_succ, List.flatMap_append]
  simp
theorem allL_le : ∀ {n}, n ≤ 6 → (allL n).length ≤ n * 1024
  | 0, _ => by simp [allL]
  | n + 1, h => by
    have := allL_le (n := n) (by omega)
    have := lev_le (k := n) (by omega)
    rw [allL_succ, List.length_append]
    omega
theorem wrd_size (j : Nat) : (wrd j).size = 1 := by
  unfold wrd
  split <;> rfl
theorem kids_mem {s x : ByteArray} (h : x ∈ kids s) : ∃ j, j < 4 ∧ x = s ++ wrd j := by
  unfold kids kidsTo at h
  obtain ⟨j, hj, rfl⟩ := List.mem_map.1 h
  exact ⟨j, List.mem_range.1 hj, rfl⟩
theorem lev_size : ∀ {k : Nat} {s : ByteArray}, s ∈ lev k → s.size = k
  | 0, s, h => by
    rw [lev, List.mem_singleton] at h
    rw [h]
    rfl
  | k + 1, s, h => by
    rw [lev, List.mem_flatMap] at h
    obtain ⟨x, hx, hs⟩ := h
    obtain ⟨j, -, rfl⟩ := kids_mem hs
    rw [ByteArray.size_append, lev_size hx, wrd_size]
theorem allL_size {n : Nat} {s : ByteArray} (h : s ∈ allL n) : s.size < n := by
  unfold allL at h
  rw [List.mem_flatMap] at h
  obtain ⟨k, hk, hs⟩ := h
  rw [lev_size hs]
  exact List.mem_range.1 hk
theorem take_succ_of {α : Type} {l : List α} {i : Nat} {x : α} (h : l[i]? = some x) : l.take (i + 1) = l.take i ++ [x] := by
  rw [List.take_add_one, h]
  rfl
theorem treesN_pos (L : Nat → Int) (R : Nat → ByteArray) (n : Nat) (s : ByteArray) : (0 < treesN 1 L R n s) ↔ 0 < treesN 100 L R n s := by
  unfold treesN
  omega
end Go.Proofs.YtjpfalanoifpbaaDoor.T
end

section
set_option linter.unusedVariables false
set_option linter.unusedSimpArgs false
namespace Go.Proofs.YtjpfalanoifpbaaDoor.X
open Go.RowKit Go.Proofs.YtjpfalanoifpbaaDoorW.PrintWords Go.Proofs.YtjpfalanoifpbaaDoorW.PrintLast Go.Proofs.YtjpfalanoifpbaaDoorW.PrintMore Go.Proofs.YtjpfalanoifpbaaDoor.T
structure Stp (B : Nat) (S : Nat → Prop) (w w' : World) : Prop where
  os : w'.os = w.os
  tape : w'.tape = w.tape
  output : w'.output = w.output
  size : w.heap.size ≤ w'.heap.size
  block : ∀ k, k < w.heap.size → (k < B ∨ S k) → w'.heap[k]? = w.heap[k]?
theorem Stp.refl (B : Nat) (S : Nat → Prop) (w : World) : Stp B S w w := ⟨rfl, rfl, rfl, Nat.le_refl _, fun _ _ _ => rfl⟩
theorem Stp.of_below {B : Nat} {S : Nat → Prop} {w w' : World} (h : Below w.heap.size w w') : Stp B S w w' := ⟨h.os, h.tape, h.output, h.size, fun k hk _ => h.block k hk⟩
theorem Stp.of_grown {B : Nat} {S : Nat → Prop} {w w' : World} {row : Option Nat} (h : w.grownBy w' row) (hr : ∀ k, row = some k → B ≤ k ∧ ¬ S k) : Stp B S w w' :=
  ⟨h.os, h.tape, h.output, h.size, fun k hk hs => h.block k hk (fun e => by
    have := hr k e.symm
    rcases hs with q | q
    · omega
    · exact this.2 q)⟩
structure Cbk (S : Nat → Prop) (w w' : World) : Prop where
  size : w.heap.size ≤ w'.heap.size
  block : ∀ k, k < w.heap.size → ¬ S k → w'.heap[k]? = w.heap[k]?
structure Cb (f : Nat) (lb : Array Value) (B most : Nat) (P : (Nat → Prop) → List ByteArray → World → Prop) (Q : List ByteArray → ByteArray → World → Prop) : Prop where
  eg : ∀ args w, (callFunc f args).run Tryd.prog w = .ok (.enter f args) w
  stab : ∀ S done w w', P S done w → Stp B S w w' → P S done w'
  lt : ∀ S done w, P S done w → ∀ k, S k → k < w.heap.size
  stop : ∀ done s w w', Q done s w → Below w.heap.size w w' → Q done s w'
  call : ∀ S done s w, P S done w → B ≤ w.heap.size → s.size ≤ most → done.length ≤ 100000 → Calls Tryd.prog f (#[.string s] ++ lb) w fun e w' => ∃ S' : Nat → Prop, (∀ k, S' k → S k ∨ w.heap.size ≤ k) ∧ Cbk S w w' ∧ ((e = .returned (.bool true) ∧ P S' (done ++ [s]) w') ∨ (e = .returned (.bool false) ∧ Q done s w'))
structure As (B : Nat) (P : (Nat → Prop) → List ByteArray → World → Prop) (S : Nat → Prop) (done : List ByteArray) (v4 : Value) (l : List ByteArray) (v5 : Value) (xs : List ByteArray) (w : World) : Prop where
  l4 : Kd.R Kd.string 9 w B (fun k => ¬ S k ∧ some k ≠ v5.ownBlock) v4 l
  l5 : Kd.R Kd.string 9 w B (fun k => ¬ S k) v5 xs
  p : P S done w
  size : B ≤ w.heap.size
theorem As.cb {B : Nat} {P : (Nat → Prop) → List ByteArray → World → Prop} {S S' : Nat → Prop} {done done' : List ByteArray} {v4 v5 : Value} {l xs : List ByteArray} {w w' : World} (h : As B P S done v4 l v5 xs w) (hS : ∀ k, S' k → S k ∨ w.heap.size ≤ k) (hc : Cbk S w w') (hp : P S' done' w') : As B P S' done' v4 l v5 xs w' := by
  have hn : ∀ k, ¬ S k → k < w.heap.size → ¬ S' k := fun k h1 h2 h3 => by
    rcases hS k h3 with q | q
    · exact h1 q
    · omega
  refine ⟨Kd.R_mono (Kd.R_step (Kd.R_bound h.l4) (fun k hk hlt => hc.block k hlt hk.1.1)) (fun k hk => ⟨hn k hk.1.1 hk.2.2.1, hk.1.2⟩), Kd.R_mono (Kd.R_step (Kd.R_bound h.l5) (fun k hk hlt => hc.block k hlt hk.1)) (fun k hk => hn k hk.1 hk.2.2.1), hp, Nat.le_trans h.size hc.size⟩
theorem As.push {f : Nat} {lb : Array Value} {B most : Nat} {P : (Nat → Prop) → List ByteArray → World → Prop} {Q : List ByteArray → ByteArray → World → Prop} (H : Cb f lb B most P Q) {S : Nat → Prop} {done : List ByteArray} {v4 v5 v1 : Value} {l xs : List ByteArray} {x : ByteArray} {w w1 : World} (h : As B P S done v4 l v5 xs w)
    (hv : Kd.R Kd.string 9 w1 B (fun k => ¬ S k) v1 (xs ++ [x])) (hg : w.grownBy w1 v5.ownBlock) (hat : v1.ownBlock = v5.ownBlock ∨ ∃ b, v1.ownBlock = some b ∧ w.heap.size ≤ b) : As B P S done v4 l v1 (xs ++ [x]) w1 :=
  ⟨Kd.R_after h.l4 hg hat, hv, H.stab _ _ _ _ h.p (Stp.of_grown hg (fun k hk => ⟨Kd.R_base h.l5 k hk, h.l5.1 k hk⟩)), Nat.le_trans h.size hg.size⟩
theorem As.next {B : Nat} {P : (Nat → Prop) → List ByteArray → World → Prop} {S : Nat → Prop} {done : List ByteArray} {v4 v5 : Value} {l xs : List ByteArray} {w : World} (h : As B P S done v4 l v5 xs w) : As B P S done v5 xs (.slice none 0 0) [] w :=
  ⟨Kd.R_apart_nil h.l5, Kd.R_nil _ _ _ _ _, h.p, h.size⟩
theorem info9 : (Tryd.prog.info? 9).map (fun i => (i.zero, i.size, i.bytes)) = some (some (.string ByteArray.empty), 1, 16) := by kernel_rfl
theorem one_string (w : World) (s : ByteArray) (B : Nat) (ok : Nat → Prop) (hB : B ≤ w.heap.size) (hok : ∀ k, w.heap.size ≤ k → ok k) : Kd.R Kd.string 9 (w.alloc (.cells #[.string s] 9)) B ok (.slice (some ⟨w.heap.size, 0, none⟩) 1 1) [s] :=
  Kd.R_of_own (own_lit_of w B 9 [s] hB (by simp)) (fun k hk => by
    simp [Value.ownBlock] at hk
    exact hok k (by omega))
theorem str_at {w : World} {B g cap : Nat} {ok : Nat → Prop} {xs : List ByteArray} (h : Kd.R Kd.string 9 w B ok (.slice (some ⟨g, 0, none⟩) xs.length cap) xs) {i : Nat} {x : ByteArray} (hx : xs[i]? = some x) : w.cell? ⟨g, i, none⟩ = some (.string x) := by
  have hi := (List.getElem?_eq_some_iff.1 hx).1
  have := (Kd.R_cell ByteArray.empty h (i : Int) (by omega) (by omega)).1
  rw [Int.toNat_natCast] at this
  rw [this]
  unfold rdOf
  rw [Int.toNat_natCast, List.getD_eq_getElem?_getD, hx]
  rfl
theorem allL_split {k : Nat} : ∀ {n}, k < n → ∃ rest, allL n = allL k ++ lev k ++ rest
  | 0, h => by omega
  | n + 1, h => by
    by_cases e : k = n
    · subst e
      exact ⟨[], by rw [allL_succ, List.append_nil]⟩
    · obtain ⟨rest, hr⟩ := allL_split (k := k) (n := n) (by omega)
      exact ⟨rest ++ lev n, by rw [allL_succ, hr, List.append_assoc (allL k ++ lev k)]⟩
theorem take_split {l : List ByteArray} {x : Nat} {s : ByteArray} (h : l[x]? = some s) : l = l.take x ++ s :: l.drop (x + 1) := by
  obtain ⟨h1, h2⟩ := List.getElem?_eq_some_iff.1 h
  rw [← h2, List.getElem_cons_drop, List.take_append_drop]
theorem flat_succ {l : List ByteArray} {x : Nat} {s : ByteArray} (h : l[x]? = some s) : (l.take (x + 1)).flatMap kids = (l.take x).flatMap kids ++ kids s := by
  rw [take_succ_of h, List.flatMap_append]
  simp
theorem enc_word {j : Nat} (h : j < 4) : Utf8.encode (97 + (j : Int)) = wrd j := by
  have hj : j = 0 ∨ j = 1 ∨ j = 2 ∨ j = 3 := by omega
  rcases hj with rfl | rfl | rfl | rfl <;> rfl
theorem u8_next {j : Nat} (h : j < 4) : IntKind.u8.wrap (97 + (j : Int) + 1) = 97 + ((j + 1 : Nat) : Int) := by
  unfold IntKind.wrap
  simp [IntKind.signed, IntKind.bits]
  omega
theorem flat_le {l : List ByteArray} {x : Nat} {s : ByteArray} {j : Nat} (hl : l.length ≤ 1024) (hj : j ≤ 4) : ((((l.take x).flatMap kids) ++ kidsTo s j).length + 1) * 16 ≤ 140737488355328 := by
  rw [List.length_append, flatKids_length, kidsTo_length, List.length_take]
  omega
set_option maxHeartbeats 16000000 in
set_option maxRecDepth 100000 in
theorem allStrings_calls {f : Nat} {lb : Array Value} {B most : Nat} {P : (Nat → Prop) → List ByteArray → World → Prop} {Q : List ByteArray → ByteArray → World → Prop} (H : Cb f lb B most P Q) (hm : most ≤ 4) (S0 : Nat → Prop) (w : World) (hB : B ≤ w.heap.size) (hP : P S0 [] w) :
    Calls Tryd.prog 68 #[.int .i64 (most : Nat), .func (.func f) #[] lb] w fun e w' => e = .returned (.tuple #[]) ∧ ((∃ S, P S (allL (most + 1)) w') ∨ ∃ pre s post, allL (most + 1) = pre ++ s :: post ∧ Q pre s w') := by
  have eg := H.eg
  have HH := Lib.hid H
  have HAS : Hid (As B P S0 (allL 0) (.slice (some ⟨w.heap.size, 0, none⟩) 1 1) (lev 0) (.slice none 0 0) [] (w.alloc (.cells #[.string ⟨#[]⟩] 9))) := Lib.hid ⟨one_string w _ B _ hB (fun k hk => ⟨fun h => by have := H.lt _ _ _ hP k h; omega, by simp [Value.ownBlock]⟩), Kd.R_nil _ _ _ _ _, H.stab _ _ _ _ hP (Stp.of_below (below_one _)), by simp; omega⟩
  clear H hP
  go_enter Tryd.func68, Tryd.ntmps68
  go_wp2_with fail
  generalize hv4 : Value.slice (some ⟨w.heap.size, 0, none⟩) 1 1 = v4 at HAS ⊢
  generalize w.alloc (.cells #[.string ⟨#[]⟩] 9) = w0 at HAS ⊢
  clear hv4
  go_loopw [12, 4] (fun i v4 wr => ∃ (k : Nat) (S : Nat → Prop), k ≤ most + 1 ∧ i = .int .i64 k ∧ Hid (As B P S (allL k) v4 (lev k) (.slice none 0 0) [] wr)) (fun i _ _ => most + 1 - (intOf i).toNat)
  case atStart => exact ⟨0, S0, by omega, rfl, HAS⟩
  case round =>
    clear HAS
    obtain ⟨k, S, hk, rfl, HAS⟩ := hrel
    by_cases hkm : k < most + 1
    · have hkI : (k : Int) < (most : Int) + 1 := by omega
      have hlen := lev_le (k := k) (by omega)
      have hpos : 0 < (lev k).length := by rw [lev_length]; exact Nat.pow_pos (by decide)
      obtain ⟨g, cap, rfl, -⟩ := Kd.R_form HAS.out.l4 hpos
      have HSZ := Lib.hid (show ∀ s ∈ lev k, s.size ≤ most from fun s hs => by rw [lev_size hs]; omega)
      obtain ⟨l, hl⟩ : ∃ l, lev k = l := ⟨_, rfl⟩
      rw [hl] at HAS hlen HSZ ⊢
      have HL := Lib.hid hl
      clear hl hpos
      have hcap := (Kd.R_reads' HAS.out.l4).2.1
      go_wp2_with fail
      go_loopw [16, 5] (fun i v5 wr => ∃ (x : Nat) (S : Nat → Prop), x ≤ l.length ∧ i = .int .i64 x ∧ Hid (As B P S (allL k ++ l.take x) (.slice (some ⟨g, 0, none⟩) l.length cap) l v5 ((l.take x).flatMap kids) wr)) (fun i _ _ => l.length - (intOf i).toNat)
      case atStart => exact ⟨0, S, by omega, rfl, by simpa using HAS⟩
      case round =>
        clear HAS
        obtain ⟨x, S, hx, rfl, HAS⟩ := hrel
        by_cases hxl : x < l.length
        · have hxI : (x : Int) < (l.length : Int) := by omega
          obtain ⟨s, hs⟩ : ∃ s, l[x]? = some s := ⟨_, List.getElem?_eq_getElem hxl⟩
          have c0 := str_at HAS.out.l4 hs
          have hxc : x < cap := by omega
          have HS := Lib.hid hs
          have HMS := Lib.hid (HSZ.out s (List.mem_of_getElem? hs))
          have HCL := Lib.hid (HH.out.call S _ s wr HAS.out.p HAS.out.size HMS.out (by
            have h1 := allL_le (n := k) (by omega)
            rw [List.length_append, List.length_take]
            omega))
          clear hs
          go_wp2_with fail
          refine HCL.out.mono ?_
          rintro e w2 ⟨S2, hS2, hcb, hr⟩
          clear HCL
          rcases hr with ⟨rfl, hp⟩ | ⟨rfl, hq⟩
          · have HA2 := Lib.hid (HAS.out.cb hS2 hcb hp)
            rw [List.append_assoc, ← take_succ_of HS.out] at HA2
            clear hS2 hcb hp HAS c0
            go_wp2_with fail
            go_loopw [8, 5] (fun c v5 wr => ∃ j : Nat, j ≤ 4 ∧ c = .int .u8 (97 + (j : Int)) ∧ Hid (As B P S2 (allL k ++ l.take (x + 1)) (.slice (some ⟨g, 0, none⟩) l.length cap) l v5 ((l.take x).flatMap kids ++ kidsTo s j) wr)) (fun c _ _ => 101 - (intOf c).toNat)
            case atStart => exact ⟨0, by omega, rfl, by simpa [kidsTo] using HA2⟩
            case round =>
              clear HA2
              obtain ⟨j, hj, rfl, HAS⟩ := hrel
              by_cases hj4 : j < 4
              · have HXS := Lib.hid (flat_le (l := l) (x := x) (s := s) (j := j) hlen hj)
                have HKT := Lib.hid (show (l.take x).flatMap kids ++ kidsTo s (j + 1) = ((l.take x).flatMap kids ++ kidsTo s j) ++ [s ++ wrd j] by rw [kidsTo_succ, List.append_assoc])
                obtain ⟨A5, c5, h5⟩ := Kd.R_slice HAS.out.l5
                obtain ⟨xs, hxs⟩ : ∃ xs, (l.take x).flatMap kids ++ kidsTo s j = xs := ⟨_, rfl⟩
                rw [hxs] at HAS HXS HKT h5
                subst h5
                clear hxs
                have henc := enc_word hj4
                have hss : (9223372036854775807 < s.size + (wrd j).size) = False := by
                  have := HMS.out
                  rw [wrd_size]
                  simp
                  omega
                have hwu := u8_next hj4
                have hjI : 97 + (j : Int) ≤ 100 := by omega
                generalize hy : wrd j = y at henc hss HKT
                clear hy
                go_wp2_with (at_builtin; refine Kd.R_append Kd.string (w0 := wr) B rfl (.tmp 28) (.tmp 33) 40 9 (.string ByteArray.empty) 16 rfl Tryd.underlying40 info9 rfl (by decide) (by decide) (.slice A5 xs.length c5) xs (s ++ y) [.string (s ++ y)] (fun k => ¬ S2 k) (fun _ => False) rfl rfl rfl (fun _ h => h.elim) ?hfr HAS.out.l5 (Below.refl _ _) HAS.out.size HXS.out ?_; (case hfr => exact fun k hk hs => Nat.lt_irrefl _ (Nat.lt_of_lt_of_le (HH.out.lt _ _ _ HAS.out.p k hs) hk)); intro v1 w3 hv hb hg hat; have HAS3 := Lib.hid (HAS.out.push HH.out hv hg hat); clear hv hb hg hat)
                refine ⟨⟨j + 1, hj4, by simp, by rw [HKT.out]; exact HAS3⟩, by simp [intOf]; omega⟩
              · obtain rfl : j = 4 := by omega
                have HFS := Lib.hid (flat_succ HS.out)
                go_wp2_with fail
                refine ⟨⟨x + 1, S2, by omega, by go_num, by rw [HFS.out]; exact HAS⟩, by simp [intOf]; omega⟩
          · have HQ := Lib.hid hq
            clear hq hcb hS2 c0
            have HSP := Lib.hid (take_split HS.out)
            have hkm2 := hkm
            obtain ⟨rest, hrest⟩ := allL_split (k := k) (n := most + 1) hkm2
            have HSPL : Hid (allL (most + 1) = (allL k ++ l.take x) ++ s :: (l.drop (x + 1) ++ rest)) := Lib.hid (by
              rw [hrest, HL.out]
              conv => lhs; rw [HSP.out]
              simp)
            clear hrest
            go_wp2_with fail
            refine bodyPost_ret (results_none rfl _ _ _) rfl ?_
            exact ⟨rfl, .inr ⟨_, s, _, HSPL.out, HQ.out⟩⟩
        · obtain rfl : x = l.length := by omega
          have HNX := Lib.hid HAS.out.next
          rw [List.take_length] at HNX
          have HLN : Hid (allL (k + 1) = allL k ++ l ∧ lev (k + 1) = l.flatMap kids) := Lib.hid ⟨by rw [allL_succ, HL.out], by rw [lev, HL.out]⟩
          go_wp2_with fail
          refine ⟨⟨k + 1, S, by omega, by go_num, by rw [HLN.out.1, HLN.out.2]; simpa using HNX⟩, by simp [intOf]; omega⟩
    · obtain rfl : k = most + 1 := by omega
      have hkI : ¬ ((most + 1 : Nat) : Int) < (most : Int) + 1 := by omega
      go_wp2_with fail
      go_end0
      exact ⟨rfl, .inl ⟨S, HAS.out.p⟩⟩
end Go.Proofs.YtjpfalanoifpbaaDoor.X
end

section
set_option linter.unusedVariables false
set_option linter.unusedSimpArgs false
namespace Go.Proofs.YtjpfalanoifpbaaDoor.X
open Go.RowKit Go.Proofs.YtjpfalanoifpbaaDoorW.PrintWords Go.Proofs.YtjpfalanoifpbaaDoorW.PrintLast Go.Proofs.YtjpfalanoifpbaaDoorW.PrintMore Go.Proofs.YtjpfalanoifpbaaDoor.T
def has1 (L : Nat → Int) (R : Nat → ByteArray) (n : Nat) (s : ByteArray) : Bool := decide (0 < treesN 1 L R n s)
structure Wd (w0 : World) (gb go : Nat) (A : Option Addr) (n c : Nat) (p : ByteArray → Bool) (S : Nat → Prop) (done : List ByteArray) (w : World) : Prop where
  bl : Below w0.heap.size w0 w
  bx : w.heap[gb]? = some (.cells #[.slice A n c] 27 (0, 0))
  row : ∃ v, w.heap[go]? = some (.cells #[v] 40 (0, 0)) ∧ Kd.R Kd.string 9 w w0.heap.size S v (done.filter p)
  sg : S go
  nb : ¬ S gb
  lt : ∀ k, S k → w0.heap.size ≤ k ∧ k < w.heap.size
theorem Wd.stab {w0 : World} {gb go B : Nat} {A : Option Addr} {n c : Nat} {p : ByteArray → Bool} {S : Nat → Prop} {done : List ByteArray} {w w' : World} (hB : w0.heap.size ≤ B) (hg : gb < B) (h : Wd w0 gb go A n c p S done w) (hs : Stp B S w w') : Wd w0 gb go A n c p S done w' := by
  obtain ⟨v, h1, h2⟩ := h.row
  refine ⟨⟨hs.os.trans h.bl.os, hs.tape.trans h.bl.tape, hs.output.trans h.bl.output, Nat.le_trans h.bl.size hs.size, fun k hk => ?_⟩, ?_, ⟨v, ?_, Kd.R_step h2 (fun k hk hlt => hs.block k hlt (.inr hk))⟩, h.sg, h.nb, fun k hk => ⟨(h.lt k hk).1, Nat.lt_of_lt_of_le (h.lt k hk).2 hs.size⟩⟩
  · exact (hs.block k (Nat.lt_of_lt_of_le hk h.bl.size) (.inl (by omega))).trans (h.bl.block k hk)
  · exact (hs.block gb (Array.getElem?_eq_some_iff.1 h.bx).1 (.inl hg)).trans h.bx
  · exact (hs.block go (Array.getElem?_eq_some_iff.1 h1).1 (.inr h.sg)).trans h1
theorem box_read {w : World} {g : Nat} {v : Value} {t : TypeId} (h : w.heap[g]? = some (.cells #[v] t (0, 0))) : w.cell? ⟨g, 0, none⟩ = some v := by
  rw [blk_cell h]
  rfl
theorem box_set {w : World} {g : Nat} {u : Value} {t : TypeId} (h : w.heap[g]? = some (.cells #[u] t (0, 0))) (v : Value) : (w.setCell ⟨g, 0, none⟩ v).heap[g]? = some (.cells #[v] t (0, 0)) := by
  have := blk_set h 0 v
  rw [this]
  rfl
theorem grown_box {w2 w3 : World} {go base : Nat} {v u : Value} {ok : Nat → Prop} {xs : List ByteArray} (hV : w2.heap[go]? = some (.cells #[u] 40 (0, 0))) (hR : Kd.R Kd.string 9 w2 base ok v xs) (hg : w2.grownBy w3 v.ownBlock) : w3.heap[go]? = some (.cells #[u] 40 (0, 0)) :=
  (hg.block go (Array.getElem?_eq_some_iff.1 hV).1 (Kd.R_ne hR hV (by decide))).trans hV
theorem Wd.found {w0 w w2 w3 : World} {gb go : Nat} {A : Option Addr} {n c : Nat} {p : ByteArray → Bool} {S : Nat → Prop} {done done' : List ByteArray} {v v1 u : Value} {xs ys : List ByteArray} (h : Wd w0 gb go A n c p S done w) (hb : Below w.heap.size w w2) (hV : w3.heap[go]? = some (.cells #[u] 40 (0, 0)))
    (hv : Kd.R Kd.string 9 w3 w0.heap.size (fun k => S k ∨ w2.heap.size ≤ k) v1 ys) (hg : w2.grownBy w3 v.ownBlock) (hR : Kd.R Kd.string 9 w2 w0.heap.size S v xs) (hbl : Below w0.heap.size w0 w3) :
    Cbk S w (w3.setCell ⟨go, 0, none⟩ v1) ∧ (done'.filter p = ys → Wd w0 gb go A n c p (fun k => (S k ∨ w.heap.size ≤ k) ∧ k < w3.heap.size) done' (w3.setCell ⟨go, 0, none⟩ v1)) := by
  have hsz : (w3.setCell ⟨go, 0, none⟩ v1).heap.size = w3.heap.size := by simp [World.setCell]
  have hgo := h.lt go h.sg
  have hkeep : ∀ k, k < w.heap.size → ¬ S k → (w3.setCell ⟨go, 0, none⟩ v1).heap[k]? = w.heap[k]? := fun k hk hS => by
    have h1 : k ≠ go := fun e => hS (by rw [e]; exact h.sg)
    rw [Below.heap_setCell w3 ⟨go, 0, none⟩ v1 k h1, hg.block k (Nat.lt_of_lt_of_le hk hb.size) (fun e => hS (hR.1 k e.symm))]
    exact hb.block k hk
  refine ⟨⟨by rw [hsz]; exact Nat.le_trans hb.size hg.size, hkeep⟩, fun hys => ⟨hbl.setCell (p := ⟨go, 0, none⟩) hgo.1 _, (hkeep gb (Array.getElem?_eq_some_iff.1 h.bx).1 h.nb).trans h.bx, ⟨v1, box_set hV v1, ?_⟩, ⟨.inl h.sg, by have := Nat.le_trans hb.size hg.size; omega⟩, fun q => ?_, fun k hk => ⟨?_, by rw [hsz]; exact hk.2⟩⟩⟩
  · rw [hys]
    have h1 := Kd.R_set hv hV (fun q hq => by
      have : q = 9 := by simpa [Kd.string, Kd.scalar] using hq
      rw [this]
      decide) 0 v1
    refine Kd.R_mono (Kd.R_bound h1) (fun k hk => ⟨?_, by have := hk.2.2.1; rw [hsz] at this; exact this⟩)
    rcases hk.1 with q | q
    · exact .inl q
    · exact .inr (Nat.le_trans hb.size q)
  · rcases q.1 with q1 | q1
    · exact h.nb q1
    · have := (Array.getElem?_eq_some_iff.1 h.bx).1
      omega
  · rcases hk.1 with q | q
    · exact (h.lt k q).1
    · exact Nat.le_trans h.bl.size q
set_option maxHeartbeats 8000000 in
set_option maxRecDepth 100000 in
theorem words1_call {w0 : World} {gb go : Nat} {A : Option Addr} {n c : Nat} {L : Nat → Int} {R : Nat → ByteArray} (hA : Sr w0 A n c L R) (hg : Gr L R n) {S : Nat → Prop} {done : List ByteArray} {s : ByteArray} {w : World} (h : Wd w0 gb go A n c (has1 L R n) S done w) (hs : s.size ≤ 4) (hdl : done.length ≤ 100000) :
    Calls Tryd.prog 69 #[.string s, .pointer (some ⟨gb, 0, none⟩), .pointer (some ⟨go, 0, none⟩)] w fun e w' => ∃ S' : Nat → Prop, (∀ k, S' k → S k ∨ w.heap.size ≤ k) ∧ Cbk S w w' ∧ e = .returned (.bool true) ∧ Wd w0 gb go A n c (has1 L R n) S' (done ++ [s]) w' := by
  obtain ⟨v, hv, hR⟩ := h.row
  have HA := Lib.hid (hA.later h.bl)
  have HV := Lib.hid hv
  have HR := Lib.hid hR
  have HG := Lib.hid hg
  have HH := Lib.hid h
  have c0 := box_read h.bx
  have hlen : (done.filter (has1 L R n)).length ≤ 100000 := Nat.le_trans (List.length_filter_le _ _) hdl
  clear hA hg h hv hR
  obtain ⟨xs, hxs⟩ : ∃ xs, done.filter (has1 L R n) = xs := ⟨_, rfl⟩
  have HXS := Lib.hid hxs
  rw [hxs] at HR hlen
  clear hxs
  obtain ⟨T1, hT1⟩ : ∃ T1, treesN 1 L R n s = T1 := ⟨_, rfl⟩
  have HT1 := Lib.hid hT1
  clear hT1
  go_enter Tryd.func69, Tryd.ntmps69
  go_wp2_with fail
  refine (trees_calls A n c L R s 1 w HA.out HG.out (by omega) (by decide)).mono ?_
  rintro e w2 ⟨rfl, hb2⟩
  rw [HT1.out]
  have HB2 := Lib.hid hb2
  have HV2 := Lib.hid ((hb2.block _ (Array.getElem?_eq_some_iff.1 HV.out).1).trans HV.out)
  have HR2 := Lib.hid (Kd.R_below HR.out hb2)
  have HP2 := Lib.hid (HH.out.bl.trans (hb2.mono HH.out.bl.size))
  have HX2 := Lib.hid ((hb2.block _ (Array.getElem?_eq_some_iff.1 HH.out.bx).1).trans HH.out.bx)
  clear hb2 c0
  by_cases hpos : 0 < T1
  · have hposI : 0 < (T1 : Int) := by omega
    have HF : Hid ((done ++ [s]).filter (has1 L R n) = xs ++ [s]) := Lib.hid (by
      rw [List.filter_append, HXS.out]
      have : has1 L R n s = true := by
        unfold has1
        rw [HT1.out]
        exact decide_eq_true hpos
      simp [this])
    have c1 := box_read HV2.out
    obtain ⟨A5, c5, h5⟩ := Kd.R_slice HR2.out
    subst h5
    go_wp2_with (at_builtin; refine Kd.R_append Kd.string (w0 := w2) w0.heap.size rfl (.tmp 9) (.tmp 11) 40 9 (.string ByteArray.empty) 16 rfl Tryd.underlying40 info9 rfl (by decide) (by decide) (.slice A5 xs.length c5) xs s [.string s] (fun k => S k ∨ w2.heap.size ≤ k) (fun _ => False) rfl rfl rfl (fun _ h => h.elim) (fun _ h => .inr h) (Kd.R_mono HR2.out (fun _ h => .inl h)) (Below.refl _ _) HP2.out.size (by omega) ?_; intro v1 w3 hv hb hg hat; obtain ⟨A6, c6, h6⟩ := Kd.R_slice hv; subst h6; have HV3 := Lib.hid hv; have HB3 := Lib.hid hb; have HG3 := Lib.hid hg; have HV4 := Lib.hid (grown_box HV2.out HR2.out hg); have c2 := box_read HV4.out; have f2 := blk_frozen HV4.out 0; clear hv hb hg hat)
    have HW := Lib.hid (HH.out.found (done' := done ++ [s]) HB2.out HV4.out HV3.out HG3.out HR2.out (HP2.out.trans HB3.out))
    have hl6 : (xs ++ [s]).length = xs.length + 1 := by simp
    rw [hl6] at HW
    clear c1 c2 f2
    go_ret
    refine ⟨fun k => (S k ∨ w.heap.size ≤ k) ∧ k < w3.heap.size, fun k hk => hk.1, HW.out.1, rfl, ?_⟩
    exact HW.out.2 HF.out
  · have hposI : ¬ 0 < (T1 : Int) := by omega
    have HF : Hid ((done ++ [s]).filter (has1 L R n) = xs) := Lib.hid (by
      rw [List.filter_append, HXS.out]
      have : has1 L R n s = false := by
        unfold has1
        rw [HT1.out]
        exact decide_eq_false hpos
      simp [this])
    go_wp2_with fail
    go_ret
    refine ⟨S, fun k hk => .inl hk, ⟨HB2.out.size, fun k hk _ => HB2.out.block k hk⟩, rfl, ?_⟩
    refine ⟨HP2.out, HX2.out, ⟨v, HV2.out, ?_⟩, HH.out.sg, HH.out.nb, fun k hk => ⟨(HH.out.lt k hk).1, Nat.lt_of_lt_of_le (HH.out.lt k hk).2 HB2.out.size⟩⟩
    rw [HF.out]
    exact HR2.out
theorem enters_of' {P : Program} {f : Nat} {fn : Func} (hf : P.funcs[f]? = some fn) (h1 : (fn.name == "runtime.NumGoroutine") = false) (h2 : fn.body.isSome = true) : ∀ args w, (callFunc f args).run P w = .ok (.enter f args) w := fun args w => enters_ hf h1 h2 args w
theorem words1_cb {w0 : World} {gb go B : Nat} {A : Option Addr} {n c : Nat} {L : Nat → Int} {R : Nat → ByteArray} (hA : Sr w0 A n c L R) (hg : Gr L R n) (hB : w0.heap.size ≤ B) (hgb : gb < B) (most : Nat) (hm : most ≤ 4) :
    Cb 69 #[.pointer (some ⟨gb, 0, none⟩), .pointer (some ⟨go, 0, none⟩)] B most (fun S done w => Wd w0 gb go A n c (has1 L R n) S done w) (fun _ _ _ => False) where
  eg := enters_of' Tryd.func69 (by kernel_rfl) rfl
  stab := fun S done w w' h hs => h.stab hB hgb hs
  lt := fun S done w h k hk => (h.lt k hk).2
  stop := fun _ _ _ _ h _ => h.elim
  call := fun S done s w h _ hs hd => (words1_call hA hg h (by omega) hd).mono (by
    rintro e w' ⟨S', h1, h2, h3, h4⟩
    exact ⟨S', h1, h2, .inl ⟨h3, h4⟩⟩)
end Go.Proofs.YtjpfalanoifpbaaDoor.X
end

section
set_option linter.unusedVariables false
set_option linter.unusedSimpArgs false
namespace Go.Proofs.YtjpfalanoifpbaaDoor.X
open Go.RowKit Go.Proofs.YtjpfalanoifpbaaDoorW.PrintWords Go.Proofs.YtjpfalanoifpbaaDoorW.PrintLast Go.Proofs.YtjpfalanoifpbaaDoorW.PrintMore Go.Proofs.YtjpfalanoifpbaaDoor.T
set_option maxHeartbeats 8000000 in
set_option maxRecDepth 100000 in
theorem Words_yes (A : Option Addr) (n c : Nat) (L : Nat → Int) (R : Nat → ByteArray) (most : Nat) (w : World) (hA : Sr w A n c L R) (hg : Gram L R n) (hm : most ≤ 4) :
    Calls Tryd.prog 30 #[.slice A n c, .int .i64 most] w fun e w' => (∃ v, e = .returned (.tuple #[v, .int .i64 0]) ∧ Kd.R Kd.string 9 w' w.heap.size (fun _ => True) v ((allL (most + 1)).filter (has1 L R n))) ∧ Below w.heap.size w w' := by
  have HA := Lib.hid hA
  have HG := Lib.hid hg
  have h8 := hg.1.2
  have h4 : ∀ k, k < n → (R k).size ≤ 1000 := fun k hk => Nat.le_trans (hg.2 k hk).sz (by decide)
  have HV := Lib.hid fun (w : World) (h : Sr w A n c L R) => valid_calls A n c L R w h (by omega) h4 true (by simp [hg])
  have hmI : ¬ (4 : Int) < most := by omega
  have hmJ : ¬ (most : Int) < 0 := by omega
  clear hA hg h4
  go_enter Tryd.func30, Tryd.ntmps30
  go_wp2_with fail
  have hb0 := below_one (w := w) (.cells #[.slice A n c] 27)
  have hk0 := blk_new w (.cells #[.slice A n c] 27)
  obtain ⟨w1, hw1⟩ : ∃ w1, w1 = w.alloc (.cells #[.slice A n c] 27) := ⟨_, rfl⟩
  rw [← hw1] at hb0 hk0 ⊢
  have HB1 := Lib.hid hb0
  have HK1 := Lib.hid hk0
  clear hb0 hk0 hw1
  refine (HV.out w1 (HA.out.later HB1.out)).mono ?_
  rintro e w2 ⟨rfl, hb2⟩
  have HB2 := Lib.hid (HB1.out.trans (hb2.mono HB1.out.size))
  have HK2 := Lib.hid ((hb2.block _ (Array.getElem?_eq_some_iff.1 HK1.out).1).trans HK1.out)
  clear hb2 HB1 HK1
  go_wp2_with fail
  have hb3 := below_one (w := w2) (.cells #[.slice none 0 0] 40)
  have hk3 := blk_new w2 (.cells #[.slice none 0 0] 40)
  have hsz3 : (w2.alloc (.cells #[.slice none 0 0] 40)).heap.size = w2.heap.size + 1 := by simp
  obtain ⟨w3, hw3⟩ : ∃ w3, w3 = w2.alloc (.cells #[.slice none 0 0] 40) := ⟨_, rfl⟩
  rw [← hw3] at hb3 hk3 hsz3 ⊢
  have HP : Hid (Wd w w.heap.size w2.heap.size A n c (has1 L R n) (fun k => k = w2.heap.size) [] w3) := Lib.hid ⟨HB2.out.trans (hb3.mono HB2.out.size), (hb3.block _ (Array.getElem?_eq_some_iff.1 HK2.out).1).trans HK2.out, ⟨_, hk3, Kd.R_nil _ _ _ _ _⟩, rfl, fun h => by
    have := (Array.getElem?_eq_some_iff.1 HK2.out).1
    omega, fun k hk => by
    have := HB2.out.size
    omega⟩
  have HLT := Lib.hid (show w.heap.size ≤ w3.heap.size ∧ w.heap.size < w3.heap.size by
    have := HB2.out.size
    omega)
  clear hb3 hk3 hsz3 hw3 HB2 HK2
  refine (allStrings_calls (words1_cb HA.out HG.out.gr HLT.out.1 HLT.out.2 most hm) hm _ w3 (Nat.le_refl _) HP.out).mono ?_
  rintro e w4 ⟨rfl, ⟨S, hP⟩ | ⟨_, _, _, _, h⟩⟩
  · obtain ⟨v, hv, hR⟩ := hP.row
    have HR := Lib.hid hR
    have HBL := Lib.hid hP.bl
    have c0 := box_read hv
    obtain ⟨A5, c5, h5⟩ := Kd.R_slice hR
    subst h5
    clear hR hP hv
    go_wp2
    go_ret2
    exact ⟨⟨_, rfl, Kd.R_mono HR.out (fun _ _ => trivial)⟩, HBL.out⟩
  · exact h.elim
set_option maxHeartbeats 8000000 in
set_option maxRecDepth 100000 in
theorem Words_no (A : Option Addr) (n c : Nat) (L : Nat → Int) (R : Nat → ByteArray) (most : Int) (w : World) (hA : Sr w A n c L R) (hn : n ≤ 1000) (hsz : ∀ k, k < n → (R k).size ≤ 1000) (hg : ¬ (Gram L R n ∧ 0 ≤ most ∧ most ≤ 4)) :
    Calls Tryd.prog 30 #[.slice A n c, .int .i64 most] w fun e w' => e = .returned (.tuple #[.slice none 0 0, .int .i64 2]) ∧ Below w.heap.size w w' := by
  have HA := Lib.hid hA
  obtain ⟨r, hr⟩ : ∃ r : Bool, r = true ↔ Gram L R n := by
    by_cases h : Gram L R n
    · exact ⟨true, by simp [h]⟩
    · exact ⟨false, by simp [h]⟩
  have HV := Lib.hid fun (w : World) (h : Sr w A n c L R) => valid_calls A n c L R w h hn hsz r hr
  have hq : r = true → ¬ (0 ≤ most ∧ most ≤ 4) := fun h q => hg ⟨hr.1 h, q⟩
  clear hA hg hsz hr
  go_enter Tryd.func30, Tryd.ntmps30
  go_wp2_with fail
  have hb0 := below_one (w := w) (.cells #[.slice A n c] 27)
  obtain ⟨w1, hw1⟩ : ∃ w1, w1 = w.alloc (.cells #[.slice A n c] 27) := ⟨_, rfl⟩
  rw [← hw1] at hb0 ⊢
  have HB1 := Lib.hid hb0
  clear hb0 hw1
  refine (HV.out w1 (HA.out.later HB1.out)).mono ?_
  rintro e w2 ⟨rfl, hb2⟩
  have HB2 := Lib.hid (HB1.out.trans (hb2.mono HB1.out.size))
  clear hb2 HB1
  cases r with
  | false =>
    clear hq
    go_wp2
    go_ret2
    exact ⟨rfl, HB2.out⟩
  | true =>
    have hq2 := hq rfl
    clear hq
    by_cases h0 : most < 0
    · go_wp2
      go_ret2
      exact ⟨rfl, HB2.out⟩
    · have h4 : 4 < most := by omega
      clear hq2
      go_wp2
      go_ret2
      exact ⟨rfl, HB2.out⟩
end Go.Proofs.YtjpfalanoifpbaaDoor.X
end

section
set_option linter.unusedVariables false
set_option linter.unusedSimpArgs false
namespace Go.Proofs.YtjpfalanoifpbaaDoor.X
open Go.RowKit Go.Proofs.YtjpfalanoifpbaaDoorW.PrintWords Go.Proofs.YtjpfalanoifpbaaDoorW.PrintLast Go.Proofs.YtjpfalanoifpbaaDoorW.PrintMore Go.Proofs.YtjpfalanoifpbaaDoor.T
abbrev SR (B : Nat) (w : World) (v : Value) (xs : List ByteArray) : Prop := Kd.R Kd.string 9 w B (fun _ => True) v xs
theorem sr_below {B : Nat} {w w1 : World} {v : Value} {xs : List ByteArray} (h : SR B w v xs) (hb : Below w.heap.size w w1) : SR B w1 v xs := Kd.R_below h hb
structure Al (w0 w : World) (out : Value) (ol : List ByteArray) (last : Value) (ll : List ByteArray) (next : Value) (nl : List ByteArray) : Prop where
  o : SR w0.heap.size w out ol
  l : SR w0.heap.size w last ll
  x : SR w0.heap.size w next nl
  ol : ∀ k, out.ownBlock = some k → last.ownBlock ≠ some k
  ox : ∀ k, out.ownBlock = some k → next.ownBlock ≠ some k
  lx : ∀ k, last.ownBlock = some k → next.ownBlock ≠ some k
  bl : Below w0.heap.size w0 w
theorem Al.later {w0 w w1 : World} {out last next : Value} {ol ll nl : List ByteArray} (h : Al w0 w out ol last ll next nl) (hb : Below w.heap.size w w1) : Al w0 w1 out ol last ll next nl :=
  ⟨sr_below h.o hb, sr_below h.l hb, sr_below h.x hb, h.ol, h.ox, h.lx, h.bl.trans (hb.mono h.bl.size)⟩
end Go.Proofs.YtjpfalanoifpbaaDoor.X
end

section
set_option linter.unusedVariables false
set_option linter.unusedSimpArgs false
namespace Go.Proofs.YtjpfalanoifpbaaDoor.X
open Go.RowKit Go.Proofs.YtjpfalanoifpbaaDoorW.PrintWords Go.Proofs.YtjpfalanoifpbaaDoorW.PrintLast Go.Proofs.YtjpfalanoifpbaaDoorW.PrintMore Go.Proofs.YtjpfalanoifpbaaDoor.T
theorem has1_iff (L : Nat → Int) (R : Nat → ByteArray) (n : Nat) (s : ByteArray) : has1 L R n s = decide (0 < treesN 100 L R n s) := by
  unfold has1
  rw [decide_eq_decide]
  exact treesN_pos L R n s
structure Ar (w0 w : World) (v1 : Value) (l1 : List ByteArray) (v2 : Value) (l2 : List ByteArray) : Prop where
  a : SR w0.heap.size w v1 l1
  b : SR w0.heap.size w v2 l2
  ne : ∀ k, v1.ownBlock = some k → v2.ownBlock ≠ some k
  bl : Below w0.heap.size w0 w
theorem Ar.later {w0 w w1 : World} {v1 v2 : Value} {l1 l2 : List ByteArray} (h : Ar w0 w v1 l1 v2 l2) (hb : Below w.heap.size w w1) : Ar w0 w1 v1 l1 v2 l2 :=
  ⟨sr_below h.a hb, sr_below h.b hb, h.ne, h.bl.trans (hb.mono h.bl.size)⟩
end Go.Proofs.YtjpfalanoifpbaaDoor.X
end

section
set_option linter.unusedVariables false
set_option linter.unusedSimpArgs false
namespace Go.Proofs.YtjpfalanoifpbaaDoor.X
open Go.RowKit Go.Proofs.YtjpfalanoifpbaaDoorW.PrintWords Go.Proofs.YtjpfalanoifpbaaDoorW.PrintLast Go.Proofs.YtjpfalanoifpbaaDoorW.PrintMore Go.Proofs.YtjpfalanoifpbaaDoor.T
theorem allL_filter {p : ByteArray → Bool} {n : Nat} (h : n ≤ 6) : ((allL n).filter p).length ≤ 100000 := by
  have h1 := List.length_filter_le p (allL n)
  have h2 := allL_le h
  omega
end Go.Proofs.YtjpfalanoifpbaaDoor.X
end

section
set_option linter.unusedVariables false
namespace Go.Proofs.YtjpfalanoifpbaaDoor.T
section
variable {L : Nat → Int} {R : Nat → ByteArray}
theorem or_squeeze {x y : Nat} (h1 : x ||| y = y) (h2 : y ||| x = x) : x = y := by rw [Nat.or_comm, h1] at h2; exact h2.symm
theorem eTo_up2 (e : Nat) {k : Nat} : ∀ {n}, k ≤ n → eTo L R e k ||| eTo L R e n = eTo L R e n
  | 0, h => by
    obtain rfl : k = 0 := by omega
    exact Nat.or_self _
  | n + 1, h => by
    by_cases e1 : k = n + 1
    · subst e1
      exact Nat.or_self _
    · have ih := eTo_up2 e (k := k) (n := n) (by omega)
      rw [eTo]
      split
      · rw [← Nat.or_assoc, ih]
      · exact ih
theorem empty_closed {n : Nat} (h : okG L R n) {m : Nat} (hm : m < n) (ha : allP (emptyN L R n) (R m) = true) : (emptyN L R n).testBit (pn (L m)) = true := by
  have h1 : eTo L R (emptyN L R n) n = emptyN L R n := rep_stands (fun e => eTo L R e n) (fun e => e < 32) pc 5 (fun e he => eTo_lt h he n (Nat.le_refl _)) (fun e he => eTo_stands h he) (fun e _ => pc_le e) (x := 0) (by decide) 5 (Nat.le_refl _)
  generalize emptyN L R n = E at h1 ha ⊢
  have key : ∀ k, k ≤ n → eTo L R E k = E := fun k hk => by
    have a := eTo_up2 (L := L) (R := R) E hk
    rw [h1] at a
    exact or_squeeze a (eTo_up (L := L) (R := R) E k)
  have h2 := key (m + 1) hm
  rw [eTo, key m (by omega), if_pos ha] at h2
  rw [← h2, Nat.testBit_or, Nat.testBit_two_pow_self, Bool.or_true]
theorem fTo_up2 (E : Nat) (F : Nat → Nat) {k : Nat} : ∀ {n}, k ≤ n → Up (fTo L R E F k) (fTo L R E F n)
  | 0, h => by
    obtain rfl : k = 0 := by omega
    exact Up.refl _
  | n + 1, h => by
    by_cases e1 : k = n + 1
    · subst e1
      exact Up.refl _
    · exact (fTo_up2 E F (k := k) (n := n) (by omega)).trans (Up.upd _ _ _)
theorem first_closed {n : Nat} (h : okG L R n) {m : Nat} (hm : m < n) {b : Nat} (hb : (beg (firstN L R n) (emptyN L R n) (R m) 0 0).1.testBit b = true) : (firstN L R n (pn (L m))).testBit b = true := by
  have h1 : fTo L R (emptyN L R n) (firstN L R n) n = firstN L R n := rep_stands (fun F => fTo L R (emptyN L R n) F n) Five mu 25 (fun F hF => fTo_five h _ hF n (Nat.le_refl _)) (fun F hF => (fTo_up2 (L := L) (R := R) (emptyN L R n) F (Nat.zero_le n)).stands hF (fTo_five h _ hF n (Nat.le_refl _))) (fun F _ => mu_le F) zero_five 25 (Nat.le_refl _)
  generalize firstN L R n = F at h1 hb ⊢
  generalize emptyN L R n = E at h1 hb
  have key : ∀ k, k ≤ n → fTo L R E F k = F := fun k hk => by
    funext j
    have a := fTo_up2 (L := L) (R := R) E F hk j
    have c := fTo_up2 (L := L) (R := R) E F (Nat.zero_le k) j
    rw [h1] at a
    exact or_squeeze a c
  have h2 := key (m + 1) hm
  rw [fTo, key m (by omega)] at h2
  have h3 := congrFun h2 (pn (L m))
  unfold upd at h3
  rw [if_pos rfl] at h3
  rw [← h3, Nat.testBit_or, hb, Bool.or_true]
theorem beg_acc {F : Nat → Nat} {E : Nat} {s : ByteArray} {b : Nat} : ∀ (d k acc : Nat), s.size - k = d → acc.testBit b = true → (beg F E s k acc).1.testBit b = true
  | 0, k, acc, hd, ha => by
    rw [beg, if_neg (by omega)]
    exact ha
  | d + 1, k, acc, hd, ha => by
    rw [beg, if_pos (by omega)]
    split
    · split
      · exact beg_acc d (k + 1) _ (by omega) (by rw [Nat.testBit_or, ha, Bool.true_or])
      · show (acc ||| F (pn (ch s k))).testBit b = true
        rw [Nat.testBit_or, ha, Bool.true_or]
    · show (acc ||| 2 ^ wn (ch s k)).testBit b = true
      rw [Nat.testBit_or, ha, Bool.true_or]
theorem lst_drop {s : ByteArray} {p : Nat} (h : p < s.size) : (lst s).drop p = ch s p :: (lst s).drop (p + 1) := by
  have hl : p < (lst s).length := by simp [lst]; exact h
  rw [List.drop_eq_getElem_cons hl]
  congr 1
  simp [lst]
theorem lst_end {s : ByteArray} {p : Nat} (h : s.size ≤ p) : (lst s).drop p = [] := List.drop_eq_nil_of_le (by simp [lst]; exact h)
theorem W_begins {sw : Nat → Int} {a : Cnt} {F : Nat → Nat} {E : Nat} (hF : ∀ c i j, 0 < a c i j → i < j → (F (pn c)).testBit (wn (sw i)) = true) (hE : ∀ c i, isP c = true → 0 < a c i i → E.testBit (pn c) = true) {s : ByteArray} {i j : Nat} (hij : i < j) :
    ∀ (d p acc : Nat), s.size - p = d → 0 < W sw a ((lst s).drop p) i j → (beg F E s p acc).1.testBit (wn (sw i)) = true
  | 0, p, acc, hd, h => by
    rw [lst_end (by omega), W, if_neg (by omega)] at h
    exact absurd h (Nat.lt_irrefl _)
  | d + 1, p, acc, hd, h => by
    rw [lst_drop (by omega), W] at h
    rw [beg, if_pos (by omega)]
    by_cases hp : isP (ch s p) = true
    · rw [if_pos hp] at h ⊢
      obtain ⟨k, h1, h2, h3⟩ := sumIJ_pos h
      have ha := Nat.pos_of_mul_pos_right h3
      have hw := Nat.pos_of_mul_pos_left h3
      by_cases hk : i < k
      · have hb : (acc ||| F (pn (ch s p))).testBit (wn (sw i)) = true := by rw [Nat.testBit_or, hF _ _ _ ha hk, Bool.or_true]
        split
        · exact beg_acc d (p + 1) _ (by omega) hb
        · exact hb
      · obtain rfl : k = i := by omega
        rw [if_pos (hE _ _ hp ha)]
        exact W_begins hF hE hij d (p + 1) _ (by omega) hw
    · rw [if_neg hp] at h ⊢
      split at h
      · rename_i hc
        show (acc ||| 2 ^ wn (ch s p)).testBit (wn (sw i)) = true
        rw [hc.2, Nat.testBit_or, Nat.testBit_two_pow_self, Bool.or_true]
      · exact absurd h (Nat.lt_irrefl _)
theorem W_empty {sw : Nat → Int} {a : Cnt} {E : Nat} (hE : ∀ c i, isP c = true → 0 < a c i i → E.testBit (pn c) = true) {s : ByteArray} {i : Nat} :
    ∀ (d p : Nat), s.size - p = d → 0 < W sw a ((lst s).drop p) i i → ∀ q, p ≤ q → q < s.size → isP (ch s q) = true ∧ E.testBit (pn (ch s q)) = true
  | 0, p, hd, h, q, h1, h2 => by omega
  | d + 1, p, hd, h, q, h1, h2 => by
    rw [lst_drop (by omega), W] at h
    by_cases hp : isP (ch s p) = true
    · rw [if_pos hp] at h
      obtain ⟨k, h3, h4, h5⟩ := sumIJ_pos h
      obtain rfl : k = i := by omega
      have ha := Nat.pos_of_mul_pos_right h5
      have hw := Nat.pos_of_mul_pos_left h5
      by_cases e : q = p
      · subst e
        exact ⟨hp, hE _ _ hp ha⟩
      · exact W_empty hE d (p + 1) (by omega) hw q (by omega) h2
    · rw [if_neg hp, if_neg (by omega)] at h
      exact absurd h (Nat.lt_irrefl _)
theorem A_empty {sw : Nat → Int} {n : Nat} (h : okG L R n) : ∀ t c i, isP c = true → 0 < A sw L (fun k => lst (R k)) n t c i i → (emptyN L R n).testBit (pn c) = true
  | 0, c, i, _, h0 => absurd h0 (Nat.lt_irrefl _)
  | t + 1, c, i, hc, h0 => by
    obtain ⟨m, hm, hl, hw⟩ := rnd_pos h0
    rw [← hl]
    refine empty_closed h hm ?_
    unfold allP
    rw [List.all_eq_true]
    intro q hq
    rw [List.mem_range] at hq
    have := W_empty (fun c i hp ha => A_empty h t c i hp ha) (s := R m) (i := i) (R m).size 0 (by omega) hw q (Nat.zero_le _) hq
    rw [this.1, this.2]
    rfl
theorem A_begins {sw : Nat → Int} {n : Nat} (h : okG L R n) : ∀ t c i j, 0 < A sw L (fun k => lst (R k)) n t c i j → i < j → (firstN L R n (pn c)).testBit (wn (sw i)) = true
  | 0, c, i, j, h0, _ => absurd h0 (Nat.lt_irrefl _)
  | t + 1, c, i, j, h0, hij => by
    obtain ⟨m, hm, hl, hw⟩ := rnd_pos h0
    rw [← hl]
    exact first_closed h hm (W_begins (fun c i j ha hb => A_begins h t c i j ha hb) (fun c i hp ha => A_empty h t c i hp ha) hij (R m).size 0 0 (by omega) hw)
theorem tree_begins {n : Nat} (h : okG L R n) {s : ByteArray} (hs : 0 < s.size) (ht : 0 < treesN 1 L R n s) : (firstN L R n (pn (L 0))).testBit (wn (ch s 0)) = true := by
  unfold treesN at ht
  exact A_begins h 600 (L 0) 0 s.size (by omega) hs
end
end Go.Proofs.YtjpfalanoifpbaaDoor.T
end

section
set_option linter.unusedVariables false
namespace Go.Proofs.YtjpfalanoifpbaaDoor.T
def Ord (a b : ByteArray) : Prop := a.size < b.size ∨ (a.size = b.size ∧ a.data.toList < b.data.toList)
theorem lt_app : ∀ {a b : List UInt8} (x y : List UInt8), a.length = b.length → a < b → a ++ x < b ++ y
  | [], [], _, _, _, h => absurd h (List.lt_irrefl _)
  | [], _ :: _, _, _, h, _ => by simp at h
  | _ :: _, [], _, _, h, _ => by simp at h
  | a :: l, b :: m, x, y, hl, h => by
    rw [List.cons_lt_cons_iff] at h
    rw [List.cons_append, List.cons_append, List.cons_lt_cons_iff]
    rcases h with h | ⟨h1, h2⟩
    · exact .inl h
    · exact .inr ⟨h1, lt_app x y (by simpa using hl) h2⟩
theorem app_lt : ∀ (a : List UInt8) {x y : List UInt8}, x < y → a ++ x < a ++ y
  | [], _, _, h => h
  | a :: l, x, y, h => by
    rw [List.cons_append, List.cons_append, List.cons_lt_cons_iff]
    exact .inr ⟨rfl, app_lt l h⟩
theorem wrd_lt {i j : Nat} (h : i < j) (hj : j < 4) : (wrd i).data.toList < (wrd j).data.toList := by
  have : (i = 0 ∧ j = 1) ∨ (i = 0 ∧ j = 2) ∨ (i = 0 ∧ j = 3) ∨ (i = 1 ∧ j = 2) ∨ (i = 1 ∧ j = 3) ∨ (i = 2 ∧ j = 3) := by omega
  rcases this with ⟨rfl, rfl⟩ | ⟨rfl, rfl⟩ | ⟨rfl, rfl⟩ | ⟨rfl, rfl⟩ | ⟨rfl, rfl⟩ | ⟨rfl, rfl⟩ <;> decide
theorem app_data (a b : ByteArray) : (a ++ b).data.toList = a.data.toList ++ b.data.toList := by
  rw [ByteArray.data_append, Array.toList_append]
theorem kids_ord (s : ByteArray) : (kids s).Pairwise Ord := by
  unfold kids kidsTo
  rw [List.pairwise_map]
  refine List.Pairwise.imp_of_mem ?_ (List.pairwise_lt_range (n := 4))
  intro i j hi hj h
  rw [List.mem_range] at hi hj
  refine .inr ⟨by rw [ByteArray.size_append, ByteArray.size_append, wrd_size, wrd_size], ?_⟩
  rw [app_data, app_data]
  exact app_lt _ (wrd_lt h hj)
theorem flat_ord : ∀ {l : List ByteArray} {k : Nat}, (∀ s ∈ l, s.size = k) → l.Pairwise Ord → (l.flatMap kids).Pairwise Ord
  | [], _, _, _ => List.Pairwise.nil
  | a :: l, k, hs, h => by
    obtain ⟨h1, h2⟩ := List.pairwise_cons.1 h
    rw [List.flatMap_cons, List.pairwise_append]
    refine ⟨kids_ord a, flat_ord (fun s hm => hs s (List.mem_cons_of_mem _ hm)) h2, fun x hx y hy => ?_⟩
    obtain ⟨i, hi, rfl⟩ := kids_mem hx
    obtain ⟨b, hb, hyb⟩ := List.mem_flatMap.1 hy
    obtain ⟨j, hj, rfl⟩ := kids_mem hyb
    have ha := hs a (List.mem_cons_self ..)
    have hb2 := hs b (List.mem_cons_of_mem _ hb)
    rcases h1 b hb with q | ⟨q1, q2⟩
    · omega
    · refine .inr ⟨by rw [ByteArray.size_append, ByteArray.size_append, wrd_size, wrd_size, q1], ?_⟩
      rw [app_data, app_data]
      exact lt_app _ _ q1 q2
theorem lev_ord : ∀ k, (lev k).Pairwise Ord
  | 0 => List.pairwise_singleton ..
  | k + 1 => flat_ord (fun s hs => lev_size hs) (lev_ord k)
theorem allL_ord : ∀ n, (allL n).Pairwise Ord
  | 0 => List.Pairwise.nil
  | n + 1 => by
    rw [allL_succ, List.pairwise_append]
    refine ⟨allL_ord n, lev_ord n, fun a ha b hb => .inl ?_⟩
    have := allL_size ha
    rw [lev_size hb]
    exact this
theorem filter_ord {p : ByteArray → Bool} {n x : Nat} {a b : ByteArray} (ha : ((allL n).filter p)[x]? = some a) (hb : ((allL n).filter p)[x + 1]? = some b) : Ord a b := by
  have h := (allL_ord n).filter p
  obtain ⟨h1, h2⟩ := List.getElem?_eq_some_iff.1 ha
  obtain ⟨h3, h4⟩ := List.getElem?_eq_some_iff.1 hb
  have := List.pairwise_iff_getElem.1 h x (x + 1) h1 h3 (by omega)
  rw [h2, h4] at this
  exact this
theorem ch_app {a b : ByteArray} {i : Nat} (h : i < a.size) : ch (a ++ b) i = ch a i := by
  have hs : i < (a ++ b).size := by rw [ByteArray.size_append]; omega
  rw [← ch_at _ i hs, ← ch_at a i h]
  congr 2
  exact ByteArray.getElem_append_left h
theorem ch_app2 {a b : ByteArray} (h : b.size = 1) : ch (a ++ b) a.size = ch b 0 := by
  have hs : a.size < (a ++ b).size := by rw [ByteArray.size_append]; omega
  rw [← ch_at _ _ hs, ← ch_at b 0 (by omega)]
  congr 2
  rw [ByteArray.getElem_append_right (Nat.le_refl _)]
  simp
theorem wrd_D (j : Nat) : isD (ch (wrd j) 0) = true := by
  unfold wrd
  split <;> decide
def allD (s : ByteArray) : Prop := ∀ i, i < s.size → isD (ch s i) = true
theorem lev_D : ∀ {k : Nat} {s : ByteArray}, s ∈ lev k → allD s
  | 0, s, h => by
    rw [lev, List.mem_singleton] at h
    rw [h]
    intro i hi
    exact absurd hi (Nat.not_lt_zero _)
  | k + 1, s, h => by
    rw [lev, List.mem_flatMap] at h
    obtain ⟨x, hx, hs⟩ := h
    obtain ⟨j, -, rfl⟩ := kids_mem hs
    intro i hi
    rw [ByteArray.size_append, wrd_size] at hi
    by_cases e : i < x.size
    · rw [ch_app e]
      exact lev_D hx i e
    · obtain rfl : i = x.size := by omega
      rw [ch_app2 (wrd_size j)]
      exact wrd_D j
theorem allL_D {n : Nat} {s : ByteArray} (h : s ∈ allL n) : allD s := by
  unfold allL at h
  rw [List.mem_flatMap] at h
  obtain ⟨k, -, hs⟩ := h
  exact lev_D hs
theorem lev_all : ∀ {k : Nat} {s : ByteArray}, s.size = k → allD s → s ∈ lev k
  | 0, s, hs, _ => by
    rw [lev, List.mem_singleton]
    apply ByteArray.ext
    exact Array.eq_empty_of_size_eq_zero hs
  | k + 1, s, hs, hd => by
    have hlen : s.data.toList.length = k + 1 := hs
    have hne : s.data.toList ≠ [] := by
      intro e
      rw [e] at hlen
      simp at hlen
    have hsz : (s.extract 0 k).size = k := by rw [ByteArray.size_extract]; omega
    have hk : k < s.size := by omega
    have hx : allD (s.extract 0 k) := by
      intro i hi
      rw [hsz] at hi
      have : ch (s.extract 0 k) i = ch s i := by
        rw [← ch_at _ i (by omega), ← ch_at s i (by omega)]
        congr 2
        rw [ByteArray.getElem_extract]
        congr 1
        omega
      rw [this]
      exact hd i (by omega)
    have hD := isD_iff.1 (hd k hk)
    obtain ⟨j, hj, hw⟩ : ∃ j : Nat, j < 4 ∧ ch s k = 97 + (j : Int) := ⟨(ch s k - 97).toNat, by omega, by omega⟩
    rw [lev, List.mem_flatMap]
    refine ⟨s.extract 0 k, lev_all hsz hx, ?_⟩
    unfold kids kidsTo
    rw [List.mem_map]
    refine ⟨j, List.mem_range.2 hj, ?_⟩
    have hb : s[k]'hk = UInt8.ofNat (97 + j) := by
      have h1 := ch_at s k hk
      rw [hw] at h1
      apply UInt8.toNat_inj.1
      rw [UInt8.toNat_ofNat']
      omega
    have hwd : wrd j = ⟨#[s[k]'hk]⟩ := by
      rw [hb]
      have : j = 0 ∨ j = 1 ∨ j = 2 ∨ j = 3 := by omega
      rcases this with rfl | rfl | rfl | rfl <;> rfl
    rw [hwd]
    apply ByteArray.ext
    apply Array.toList_inj.1
    rw [app_data]
    have e1 : (s.extract 0 k).data.toList = s.data.toList.take k := by simp
    have e2 : s[k]'hk = s.data.toList[k]'(by omega) := rfl
    rw [e1, e2]
    show List.take k s.data.toList ++ [s.data.toList[k]'(by omega)] = s.data.toList
    rw [← List.take_succ_eq_append_getElem (by omega), List.take_of_length_le (by omega)]
theorem allL_all {n : Nat} {s : ByteArray} (hs : s.size < n) (hd : allD s) : s ∈ allL n := by
  unfold allL
  rw [List.mem_flatMap]
  exact ⟨s.size, List.mem_range.2 hs, lev_all rfl hd⟩
end Go.Proofs.YtjpfalanoifpbaaDoor.T
end

section
set_option linter.unusedVariables false
set_option linter.unusedSimpArgs false
namespace Go.Proofs.YtjpfalanoifpbaaDoor.X
open Go.RowKit Go.Proofs.YtjpfalanoifpbaaDoorW.PrintWords Go.Proofs.YtjpfalanoifpbaaDoorW.PrintLast Go.Proofs.YtjpfalanoifpbaaDoorW.PrintMore Go.Proofs.YtjpfalanoifpbaaDoor.T
set_option maxHeartbeats 8000000 in
set_option maxRecDepth 100000 in
theorem idxStr_calls {B : Nat} {v : Value} {xs : List ByteArray} {w : World} (h : SR B w v xs) (hl : xs.length ≤ 100000) (s : ByteArray) :
    Calls Tryd.prog 70 #[v, .string s] w fun e w' => (∃ r : Int, e = .returned (.int .i64 r) ∧ (0 ≤ r ↔ s ∈ xs)) ∧ Below w.heap.size w w' := by
  have H1 := Lib.hid h
  obtain ⟨A1, c1, k1, hc1, -⟩ := Kd.R_reads h
  subst k1
  clear h
  go_enter Tryd.func70, Tryd.ntmps70
  go_wp2_with fail
  go_loopw [8] (fun i wr => ∃ x : Nat, x ≤ xs.length ∧ i = .int .i64 x ∧ wr = w ∧ Hid (∀ y ∈ xs.take x, y ≠ s)) (fun i _ => xs.length - (intOf i).toNat)
  case atStart => exact ⟨0, by omega, rfl, rfl, Lib.hid (fun y hy => by simp at hy)⟩
  case round =>
    obtain ⟨x, hx, rfl, rfl, HN⟩ := hrel
    by_cases hxl : x < xs.length
    · have hxI : (x : Int) < (xs.length : Int) := by omega
      obtain ⟨y, hy⟩ : ∃ y, xs[x]? = some y := ⟨_, List.getElem?_eq_getElem hxl⟩
      obtain ⟨g1, d1, e1, -⟩ := Kd.R_form H1.out (Nat.lt_of_le_of_lt (Nat.zero_le _) hxl)
      injection e1 with e1 _ e1'
      subst e1 e1'
      have f1 := str_at H1.out hy
      have hx1 : x < c1 := by omega
      have HY := Lib.hid hy
      clear hy
      by_cases hys : y = s
      · subst hys
        go_wp2
        go_ret
        exact ⟨⟨_, rfl, ⟨fun _ => List.mem_of_getElem? HY.out, fun _ => by omega⟩⟩, Below.refl _ _⟩
      · have hne : (s.toList == y.toList) = false := by
          rw [beq_eq_false_iff_ne]
          intro e
          rw [ByteArray.toList_eq, ByteArray.toList_eq] at e
          exact hys (ByteArray.ext (Array.toList_inj.1 e.symm))
        go_wp2_with fail
        refine ⟨⟨x + 1, by omega, by go_num, by trivial, Lib.hid (fun z hz => ?_)⟩, by simp [intOf]; omega⟩
        rw [take_succ_of HY.out] at hz
        rcases List.mem_append.1 hz with q | q
        · exact HN.out z q
        · rw [List.mem_singleton] at q
          rw [q]
          exact hys
    · obtain rfl : x = xs.length := by omega
      go_wp2
      go_ret
      refine ⟨⟨_, rfl, ⟨fun h => absurd h (by decide), fun h => ?_⟩⟩, Below.refl _ _⟩
      rw [List.take_length] at HN
      exact absurd rfl (HN.out s h)
set_option maxHeartbeats 4000000 in
set_option maxRecDepth 100000 in
theorem contS_calls {B : Nat} {v : Value} {xs : List ByteArray} {w : World} (h : SR B w v xs) (hl : xs.length ≤ 100000) (s : ByteArray) (r : Bool) (hr : r = true ↔ s ∈ xs) :
    Calls Tryd.prog 31 #[v, .string s] w fun e w' => e = .returned (.bool r) ∧ Below w.heap.size w w' := by
  have HC := Lib.hid (idxStr_calls h hl s)
  obtain ⟨A1, c1, k1⟩ := Kd.R_slice h
  subst k1
  clear h
  go_enter Tryd.func31, Tryd.ntmps31
  go_wp2_with fail
  refine HC.out.mono ?_
  rintro e w2 ⟨⟨i, rfl, hi⟩, hb⟩
  have HB := Lib.hid hb
  clear hb HC
  have hri : r = true ↔ 0 ≤ i := hr.trans hi.symm
  clear hr hi
  cases r with
  | true =>
    have hi0 : 0 ≤ i := hri.1 rfl
    clear hri
    go_wp2
    go_ret
    exact ⟨rfl, HB.out⟩
  | false =>
    have hi0 : decide (0 ≤ i) = false := decide_eq_false (fun h => by
      have := hri.2 h
      cases this)
    clear hri
    go_wp2
    go_ret
    exact ⟨rfl, HB.out⟩
theorem bytes_less : ∀ {x y : List UInt8}, x < y → Op.bytesLess x y = true
  | [], [], h => absurd h (List.lt_irrefl _)
  | _ :: _, [], h => absurd h (List.not_lt_nil _)
  | [], _ :: _, _ => by rw [Op.bytesLess]
  | a :: l, b :: m, h => by
    rw [List.cons_lt_cons_iff] at h
    rw [Op.bytesLess]
    rcases h with h | ⟨h1, h2⟩
    · simp [h]
    · simp [h1, bytes_less h2]
theorem geq_run {P : Program} {y s : ByteArray} (h : y.data.toList < s.data.toList) (w : World) : (Op.stringOp .geq y s).run P w = .ok (.bool false) w := by
  have hl := bytes_less h
  rw [← ByteArray.toList_eq, ← ByteArray.toList_eq] at hl
  simp [Op.stringOp, hl]
theorem geq9 {y s : ByteArray} (h : y.data.toList < s.data.toList) (w : World) : (binOp .geq 9 (.string y) (.string s)).run Tryd.prog w = .ok (.bool false) w := by
  have h1 := fun w => geq_run (P := Tryd.prog) h w
  unfold binOp
  simp [run_underlying Tryd.underlying9, h1]
theorem bit_zero (e k : Nat) (he : e < 32) (h : e.testBit k = true) : (bits .and .i64 ((e : Int) / 2 ^ k) 1 == 0) = false := by
  have h1 := bit_at e k he
  rw [h, beq_iff_eq] at h1
  rw [h1]
  rfl
structure Bgn (L : Nat → Int) (R : Nat → ByteArray) (n most : Nat) (xs : List ByteArray) : Prop where
  sz : ∀ s ∈ xs, s.size ≤ most
  ok : ∀ s ∈ xs, okS s
  bit : ∀ s ∈ xs, 0 < s.size → (firstN L R n (pn (L 0))).testBit (wn (ch s 0)) = true
  ord : ∀ x a b, xs[x]? = some a → xs[x + 1]? = some b → Ord a b
theorem bgn_words {L : Nat → Int} {R : Nat → ByteArray} {n most : Nat} (h : okG L R n) : Bgn L R n most ((allL (most + 1)).filter (has1 L R n)) where
  sz := fun s hs => by
    have := allL_size (List.mem_filter.1 hs).1
    omega
  ok := fun s hs => allL_D (List.mem_filter.1 hs).1
  bit := fun s hs h0 => tree_begins h h0 (of_decide_eq_true (List.mem_filter.1 hs).2)
  ord := fun x a b ha hb => filter_ord ha hb
theorem mem_words {L : Nat → Int} {R : Nat → ByteArray} {n most : Nat} {s : ByteArray} (hs : okS s) (hz : s.size ≤ most) : s ∈ (allL (most + 1)).filter (has1 L R n) ↔ 0 < treesN 100 L R n s := by
  rw [List.mem_filter]
  constructor
  · intro h
    have := h.2
    rw [has1_iff] at this
    exact of_decide_eq_true this
  · intro h
    exact ⟨allL_all (by omega) hs, by rw [has1_iff]; exact decide_eq_true h⟩
set_option maxHeartbeats 16000000 in
set_option maxRecDepth 100000 in
theorem Begins_yes (A : Option Addr) (n c : Nat) (L : Nat → Int) (R : Nat → ByteArray) (t : ByteArray) (most : Nat) (w : World) (hA : Sr w A n c L R) (hn : n ≤ 9223372036854775807) (hR : ∀ k, k < n → (R k).size ≤ 9223372036854775807) (ht : t.size ≤ 140737488351232) (hg : Gram L R n) (hm : most ≤ 4) :
    Calls Tryd.prog 5 #[.slice A n c, .string t, .int .i64 most] w fun e w' => e = .returned (.bool true) ∧ Below w.heap.size w w' := by
  have HO := Lib.hid (fun (w : World) (h : Sr w A n c L R) => Of_yes A n c L R w h hn hR hg)
  have HG := Lib.hid (fun (w : World) (h : Sr w A n c L R) => Grammar_calls A n c L R w h hn true (by simp [hg]))
  have HW := Lib.hid (fun (A' : Option Addr) (c' : Nat) (w : World) h => Words_yes A' n c' L R most w h hg hm)
  have HF := Lib.hid (fun (A' : Option Addr) (c' : Nat) (w : World) h => First_yes A' n c' L R w h hg)
  have HT := Lib.hid (fun (hs : Str t) (A' : Option Addr) (c' : Nat) (w : World) h => Trees_yes A' n c' L R t w h hg hs)
  have HLL := Lib.hid (allL_filter (p := has1 L R n) (n := most + 1) (by omega))
  have HBG := Lib.hid (bgn_words (L := L) (R := R) (n := n) (most := most) hg.gr.ok)
  have HMW := Lib.hid (fun (h1 : okS t) (h2 : t.size ≤ most) => mem_words (L := L) (R := R) (n := n) h1 h2)
  have H32 := Lib.hid ((first_five hg.gr.ok 25).1 (pn (L 0)))
  have H32' : Hid (firstN L R n (pn (L 0)) < 32) := H32
  have hn1 := hg.1.1
  have HL0 := Lib.hid (isP_iff.1 (hg.2 0 hg.1.1).p)
  have HA := Lib.hid hA
  clear hA hR hg H32
  obtain ⟨xs, hxs⟩ : ∃ xs, (allL (most + 1)).filter (has1 L R n) = xs := ⟨_, rfl⟩
  rw [hxs] at HW HLL HBG HMW
  clear hxs
  obtain ⟨T, hT⟩ : ∃ T, treesN 100 L R n t = T := ⟨_, rfl⟩
  rw [hT] at HT HMW
  clear hT
  obtain ⟨F, hF⟩ : ∃ F, firstN L R n = F := ⟨_, rfl⟩
  have HBT := Lib.hid HBG.out.bit
  rw [hF] at HF H32' HBT
  have hm0 : ¬ (most : Int) < 0 := by omega
  have hm4 : ¬ 4 < (most : Int) := by omega
  clear hF
  go_enter Tryd.func5, Tryd.ntmps5
  go_wp2_with fail
  refine (HO.out w HA.out).mono ?_
  rintro e w1 ⟨⟨A1, c1, rfl, hS1⟩, hb1⟩
  have HB1 := Lib.hid hb1
  have HS1 := Lib.hid hS1
  clear hb1 hS1
  go_wp2_with fail
  refine (HW.out A1 c1 w1 HS1.out).mono ?_
  rintro e w2 ⟨⟨v, rfl, hv⟩, hb2⟩
  obtain ⟨A5, c5, h5⟩ := Kd.R_slice hv
  subst h5
  have HV2 := Lib.hid hv
  have HB2 := Lib.hid (HB1.out.trans (hb2.mono HB1.out.size))
  have hc5 := (Kd.R_reads' hv).2.1
  clear hb2 hv HB1 HS1
  go_wp2_with fail
  refine (HO.out w2 (HA.out.later HB2.out)).mono ?_
  rintro e w3 ⟨⟨A3, c3, rfl, hS3⟩, hb3⟩
  have HB3 := Lib.hid (HB2.out.trans (hb3.mono HB2.out.size))
  have HV3 := Lib.hid (sr_below HV2.out hb3)
  have HS3 := Lib.hid hS3
  clear hb3 hS3 HB2 HV2
  go_wp2_with fail
  refine (HF.out A3 c3 w3 HS3.out).mono ?_
  rintro e w4 ⟨rfl, hb4⟩
  have HB4 := Lib.hid (HB3.out.trans (hb4.mono HB3.out.size))
  have HV4 := Lib.hid (sr_below HV3.out hb4)
  clear hb4 HB3 HV3 HS3
  unfold agg5
  go_wp2_with fail
  have hb5 := below_one (w := w4) (.cells (cells5 F) 23)
  have hk5 := blk_new w4 (.cells (cells5 F) 23)
  obtain ⟨w5, hw5⟩ : ∃ w5, w5 = w4.alloc (.cells (cells5 F) 23) := ⟨_, rfl⟩
  rw [← hw5] at hb5 hk5
  unfold cells5 at hw5
  rw [← hw5]
  have HB5 := Lib.hid (HB4.out.trans (hb5.mono HB4.out.size))
  have HV5 := Lib.hid (sr_below HV4.out hb5)
  have HK5 := Lib.hid hk5
  clear hb5 hk5 hw5 HB4 HV4
  generalize w4.heap.size = g5 at HK5 ⊢
  refine (HG.out w5 (HA.out.later HB5.out)).mono ?_
  rintro e w6 ⟨rfl, hb6⟩
  have HB6 := Lib.hid (HB5.out.trans (hb6.mono HB5.out.size))
  have HV6 := Lib.hid (sr_below HV5.out hb6)
  have HK6 := Lib.hid ((hb6.block _ (Array.getElem?_eq_some_iff.1 HK5.out).1).trans HK5.out)
  clear hb6 HB5 HV5 HK5
  obtain ⟨b, off, rfl, hnc, hP⟩ := HA.out.open hn1
  have c0 := (hP.later HB6.out).c0 0 hn1
  have HA6 := HA
  have hl0 := HL0.out
  obtain ⟨l0, hl0e⟩ : ∃ l0, L 0 = l0 := ⟨_, rfl⟩
  rw [hl0e] at c0 hl0 H32' HBT
  obtain ⟨p, rfl⟩ : ∃ p : Nat, l0 = (p : Int) + 65 := ⟨(l0 - 65).toNat, by omega⟩
  have hp4 : p ≤ 4 := by omega
  have hp5 : p < 5 := by omega
  have hu := u8_part hp4
  rw [show pn ((p : Int) + 65) = p by unfold pn; omega] at H32' HBT
  have g0 := five_at HK6.out hp5
  have hcp : 0 < c := by omega
  simp only [Nat.zero_mul, Nat.add_zero] at c0
  clear hP
  go_wp2_with fail
  go_loopw [59] (fun i wr => ∃ x : Nat, x ≤ xs.length ∧ i = .int .i64 x ∧ Hid (SR w1.heap.size wr (.slice A5 xs.length c5) xs) ∧ Hid (Below w.heap.size w wr)) (fun i _ => xs.length - (intOf i).toNat)
  case atStart => exact ⟨0, by omega, rfl, HV6, HB6⟩
  case round =>
    clear HV6 HB6
    obtain ⟨x, hx, rfl, HV, HB⟩ := hrel
    by_cases hxl : x < xs.length
    · have hxI : (x : Int) < (xs.length : Int) := by omega
      have hll := HLL.out
      obtain ⟨s, hs⟩ : ∃ s, xs[x]? = some s := ⟨_, List.getElem?_eq_getElem hxl⟩
      obtain ⟨g1, d1, e1, -⟩ := Kd.R_form HV.out (Nat.lt_of_le_of_lt (Nat.zero_le _) hxl)
      injection e1 with e1 _ e1'
      subst e1 e1'
      have hmem := List.mem_of_getElem? hs
      have hsm := HBG.out.sz s hmem
      have hs8 : s.size ≤ 8 := by omega
      have HRS := Lib.hid (fun w => rString_calls s (by omega) w true ⟨fun _ => ⟨hs8, HBG.out.ok s hmem⟩, fun _ => rfl⟩)
      have f1 := str_at HV.out hs
      have hx1 : x < c5 := by omega
      have HS := Lib.hid hs
      have hsmI : decide ((most : Int) < (s.size : Int)) = false := decide_eq_false (by omega)
      have HEND : Hid (x + 1 ≤ xs.length ∧ xs.length - (intOf (.int .i64 ((x : Int) + 1))).toNat < xs.length - (intOf (.int .i64 (x : Int))).toNat) := Lib.hid ⟨by omega, by simp [intOf]; omega⟩
      have HOKS := Lib.hid (HBG.out.ok s hmem)
      have HBS := Lib.hid (HBT.out s hmem)
      have hsmP : ¬ (most : Int) < (s.size : Int) := by omega
      clear hs hmem
      go_wp2_with fail
      refine (HRS.out wr).mono ?_
      rintro e w7 ⟨rfl, hb7⟩
      have HV7 := Lib.hid (sr_below HV.out hb7)
      have HB7 := Lib.hid (HB.out.trans (hb7.mono HB.out.size))
      clear hb7 f1 HRS HB HV
      by_cases h0 : s.size = 0
      · cases x with
        | zero =>
          go_wp2_with fail
          refine ⟨⟨0 + 1, HEND.out.1, by go_num, HV7, HB7⟩, HEND.out.2⟩
        | succ q =>
          obtain ⟨y, hy⟩ : ∃ y, xs[q]? = some y := ⟨_, List.getElem?_eq_getElem (by omega)⟩
          have f2 := str_at HV7.out hy
          have hord := HBG.out.ord q y s hy HS.out
          have hqc : q < c5 := by omega
          have hqP : 0 < (q : Int) + 1 := by omega
          clear hy
          rcases hord with ho | ⟨ho1, ho2⟩
          · omega
          · have hy0 : y.size = 0 := by omega
            have hl := fun w => geq9 ho2 w
            clear ho1 ho2
            go_wp2_with fail
            refine ⟨⟨q + 1 + 1, HEND.out.1, by go_num, HV7, HB7⟩, HEND.out.2⟩
      · have hz : 0 < s.size := by omega
        have hzI : 0 < (s.size : Int) := by omega
        have hD := isD_iff.1 (HOKS.out 0 hz)
        have hbt : (((s[0]'hz).toNat : Nat) : Int) = ch s 0 := ch_at s 0 hz
        have hbit := HBS.out hz
        obtain ⟨j, hj⟩ : ∃ j : Nat, ch s 0 = (j : Int) + 97 := ⟨(ch s 0 - 97).toNat, by omega⟩
        rw [hj] at hbt hbit hD
        have hj3 : j ≤ 3 := by omega
        have e2 : IntKind.u8.wrap ((j : Int) + 97 - 97) = (j : Int) := by
          unfold IntKind.wrap
          simp [IntKind.signed, IntKind.bits]
          omega
        rw [show wn ((j : Int) + 97) = j by unfold wn; omega] at hbit
        have hb := bit_zero (F p) j H32'.out hbit
        clear hj hD hbit h0
        cases x with
        | zero =>
          go_wp2_with fail
          refine ⟨⟨0 + 1, HEND.out.1, by go_num, HV7, HB7⟩, HEND.out.2⟩
        | succ q =>
          obtain ⟨y, hy⟩ : ∃ y, xs[q]? = some y := ⟨_, List.getElem?_eq_getElem (by omega)⟩
          have f2 := str_at HV7.out hy
          have hord := HBG.out.ord q y s hy HS.out
          have hqc : q < c5 := by omega
          have hqP : 0 < (q : Int) + 1 := by omega
          clear hy
          rcases hord with ho | ⟨ho1, ho2⟩
          · have k1 : ¬ (s.size : Int) < (y.size : Int) := by omega
            have k2 : ¬ (y.size : Int) = (s.size : Int) := by omega
            have k3 : ((y.size : Int) == (s.size : Int)) = false := by rw [beq_eq_false_iff_ne]; omega
            go_wp2_with fail
            refine ⟨⟨q + 1 + 1, HEND.out.1, by go_num, HV7, HB7⟩, HEND.out.2⟩
          · have hl := fun w => geq9 ho2 w
            clear ho2
            go_wp2_with fail
            refine ⟨⟨q + 1 + 1, HEND.out.1, by go_num, HV7, HB7⟩, HEND.out.2⟩
    · obtain rfl : x = xs.length := by omega
      have hll := HLL.out
      obtain ⟨rs, hrs⟩ : ∃ rs : Bool, rs = true ↔ t.size ≤ 8 ∧ okS t := by
        by_cases q : t.size ≤ 8 ∧ okS t
        · exact ⟨true, by simp [q]⟩
        · exact ⟨false, by simp [q]⟩
      have HRS := Lib.hid (fun w => rString_calls t (by omega) w rs hrs)
      have HRI := Lib.hid hrs
      clear hrs
      go_wp2_with fail
      refine (HRS.out wr).mono ?_
      rintro e w7 ⟨rfl, hb7⟩
      have HV7 := Lib.hid (sr_below HV.out hb7)
      have HB7 := Lib.hid (HB.out.trans (hb7.mono HB.out.size))
      clear hb7 HRS HB HV
      cases rs with
      | false =>
        go_wp2_with fail
        refine (awake_calls w7).mono ?_
        rintro e w8 ⟨rfl, hb8⟩
        have HB8 := Lib.hid (HB7.out.trans (hb8.mono HB7.out.size))
        clear hb8
        go_wp2
        go_ret
        exact ⟨rfl, HB8.out⟩
      | true =>
        have hst := HRI.out.1 rfl
        by_cases htm : most < t.size
        · have htI : (most : Int) < (t.size : Int) := by omega
          go_wp2_with fail
          refine (awake_calls w7).mono ?_
          rintro e w8 ⟨rfl, hb8⟩
          have HB8 := Lib.hid (HB7.out.trans (hb8.mono HB7.out.size))
          clear hb8
          go_wp2
          go_ret
          exact ⟨rfl, HB8.out⟩
        · have htI : ¬ (most : Int) < (t.size : Int) := by omega
          have HTT := Lib.hid (HT.out ⟨hst.1, hst.2⟩)
          have hmw := HMW.out hst.2 (by omega)
          obtain ⟨rc, hrc, hrT⟩ : ∃ rc : Bool, (rc = true ↔ t ∈ xs) ∧ rc = decide (0 < (T : Int)) := by
            by_cases q : 0 < T
            · exact ⟨true, by simp [hmw, q], by rw [decide_eq_true (by omega)]⟩
            · exact ⟨false, by simp [hmw]; omega, by rw [decide_eq_false (by omega)]⟩
          have HCS := Lib.hid (fun (w : World) (hv : SR w1.heap.size w (.slice A5 xs.length c5) xs) => contS_calls hv hll t rc hrc)
          clear hmw hrc hst htm
          go_wp2_with fail
          refine (HO.out w7 (HA6.out.later HB7.out)).mono ?_
          rintro e w8 ⟨⟨A8, c8, rfl, hS8⟩, hb8⟩
          have HB8 := Lib.hid (HB7.out.trans (hb8.mono HB7.out.size))
          have HV8 := Lib.hid (sr_below HV7.out hb8)
          have HS8 := Lib.hid hS8
          clear hb8 hS8 HB7 HV7
          go_wp2_with fail
          refine (HTT.out A8 c8 w8 HS8.out).mono ?_
          rintro e w9 ⟨rfl, hb9⟩
          have HB9 := Lib.hid (HB8.out.trans (hb9.mono HB8.out.size))
          have HV9 := Lib.hid (sr_below HV8.out hb9)
          clear hb9 HB8 HV8
          go_wp2_with fail
          refine (HCS.out w9 HV9.out).mono ?_
          rintro e w10 ⟨rfl, hb10⟩
          have HB10 := Lib.hid (HB9.out.trans (hb10.mono HB9.out.size))
          clear hb10 HB9
          subst hrT
          go_wp2_with fail
          refine (awake_calls w10).mono ?_
          rintro e w11 ⟨rfl, hb11⟩
          have HB11 := Lib.hid (HB10.out.trans (hb11.mono HB10.out.size))
          clear hb11
          go_wp2
          go_ret
          exact ⟨rfl, HB11.out⟩
end Go.Proofs.YtjpfalanoifpbaaDoor.X
end

section
set_option linter.unusedVariables false
set_option linter.unusedSimpArgs false
namespace Go.Proofs.YtjpfalanoifpbaaDoor.X
open Go.RowKit Go.Proofs.YtjpfalanoifpbaaDoorW.PrintWords Go.Proofs.YtjpfalanoifpbaaDoorW.PrintLast Go.Proofs.YtjpfalanoifpbaaDoorW.PrintMore Go.Proofs.YtjpfalanoifpbaaDoor.T
set_option maxHeartbeats 8000000 in
set_option maxRecDepth 100000 in
theorem Begins_most (A : Option Addr) (n c : Nat) (L : Nat → Int) (R : Nat → ByteArray) (t : ByteArray) (most : Int) (w : World) (hA : Sr w A n c L R) (hn : n ≤ 9223372036854775807) (hR : ∀ k, k < n → (R k).size ≤ 9223372036854775807) (hg : Gram L R n) (hm : ¬ (0 ≤ most ∧ most ≤ 4)) :
    Calls Tryd.prog 5 #[.slice A n c, .string t, .int .i64 most] w fun e w' => e = .returned (.bool true) ∧ Below w.heap.size w w' := by
  have HO := Lib.hid (fun (w : World) (h : Sr w A n c L R) => Of_yes A n c L R w h hn hR hg)
  have h8 := hg.1.2
  have HW := Lib.hid (fun (A' : Option Addr) (c' : Nat) (w : World) h => Words_no A' n c' L R most w h (by omega) (fun k hk => Nat.le_trans (hg.2 k hk).sz (by decide)) (fun q => hm q.2))
  have HF := Lib.hid (fun (A' : Option Addr) (c' : Nat) (w : World) h => First_yes A' n c' L R w h hg)
  have HA := Lib.hid hA
  clear hA hR hg hm
  generalize firstN L R n = F at HF
  go_enter Tryd.func5, Tryd.ntmps5
  go_wp2_with fail
  refine (HO.out w HA.out).mono ?_
  rintro e w1 ⟨⟨A1, c1, rfl, hS1⟩, hb1⟩
  have HB1 := Lib.hid hb1
  have HS1 := Lib.hid hS1
  clear hb1 hS1
  go_wp2_with fail
  refine (HW.out A1 c1 w1 HS1.out).mono ?_
  rintro e w2 ⟨rfl, hb2⟩
  have HB2 := Lib.hid (HB1.out.trans (hb2.mono HB1.out.size))
  clear hb2 HB1 HS1
  go_wp2_with fail
  refine (HO.out w2 (HA.out.later HB2.out)).mono ?_
  rintro e w3 ⟨⟨A3, c3, rfl, hS3⟩, hb3⟩
  have HB3 := Lib.hid (HB2.out.trans (hb3.mono HB2.out.size))
  have HS3 := Lib.hid hS3
  clear hb3 hS3 HB2
  go_wp2_with fail
  refine (HF.out A3 c3 w3 HS3.out).mono ?_
  rintro e w4 ⟨rfl, hb4⟩
  have HB4 := Lib.hid (HB3.out.trans (hb4.mono HB3.out.size))
  clear hb4 HB3
  unfold agg5
  go_wp2_with fail
  have hb5 := below_one (w := w4) (.cells (cells5 F) 23)
  obtain ⟨w5, hw5⟩ : ∃ w5, w5 = w4.alloc (.cells (cells5 F) 23) := ⟨_, rfl⟩
  rw [← hw5] at hb5
  unfold cells5 at hw5
  rw [← hw5]
  have HB5 := Lib.hid (HB4.out.trans (hb5.mono HB4.out.size))
  clear hb5 hw5 HB4
  refine (awake_calls w5).mono ?_
  rintro e w6 ⟨rfl, hb6⟩
  have HB6 := Lib.hid (HB5.out.trans (hb6.mono HB5.out.size))
  clear hb6 HB5
  go_wp2
  go_ret
  exact ⟨rfl, HB6.out⟩
set_option maxHeartbeats 8000000 in
set_option maxRecDepth 100000 in
theorem Begins_no (A : Option Addr) (n c : Nat) (L : Nat → Int) (R : Nat → ByteArray) (t : ByteArray) (most : Int) (w : World) (hA : Sr w A n c L R) (hn : n ≤ 9223372036854775807) (hR : ∀ k, k < n → (R k).size ≤ 9223372036854775807) (hg : ¬ Gram L R n) :
    Calls Tryd.prog 5 #[.slice A n c, .string t, .int .i64 most] w fun e w' => e = .returned (.bool true) ∧ Below w.heap.size w w' := by
  have HO := Lib.hid (fun (w : World) (h : Sr w A n c L R) => Of_calls A n c L R w h hn hR)
  have hng : ¬ Gram L (fun k => cut12 (R k)) (mnN n 11) := fun q => hg (cut_gram q)
  have h11 := mnN_le n 11
  have HW := Lib.hid (fun (A' : Option Addr) (c' : Nat) (w : World) h => Words_no A' (mnN n 11) c' L (fun k => cut12 (R k)) most w h (by omega) (fun k _ => cut12_1000 _) (fun q => hng q.1))
  have HF := Lib.hid (fun (A' : Option Addr) (c' : Nat) (w : World) h => First_no A' (mnN n 11) c' L (fun k => cut12 (R k)) w h (by omega) (fun k _ => cut12_1000 _) hng)
  have HA := Lib.hid hA
  clear hA hR hg hng h11
  generalize mnN n 11 = m at HO HW HF
  go_enter Tryd.func5, Tryd.ntmps5
  go_wp2_with fail
  refine (HO.out w HA.out).mono ?_
  rintro e w1 ⟨⟨A1, c1, rfl, hS1⟩, hb1⟩
  have HB1 := Lib.hid hb1
  have HS1 := Lib.hid hS1
  clear hb1 hS1
  go_wp2_with fail
  refine (HW.out A1 c1 w1 HS1.out).mono ?_
  rintro e w2 ⟨rfl, hb2⟩
  have HB2 := Lib.hid (HB1.out.trans (hb2.mono HB1.out.size))
  clear hb2 HB1 HS1
  go_wp2_with fail
  refine (HO.out w2 (HA.out.later HB2.out)).mono ?_
  rintro e w3 ⟨⟨A3, c3, rfl, hS3⟩, hb3⟩
  have HB3 := Lib.hid (HB2.out.trans (hb3.mono HB2.out.size))
  have HS3 := Lib.hid hS3
  clear hb3 hS3 HB2
  go_wp2_with fail
  refine (HF.out A3 c3 w3 HS3.out).mono ?_
  rintro e w4 ⟨rfl, hb4⟩
  have HB4 := Lib.hid (HB3.out.trans (hb4.mono HB3.out.size))
  clear hb4 HB3
  unfold agg5
  go_wp2_with fail
  have hb5 := below_one (w := w4) (.cells (cells5 fun _ => 0) 23)
  obtain ⟨w5, hw5⟩ : ∃ w5, w5 = w4.alloc (.cells (cells5 fun _ => 0) 23) := ⟨_, rfl⟩
  rw [← hw5] at hb5
  unfold cells5 at hw5
  rw [show ((0 : Nat) : Int) = 0 from rfl] at hw5
  rw [← hw5]
  have HB5 := Lib.hid (HB4.out.trans (hb5.mono HB4.out.size))
  clear hb5 hw5 HB4
  refine (awake_calls w5).mono ?_
  rintro e w6 ⟨rfl, hb6⟩
  have HB6 := Lib.hid (HB5.out.trans (hb6.mono HB5.out.size))
  clear hb6 HB5
  go_wp2
  go_ret
  exact ⟨rfl, HB6.out⟩
theorem TablesBegins.calls (A : Option Addr) (n c : Nat) (L : Nat → Int) (R : Nat → ByteArray) (t : ByteArray) (most : Int) (w : World) (hA : Sr w A n c L R) (hR : ∀ k, k < n → (R k).size ≤ 9223372036854775807) (hn : n ≤ 9223372036854775807) (hc : c ≤ 9223372036854775807) (ht : t.size ≤ 140737488351232) :
    Calls Tryd.prog 5 #[.slice A n c, .string t, .int .i64 most] w fun e w' => e = .returned (.bool true) ∧ Below w.heap.size w w' := by
  by_cases hg : Gram L R n
  · by_cases hm : 0 ≤ most ∧ most ≤ 4
    · obtain ⟨k, rfl⟩ := Int.eq_ofNat_of_zero_le hm.1
      exact Begins_yes A n c L R t k w hA hn hR ht hg (by omega)
    · exact Begins_most A n c L R t most w hA hn hR hg hm
  · exact Begins_no A n c L R t most w hA hn hR hg
end Go.Proofs.YtjpfalanoifpbaaDoor.X
end
