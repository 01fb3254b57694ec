/- Texts of this claim, merged by a program (wip/tools/shake.py); what nothing names is left out. -/
import Derived.Maps.RangeRun
import Derived.Lib.SliceRun
import Derived.Shelf.SlSortCmp.InsertionK
import Derived.Test.YtjpfalanoifpbaaDoorSda
section
set_option linter.unusedVariables false
set_option linter.unusedSimpArgs false
namespace Go.Proofs.YtjpfalanoifpbaaDoor.X
open Go.RowKit Go.Proofs.YtjpfalanoifpbaaDoorW.PrintWords Go.Proofs.YtjpfalanoifpbaaDoorW.PrintLast Go.Proofs.YtjpfalanoifpbaaDoorW.PrintMore Go.Proofs.YtjpfalanoifpbaaDoor.T
structure Fo (w : World) (g : Nat) (sl : Value) (s : ByteArray) (M r : Nat) (a : Cnt) : Prop where
  blk : w.heap[g]? = some (.cells #[sl, .string s, .int .i64 (M : Nat), .map (some r)] 138 (0, 0))
  map : ∃ l, IsM triV natV w r l ∧ ∀ c i j, (findL l (c, i, j)).getD 0 = a c i j
theorem Fo.later {w w' : World} {g : Nat} {sl : Value} {s : ByteArray} {M r : Nat} {a : Cnt} (h : Fo w g sl s M r a) (hb : Below w.heap.size w w') : Fo w' g sl s M r a := by
  obtain ⟨l, h1, h2⟩ := h.map
  exact ⟨(hb.block _ (Array.getElem?_eq_some_iff.1 h.blk).1).trans h.blk, l, h1.below hb, h2⟩
theorem Fo.c1 {w : World} {g : Nat} {sl : Value} {s : ByteArray} {M r : Nat} {a : Cnt} (h : Fo w g sl s M r a) : w.cell? ⟨g, 1, none⟩ = some (.string s) := by
  rw [blk_cell h.blk]
  rfl
theorem Fo.c2 {w : World} {g : Nat} {sl : Value} {s : ByteArray} {M r : Nat} {a : Cnt} (h : Fo w g sl s M r a) : w.cell? ⟨g, 2, none⟩ = some (.int .i64 (M : Nat)) := by
  rw [blk_cell h.blk]
  rfl
theorem Fo.c3 {w : World} {g : Nat} {sl : Value} {s : ByteArray} {M r : Nat} {a : Cnt} (h : Fo w g sl s M r a) : w.cell? ⟨g, 3, none⟩ = some (.map (some r)) := by
  rw [blk_cell h.blk]
  rfl
theorem zero3 : ∀ w, (zeroValue 3).run Tryd.prog w = .ok (natV 0) w := fun _ => by kernel_rfl
set_option maxHeartbeats 2000000 in
set_option maxRecDepth 100000 in
theorem count_calls {g : Nat} {sl : Value} {s : ByteArray} {M r : Nat} {a : Cnt} {w : World} (h : Fo w g sl s M r a) (c : Int) (hc : 0 ≤ c ∧ c < 256) (i j : Nat) :
    Calls Tryd.prog 101 #[.pointer (some ⟨g, 0, none⟩), .int .u8 c, .int .i64 i, .int .i64 j] w fun e w' => e = .returned (.int .i64 (a c i j : Nat)) ∧ w' = w := by
  obtain ⟨l, hl, ha⟩ := h.map
  have c3 := h.c3
  have hw : IntKind.i64.wrap c = c := by rw [IntKind.wrap_i64]; omega
  have HZ := Lib.hid zero3
  have HL := Lib.hid hl
  have HA := Lib.hid ha
  clear h hl ha
  go_enter Tryd.func101, Tryd.ntmps101
  go_wp2_with (first | ((with_reducible refine gate_dst (N := 18) rfl ?_); refine map_get_event rfl 136 (.tmp 12) (.tmp 17) false rfl Tryd.underlying136 (enc := triV) (encv := natV) HZ.out keyOk_tri (c, i, j) rfl rfl HL.out ?_; rw [HA.out]; simp only [Bool.false_eq_true, if_false]))
  go_ret
  exact ⟨rfl, rfl⟩
theorem wrap_small {x : Int} (h0 : 0 ≤ x) (h1 : x ≤ 100000) : wrap64 x = x := by
  unfold wrap64
  omega
theorem cap_min {C p M : Nat} (hC : C ≤ 101) (hp : p ≤ 10201) (hM : M ≤ 101) : (if (M : Int) < wrap64 ((C : Int) + (p : Int)) then (M : Int) else wrap64 ((C : Int) + (p : Int))) = ((min (C + p) M : Nat) : Int) := by
  obtain ⟨x, hx⟩ : ∃ x, C + p = x := ⟨_, rfl⟩
  have e : (C : Int) + (p : Int) = (x : Int) := by rw [← hx]; simp
  rw [e, hx, wrap_small (by omega) (by omega)]
  split <;> omega
theorem cap_min2 {C p M : Nat} (hC : C ≤ 101) (hp : p ≤ 10201) : min (wrap64 ((C : Int) + (p : Int))) (M : Int) = ((min (C + p) M : Nat) : Int) := by
  obtain ⟨x, hx⟩ : ∃ x, C + p = x := ⟨_, rfl⟩
  have e : (C : Int) + (p : Int) = (x : Int) := by rw [← hx]; simp
  rw [e, hx, wrap_small (by omega) (by omega)]
  omega
theorem size_zero {q : ByteArray} (h : q.size = 0) : q = ByteArray.empty := by
  apply ByteArray.ext
  exact Array.eq_empty_of_size_eq_zero h
set_option maxHeartbeats 4000000 in
set_option maxRecDepth 100000 in
theorem ways_zero {g : Nat} {sl : Value} {s : ByteArray} {M r : Nat} {a : Cnt} (q : ByteArray) (i j : Nat) (w : World) (hq : q.size = 0) (h : Fo w g sl s M r a) :
    Calls Tryd.prog 99 #[.pointer (some ⟨g, 0, none⟩), .string q, .int .i64 i, .int .i64 j] w fun e w' => e = .returned (.int .i64 (cW M (ch s) a (lst q) i j : Nat)) ∧ Below w.heap.size w w' := by
  obtain rfl := size_zero hq
  rw [lst_nil hq, cW]
  clear hq
  by_cases hij : i = j
  · rw [if_pos hij]
    have hI : (i : Int) = j := by omega
    go_enter Tryd.func99, Tryd.ntmps99
    go_wp2
    go_ret
    exact ⟨rfl, Below.refl _ _⟩
  · rw [if_neg hij]
    have hI : ¬ (i : Int) = j := by omega
    go_enter Tryd.func99, Tryd.ntmps99
    go_wp2
    go_ret
    exact ⟨rfl, Below.refl _ _⟩
theorem toList_ne {q : ByteArray} (h : 0 < q.size) : q.toList.isEmpty = false := by
  have h2 : q.size = q.data.toList.length := rfl
  cases hq : q.toList with
  | nil =>
    rw [ByteArray.toList_eq] at hq
    rw [hq] at h2
    have h3 : q.size = 0 := h2
    omega
  | cons x l => rfl
def WaysAt (g : Nat) (sl : Value) (s : ByteArray) (M r : Nat) (a : Cnt) (d : Nat) : Prop := ∀ (q : ByteArray) (i j : Nat) (w : World), q.size = d → okR q → i ≤ 9 → j ≤ s.size → Fo w g sl s M r a →
    Calls Tryd.prog 99 #[.pointer (some ⟨g, 0, none⟩), .string q, .int .i64 i, .int .i64 j] w fun e w' => e = .returned (.int .i64 (cW M (ch s) a (lst q) i j : Nat)) ∧ Below w.heap.size w w'
set_option maxHeartbeats 4000000 in
set_option maxRecDepth 100000 in
theorem ways_step {g : Nat} {sl : Value} {s : ByteArray} {M r : Nat} {a : Cnt} (hM : 0 < M ∧ M ≤ 101) (ha : ∀ c i j, a c i j ≤ M) (hs8 : s.size ≤ 8) (d : Nat) (hd4 : d < 4) (IH : WaysAt g sl s M r a d) : WaysAt g sl s M r a (d + 1) := by
  intro q i j w hd hok hi hj hF
  have hne : q.toList.isEmpty = false := toList_ne (by omega)
  have hl := lst_cons (s := q) (by omega)
  have hq0 := hok 0 (by omega)
  have hch := ch_range q 0
  have hqs : (q.extract 1 q.size).size = d := by rw [ByteArray.size_extract]; omega
  have HI : Hid (∀ (i j : Nat) (w : World), i ≤ 9 → j ≤ s.size → Fo w g sl s M r a → Calls Tryd.prog 99 #[.pointer (some ⟨g, 0, none⟩), .string (q.extract 1 q.size), .int .i64 i, .int .i64 j] w fun e w' => e = .returned (.int .i64 (cW M (ch s) a (lst (q.extract 1 q.size)) i j : Nat)) ∧ Below w.heap.size w w') := Lib.hid (fun i j w => IH _ i j w hqs (okR_tail hok 1))
  obtain ⟨c, hc⟩ : ∃ c, ch q 0 = c := ⟨_, rfl⟩
  rw [hc] at hl hq0 hch
  obtain ⟨X, hX⟩ : ∃ X, cW M (ch s) a (lst q) i j = X := ⟨_, rfl⟩
  rw [hX]
  rw [hl, cW] at hX
  have HX := Lib.hid hX
  have HF := Lib.hid hF
  have HC := Lib.hid hc
  have HA := Lib.hid ha
  have HD := Lib.hid hd
  have hq1 : 0 < q.size := by omega
  have hq2 : 1 ≤ q.size := by omega
  clear hF hl hc ha IH hok hqs hX hd
  have hbt : (((q[0]'hq1).toNat : Nat) : Int) = c := (ch_at q 0 hq1).trans HC.out
  go_enter Tryd.func99, Tryd.ntmps99
  go_wp2_with fail
  go_quiet (fail)
  have HB := Lib.hid (pw_below_drewN (Below.refl w.heap.size w) nq)
  have HF := Lib.hid (HF.out.later HB.out)
  generalize w.drewN nq = w1 at HB HF ⊢
  go_wp2_with fail
  refine (isPart_calls c w1).mono ?_
  rintro e w2 ⟨rfl, rfl⟩
  cases hp : isP c with
  | false =>
    have HX2 := Lib.hid (show X = if i < j ∧ ch s i = c then cW M (ch s) a (lst (q.extract 1 q.size)) (i + 1) j else 0 by rw [← HX.out, hp, if_neg (by decide)])
    by_cases hij : i < j
    · have hI : (i : Int) < j := by omega
      have his : i < s.size := by omega
      have c1 := HF.out.c1
      have hbi : (((s[i]'his).toNat : Nat) : Int) = ch s i := ch_at s i his
      obtain ⟨x, hx⟩ : ∃ x, ch s i = x := ⟨_, rfl⟩
      rw [hx] at hbi
      have HXX := Lib.hid hx
      clear hx
      by_cases hxc : x = c
      · subst hxc
        have HX3 := Lib.hid (HX2.out.trans (if_pos ⟨hij, HXX.out⟩))
        have hi1 : i + 1 ≤ 9 := by omega
        go_wp2_with fail
        refine (HI.out (i + 1) j w2 hi1 hj HF.out).mono ?_
        rintro e w3 ⟨rfl, hb3⟩
        have HB3 := Lib.hid (HB.out.trans (hb3.mono HB.out.size))
        clear hb3
        go_wp2
        go_ret
        rw [HX3.out]
        exact ⟨rfl, HB3.out⟩
      · have HX3 := Lib.hid (HX2.out.trans (if_neg (fun q => hxc (HXX.out.symm.trans q.2))))
        go_wp2
        go_ret
        rw [HX3.out]
        exact ⟨rfl, HB.out⟩
    · have hI : ¬ (i : Int) < j := by omega
      have HX3 := Lib.hid (HX2.out.trans (if_neg (fun q => hij q.1)))
      go_wp2
      go_ret
      rw [HX3.out]
      exact ⟨rfl, HB.out⟩
  | true =>
    have HX2 := Lib.hid (show X = csum M (fun k => a c i k) (fun k => cW M (ch s) a (lst (q.extract 1 q.size)) k j) i (j + 1 - i) by rw [← HX.out, hp, if_pos rfl])
    clear HX
    obtain ⟨f, hf⟩ : ∃ f, (fun k => a c i k) = f := ⟨_, rfl⟩
    obtain ⟨h, hh⟩ : ∃ h, (fun k => cW M (ch s) a (lst (q.extract 1 q.size)) k j) = h := ⟨_, rfl⟩
    rw [hf, hh] at HX2
    have HFM := Lib.hid (show ∀ k, f k ≤ M by intro k; rw [← hf]; exact HA.out _ _ _)
    have HHM := Lib.hid (show ∀ k, h k ≤ M by intro k; rw [← hh]; exact cW_le hM.1 _ _ _)
    have HFE := Lib.hid (show ∀ k, a c i k = f k by intro k; rw [← hf])
    have HHE := Lib.hid (show ∀ k, cW M (ch s) a (lst (q.extract 1 q.size)) k j = h k by intro k; rw [← hh])
    clear hf hh
    go_wp2_with fail
    go_loopw [11, 12, 13] (fun o k v wr => ∃ e : Nat, e ≤ j + 1 - i ∧ o = .int .i64 (csum M f h i e : Nat) ∧ k = .int .i64 ((i + e : Nat) : Int) ∧ Hid (Below w.heap.size w wr) ∧ Hid (Fo wr g sl s M r a)) (fun _ k _ _ => j + 1 - (intOf k).toNat)
    case atStart => exact ⟨0, by omega, rfl, rfl, HB, HF⟩
    case round =>
      clear HB HF
      obtain ⟨e, he, rfl, rfl, HB, HF⟩ := hrel
      obtain ⟨x, hx⟩ : ∃ x, i + e = x := ⟨_, rfl⟩
      obtain ⟨C, hC⟩ : ∃ C, csum M f h i e = C := ⟨_, rfl⟩
      have hCM : C ≤ M := by rw [← hC]; exact csum_le _
      rw [hx, hC]
      by_cases hlt : x ≤ j
      · have hltI : (x : Int) ≤ j := by omega
        have HS1 : Hid (csum M f h i (e + 1) = if 0 < f x then min (C + f x * h x) M else C) := Lib.hid (by rw [csum, hx, hC])
        have HEX : Hid (e + 1 ≤ j + 1 - i ∧ i + (e + 1) = x + 1) := Lib.hid (by omega)
        have hx9 : x ≤ 9 := by omega
        clear hC hx
        go_wp2_with fail
        refine (count_calls HF.out c hch i x).mono ?_
        rintro e w2 ⟨rfl, rfl⟩
        rw [HFE.out]
        have hfm := HFM.out x
        have hhm := HHM.out x
        have HHX := Lib.hid (HHE.out x)
        obtain ⟨y, hy⟩ : ∃ y, f x = y := ⟨_, rfl⟩
        obtain ⟨z, hz⟩ : ∃ z, h x = z := ⟨_, rfl⟩
        rw [hy, hz] at HS1
        rw [hz] at HHX
        rw [hy] at hfm ⊢
        rw [hz] at hhm
        clear hy hz
        by_cases hpos : 0 < y
        · have hposI : 0 < (y : Int) := by omega
          have HS2 := Lib.hid (HS1.out.trans (if_pos hpos))
          obtain ⟨p, hpp⟩ : ∃ p, y * z = p := ⟨_, rfl⟩
          have hpb : p ≤ 10201 := by
            rw [← hpp]
            exact Nat.mul_le_mul (show y ≤ 101 by omega) (show z ≤ 101 by omega)
          have hpi : (y : Int) * (z : Int) = (p : Int) := by rw [← hpp]; simp
          rw [hpp] at HS2
          clear hpp
          have hwp : IntKind.i64.wrap (p : Int) = (p : Int) := i64_nat (Nat.lt_of_le_of_lt hpb (by decide))
          have hmi := cap_min (C := C) (p := p) (M := M) (by omega) hpb hM.2
          have hmj : min (wrap64 ((C : Int) + (p : Int))) (M : Int) = ((min (C + p) M : Nat) : Int) := cap_min2 (by omega) hpb
          generalize min (C + p) M = m at HS2 hmi hmj
          have c2 := HF.out.c2
          go_upto_region 16 with fail
          refine start_ (n := 15) (S := fun w' => w'.cell? ⟨g, 2, none⟩ = some (.int .i64 (M : Nat)) ∧ w'.cell? ⟨g, 1, none⟩ = some (.string s)) (ds := []) #[false, false, false, false, false, false, false, false, false, false, false, false, false, false, false] (by kernel_rfl) rfl rfl ⟨HF.out.c2, HF.out.c1⟩ (fun hHeld => ?_)
          refine pure_ (i := 0) (N := (some 58)) (v := ?_) (a' := ?_) #[true, false, false, false, false, false, false, false, false, false, false, false, false, false, false] rfl rfl (by kernel_rfl) (fun _ _ _ h => h) (Or.inl ⟨by rfl, ?_⟩) ?_ ?_
          rotate_left
          · intro w'; go_simp; first | done | with_reducible rfl
          rotate_left
          · simp only [Act.put, List.setIfInBounds_toArray, List.set_cons_zero, List.set_cons_succ, i64_w, i32_w]; rfl
          refine pure_ (i := 1) (N := (some 59)) (v := ?_) (a' := ?_) #[true, true, false, false, false, false, false, false, false, false, false, false, false, false, false] rfl rfl (by kernel_rfl) (fun _ _ _ h => h) (Or.inl ⟨by rfl, ?_⟩) ?_ ?_
          rotate_left
          · intro w'; go_simp; first | done | with_reducible rfl
          rotate_left
          · simp only [Act.put, List.setIfInBounds_toArray, List.set_cons_zero, List.set_cons_succ, i64_w, i32_w]; rfl
          refine pure_ (i := 2) (N := (some 60)) (v := ?_) (a' := ?_) #[true, true, true, false, false, false, false, false, false, false, false, false, false, false, false] rfl rfl (by kernel_rfl) (fun _ _ _ h => h) (Or.inl ⟨by rfl, ?_⟩) ?_ ?_
          rotate_left
          · intro w'; go_simp; first | done | with_reducible rfl
          rotate_left
          · simp only [Act.put, List.setIfInBounds_toArray, List.set_cons_zero, List.set_cons_succ, i64_w, i32_w]; rfl
          refine pure_ (i := 3) (N := (some 61)) (v := ?_) (a' := ?_) #[true, true, true, true, false, false, false, false, false, false, false, false, false, false, false] rfl rfl (by kernel_rfl) (fun _ _ _ h => h) (Or.inl ⟨by rfl, ?_⟩) ?_ ?_
          rotate_left
          · intro w'; go_simp; first | done | with_reducible rfl
          rotate_left
          · simp only [Act.put, List.setIfInBounds_toArray, List.set_cons_zero, List.set_cons_succ, i64_w, i32_w]; rfl
          refine pure_ (i := 4) (N := (some 62)) (v := ?_) (a' := ?_) #[true, true, true, true, true, false, false, false, false, false, false, false, false, false, false] rfl rfl (by kernel_rfl) (fun _ _ _ h => h) (Or.inl ⟨by rfl, ?_⟩) ?_ ?_
          rotate_left
          · intro w'; go_simp; first | done | with_reducible rfl
          rotate_left
          · simp only [Act.put, List.setIfInBounds_toArray, List.set_cons_zero, List.set_cons_succ, i64_w, i32_w]; rfl
          refine pure_ (i := 5) (N := (some 63)) (v := ?_) (a' := ?_) #[true, true, true, true, true, true, false, false, false, false, false, false, false, false, false] rfl rfl (by kernel_rfl) (fun _ _ _ h => h) (Or.inl ⟨by rfl, ?_⟩) ?_ ?_
          rotate_left
          · intro w'; go_simp; first | done | with_reducible rfl
          rotate_left
          · simp only [Act.put, List.setIfInBounds_toArray, List.set_cons_zero, List.set_cons_succ, i64_w, i32_w]; rfl
          refine pure_ (i := 9) (N := (some 67)) (v := ?_) (a' := ?_) #[true, true, true, true, true, true, false, false, false, true, false, false, false, false, false] rfl rfl (by kernel_rfl) (fun _ _ _ h => h) (Or.inl ⟨by rfl, ?_⟩) ?_ ?_
          rotate_left
          · intro w'; go_simp; first | done | with_reducible rfl
          rotate_left
          · simp only [Act.put, List.setIfInBounds_toArray, List.set_cons_zero, List.set_cons_succ, i64_w, i32_w]; rfl
          refine pure_ (i := 10) (N := (some 68)) (v := ?_) (a' := ?_) #[true, true, true, true, true, true, false, false, false, true, true, false, false, false, false] rfl rfl (by kernel_rfl) (fun _ _ _ h => h) (Or.inl ⟨by rfl, ?_⟩) ?_ ?_
          rotate_left
          · intro w'; go_simp; first | done | with_reducible rfl
          rotate_left
          · simp only [Act.put, List.setIfInBounds_toArray, List.set_cons_zero, List.set_cons_succ, i64_w, i32_w]; rfl
          refine pure_ (i := 11) (N := (some 69)) (v := ?_) (a' := ?_) #[true, true, true, true, true, true, false, false, false, true, true, true, false, false, false] rfl rfl (by kernel_rfl) (fun _ _ _ h => h) (Or.inl ⟨by rfl, ?_⟩) ?_ ?_
          rotate_left
          · intro w'; go_simp; first | done | with_reducible rfl
          rotate_left
          · simp only [Act.put, List.setIfInBounds_toArray, List.set_cons_zero, List.set_cons_succ, i64_w, i32_w]; rfl
          refine take_ (i := 12) (N := (some 70)) (v := ?_) (a' := ?_) #[true, true, true, true, true, true, false, false, false, true, true, true, true, false, false] rfl rfl (by kernel_rfl) (fun _ _ _ h => h) (Or.inl ⟨by rfl, ?_⟩) hHeld ?_ ?_
          rotate_left
          · rintro w' ⟨s0, s1⟩; go_simp; first | done | with_reducible rfl
          rotate_left
          · simp only [Act.put, List.setIfInBounds_toArray, List.set_cons_zero, List.set_cons_succ, i64_w, i32_w]; rfl
          refine one_ (i := 6) (N := (some 64)) #[true, true, true, true, true, true, true, false, false, true, true, true, true, false, false] rfl rfl (by kernel_rfl) (by decide) (fun K hK => ?_)
          refine goes_ Tryd.func99 (by kernel_rfl) rfl #[.pointer (some ⟨g, 0, none⟩), .string (q.extract 1 q.size), .int .i64 x, .int .i64 j] (by rfl) rfl rfl (by (try simp only [List.map_toArray, List.map_cons, List.map_nil]); first | done | rfl) ?_
          refine (HI.out x j _ hx9 hj (HF.out.later (Below.refl _ _).drew)).mono ?_
          rintro e w3 ⟨rfl, hb3⟩
          refine ⟨_, rfl, ?_⟩
          rw [HHX.out]
          have hbd := (Below.refl w2.heap.size w2).drew.trans hb3
          have HB3 := Lib.hid (HB.out.trans (hbd.mono HB.out.size))
          have HF3 := Lib.hid (HF.out.later hbd)
          clear hb3 hbd HB HF c2
          refine hK.out _ _ ⟨HF3.out.c2, HF3.out.c1⟩ (fun hHeld => ?_)
          clear hK K
          refine norm_ (a' := ?_) ?_ ?_
          rotate_left
          · show Act.put _ (some 64) _ = _; simp only [Act.put, List.setIfInBounds_toArray, List.set_cons_zero, List.set_cons_succ, i64_w, i32_w]; rfl
          refine pure_ (i := 7) (N := (some 65)) (v := (.int .i64 (p : Nat))) (a' := ?_) #[true, true, true, true, true, true, true, true, false, true, true, true, true, false, false] rfl rfl (by kernel_rfl) (fun _ _ _ h => h) (Or.inl ⟨by rfl, ?_⟩) ?_ ?_
          · intro w'; go_simp; first | done | with_reducible rfl
          rotate_left
          · simp only [Act.put, List.setIfInBounds_toArray, List.set_cons_zero, List.set_cons_succ, i64_w, i32_w]; rfl
          refine pure_ (i := 8) (N := (some 66)) (v := ?_) (a' := ?_) #[true, true, true, true, true, true, true, true, true, true, true, true, true, false, false] rfl rfl (by kernel_rfl) (fun _ _ _ h => h) (Or.inl ⟨by rfl, ?_⟩) ?_ ?_
          rotate_left
          · intro w'; go_simp; first | done | with_reducible rfl
          rotate_left
          · simp only [Act.put, List.setIfInBounds_toArray, List.set_cons_zero, List.set_cons_succ, i64_w, i32_w]; rfl
          refine pure_ (i := 13) (N := (some 71)) (v := (.int .i64 (m : Nat))) (a' := ?_) #[true, true, true, true, true, true, true, true, true, true, true, true, true, true, false] rfl rfl (by kernel_rfl) (fun _ _ _ h => h) (Or.inl ⟨by rfl, ?_⟩) ?_ ?_
          · intro w'; go_simp; first | done | with_reducible rfl
          rotate_left
          · simp only [Act.put, List.setIfInBounds_toArray, List.set_cons_zero, List.set_cons_succ, i64_w, i32_w]; rfl
          refine pure_ (i := 14) (N := (some 11)) (v := ?_) (a' := ?_) #[true, true, true, true, true, true, true, true, true, true, true, true, true, true, true] rfl rfl (by kernel_rfl) (fun _ _ _ h => h) (Or.inl ⟨by rfl, ?_⟩) ?_ ?_
          rotate_left
          · intro w'; go_simp; first | done | with_reducible rfl
          rotate_left
          · simp only [Act.put, List.setIfInBounds_toArray, List.set_cons_zero, List.set_cons_succ, i64_w, i32_w]; rfl
          refine done_ (by kernel_rfl) ?_
          go_wp2_with fail
          refine ⟨⟨e + 1, HEX.out.1, by rw [HS2.out], by rw [HEX.out.2]; go_num, HB3, HF3⟩, by simp [intOf]; omega⟩
        · have HS2 := Lib.hid (HS1.out.trans (if_neg hpos))
          obtain rfl : y = 0 := by omega
          go_wp2_with fail
          refine ⟨⟨e + 1, HEX.out.1, by rw [HS2.out], by rw [HEX.out.2]; go_num, HB, HF⟩, by simp [intOf]; omega⟩
      · have hltI : ¬ (x : Int) ≤ j := by omega
        obtain rfl : e = j + 1 - i := by omega
        have HX3 := Lib.hid (HX2.out.trans hC)
        go_wp2
        go_ret
        rw [HX3.out]
        exact ⟨rfl, HB.out⟩
theorem ways_calls {g : Nat} {sl : Value} {s : ByteArray} {M r : Nat} {a : Cnt} (hM : 0 < M ∧ M ≤ 101) (ha : ∀ c i j, a c i j ≤ M) (hs8 : s.size ≤ 8) : ∀ d, d ≤ 4 → WaysAt g sl s M r a d
  | 0, _ => fun q i j w hd _ _ _ hF => ways_zero q i j w hd hF
  | d + 1, h => ways_step hM ha hs8 d (by omega) (ways_calls hM ha hs8 d (by omega))
end Go.Proofs.YtjpfalanoifpbaaDoor.X
end

section
set_option linter.unusedVariables false
set_option linter.unusedSimpArgs false
namespace Go.Proofs.YtjpfalanoifpbaaDoor.X
open Go.RowKit Go.Proofs.YtjpfalanoifpbaaDoorW.PrintWords Go.Proofs.YtjpfalanoifpbaaDoorW.PrintLast Go.Proofs.YtjpfalanoifpbaaDoorW.PrintMore Go.Proofs.YtjpfalanoifpbaaDoor.T
structure Itr (w0 w : World) (r1 r2 r : Nat) (es : Array MapEntry) (clock : Nat) (l2 : List (Tri × Nat)) (seen : Array Nat) (c0 : Nat) : Prop where
  it : w.heap[r]? = some (.mapIter (some r1) clock seen c0)
  le : clock ≤ c0
  m1 : w.heap[r1]? = some (.map es clock)
  m2 : IsM triV natV w r2 l2
  bl : Below w0.heap.size w0 w
theorem Itr.later {w0 w w' : World} {r1 r2 r : Nat} {es : Array MapEntry} {clock : Nat} {l2 : List (Tri × Nat)} {seen : Array Nat} {c0 : Nat} (h : Itr w0 w r1 r2 r es clock l2 seen c0) (hb : Below w.heap.size w w') : Itr w0 w' r1 r2 r es clock l2 seen c0 :=
  ⟨(hb.block _ (Array.getElem?_eq_some_iff.1 h.it).1).trans h.it, h.le, (hb.block _ (Array.getElem?_eq_some_iff.1 h.m1).1).trans h.m1, h.m2.below hb, h.bl.trans (hb.mono h.bl.size)⟩
theorem Itr.step {w0 w w1 : World} {r1 r2 r : Nat} {es : Array MapEntry} {clock : Nat} {l2 : List (Tri × Nat)} {seen : Array Nat} {c0 : Nat} (h : Itr w0 w r1 r2 r es clock l2 seen c0) (hr : w0.heap.size ≤ r) (hw : w1 = w ∨ w1 = w.drew) (b : Nat) : Itr w0 (Go.ChangeMaps.setBlock w1 r (.mapIter (some r1) clock (seen.push b) clock)) r1 r2 r es clock l2 (seen.push b) clock := by
  have h1 : Itr w0 w1 r1 r2 r es clock l2 seen c0 := by
    rcases hw with rfl | rfl
    · exact h
    · exact h.later (Below.refl _ _).drew
  have hne1 : r1 ≠ r := by
    rintro e
    have := h1.it
    rw [← e, h1.m1] at this
    cases this
  have hne2 : r2 ≠ r := by
    rintro e
    obtain ⟨es2, clock2, hb2, _⟩ := h1.m2
    have := h1.it
    rw [← e, hb2] at this
    cases this
  have ho : ∀ k, k ≠ r → (Go.ChangeMaps.setBlock w1 r (.mapIter (some r1) clock (seen.push b) clock)).heap[k]? = w1.heap[k]? := fun k hk => Array.getElem?_setIfInBounds_ne (Ne.symm hk)
  refine ⟨Array.getElem?_setIfInBounds_self_of_lt (Array.getElem?_eq_some_iff.1 h1.it).1, Nat.le_refl _, (ho _ hne1).trans h1.m1, h1.m2.of_heap (ho _ hne2), ?_⟩
  exact h1.bl.trans ⟨rfl, rfl, rfl, by simp [Go.ChangeMaps.setBlock], fun k hk => ho k (by omega)⟩
theorem iter_seen {w : World} {r : Nat} {a : Option Nat} {b : Nat} {s : Array Nat} {c : Nat} (h : w.heap[r]? = some (.mapIter a b s c)) : w.iterSeen r = s := by
  unfold World.iterSeen
  rw [h]
def Agrees (l2 : List (Tri × Nat)) (x : MapEntry) : Prop := ∀ u v, x.key = triV u → x.val = natV v → (findL l2 u).getD 0 = v
theorem natV_inj {a b : Nat} (h : natV a = natV b) : a = b := by
  unfold natV at h
  injection h with _ h
  exact_mod_cast h
set_option maxHeartbeats 4000000 in
set_option maxRecDepth 100000 in
theorem same_calls {r1 r2 : Nat} {l1 l2 : List (Tri × Nat)} {w : World} (h1 : IsM triV natV w r1 l1) (h2 : IsM triV natV w r2 l2) :
    Calls Tryd.prog 100 #[.map (some r1), .map (some r2)] w fun e w' => (∃ b, e = .returned (.bool b) ∧ (b = true → ∀ p ∈ l1, (findL l2 p.1).getD 0 = p.2)) ∧ Below w.heap.size w w' := by
  obtain ⟨es, clock, hb, hl, hst⟩ := h1
  have hrg := run_range_map (P := Tryd.prog) w 136 139 3 r1 es clock Tryd.underlying136 hb
  have HI : Hid (Itr w (w.alloc (.mapIter (some r1) clock #[] clock)) r1 r2 w.heap.size es clock l2 #[] clock) := Lib.hid ⟨blk_new _ _, Nat.le_refl _, ((below_one (w := w) (.mapIter (some r1) clock #[] clock)).block _ (Array.getElem?_eq_some_iff.1 hb).1).trans hb, h2.below (below_one _), below_one _⟩
  have HEV := Lib.hid (show ∀ x ∈ es.toList, ∃ u v, x.key = triV u ∧ x.val = natV v ∧ (u, v) ∈ l1 from fun x hx => by
    have h3 : (x.key, x.val) ∈ es.toList.map fun e => (e.key, e.val) := List.mem_map.2 ⟨x, hx, rfl⟩
    rw [hl] at h3
    obtain ⟨p, hp, e⟩ := List.mem_map.1 h3
    exact ⟨p.1, p.2, (congrArg Prod.fst e).symm, (congrArg Prod.snd e).symm, hp⟩)
  have HVE := Lib.hid (show ∀ p ∈ l1, ∃ x ∈ es.toList, x.key = triV p.1 ∧ x.val = natV p.2 from fun p hp => by
    have h3 : (triV p.1, natV p.2) ∈ l1.map fun p => (triV p.1, natV p.2) := List.mem_map.2 ⟨p, hp, rfl⟩
    rw [← hl] at h3
    obtain ⟨x, hx, e⟩ := List.mem_map.1 h3
    exact ⟨x, hx, congrArg Prod.fst e, congrArg Prod.snd e⟩)
  have HST := Lib.hid hst
  have HZ := Lib.hid zero3
  clear hb hl hst h2
  go_enter Tryd.func100, Tryd.ntmps100
  go_wp2_with fail
  clear hrg
  generalize w.alloc (.mapIter (some r1) clock #[] clock) = w0 at HI ⊢
  obtain ⟨r, hr⟩ : ∃ r, w.heap.size = r := ⟨_, rfl⟩
  rw [hr] at HI ⊢
  go_loopw [] (fun wr => ∃ (seen : Array Nat) (c0 : Nat), Hid (Itr w wr r1 r2 r es clock l2 seen c0) ∧ Hid (∀ x ∈ es.toList, seen.contains x.born = true → Agrees l2 x)) (fun wr => (leftOf es (wr.iterSeen r)).size)
  case atStart => exact ⟨#[], clock, HI, Lib.hid (fun x _ h => by simp at h)⟩
  case round =>
    clear HI
    obtain ⟨seen, c0, HI, HA⟩ := hrel
    rcases run_next_at (P := Tryd.prog) wr 0 r r1 clock c0 seen es clock HI.out.it HI.out.m1 HST.out.1 HI.out.le with ⟨h0, hrun⟩ | ⟨e, he, w1, hw1, hrun⟩
    · have hnx : ∀ ty, (Instr.next (.pointer (some ⟨r, 0, none⟩)) false ty).run Tryd.prog wr = _ := fun _ => hrun
      clear hrun
      go_wp2
      go_ret
      refine ⟨⟨true, rfl, fun _ p hp => ?_⟩, HI.out.bl⟩
      obtain ⟨x, hx, hk, hv⟩ := HVE.out p hp
      exact HA.out x hx (all_seen es seen h0 x hx) p.1 p.2 hk hv
    · have hem := (mem_left he).1
      obtain ⟨u, v, hk, hv, hp⟩ := HEV.out e hem
      have HI2 := Lib.hid (HI.out.step (by omega) hw1 e.born)
      have hen := run_entry_at (P := Tryd.prog) _ r r1 clock seen es clock e HI2.out.it HI2.out.m1 hem HST.out.2.1
      have HLS := Lib.hid (show (leftOf es (seen.push e.born)).size < (leftOf es (wr.iterSeen r)).size by rw [iter_seen HI.out.it]; exact left_shrinks es seen e he)
      have HE : Hid (∀ x ∈ es.toList, (seen.push e.born).contains x.born = true → seen.contains x.born = true ∨ x = e) := Lib.hid (fun x hx hc => by
        rw [contains_push] at hc
        rcases Bool.or_eq_true _ _ ▸ hc with h1 | h1
        · exact .inl h1
        · exact .inr (born_inj HST.out.2.1 hx hem (beq_iff_eq.1 h1)))
      rw [hk, hv] at hrun hen
      have HKV := Lib.hid (And.intro hk hv)
      obtain ⟨w2, hw2⟩ : ∃ w2, Go.ChangeMaps.setBlock w1 r (.mapIter (some r1) clock (seen.push e.born) clock) = w2 := ⟨_, rfl⟩
      rw [hw2] at hrun hen HI2
      have hnx : ∀ ty, (Instr.next (.pointer (some ⟨r, 0, none⟩)) false ty).run Tryd.prog wr = _ := fun _ => hrun
      generalize e.born = eb at *
      clear hrun hw2 he hk hv hem
      unfold triV natV at hen hnx
      have HI3 := Lib.hid (HI2.out.later (below_one (w := w2) (.cells #[.int .i64 u.1, .int .i64 (u.2.1 : Nat), .int .i64 (u.2.2 : Nat)] 139)))
      have HA2 := Lib.hid (show (findL l2 u).getD 0 = v → ∀ x ∈ es.toList, (seen.push eb).contains x.born = true → Agrees l2 x from fun hy x hx hc => by
        rcases HE.out x hx hc with h1 | h1
        · exact HA.out x hx h1
        · intro u' v' k1 k2
          rw [h1, HKV.out.1] at k1
          rw [h1, HKV.out.2] at k2
          rw [← keyOk_tri.inj _ _ k1, ← natV_inj k2]
          exact hy)
      obtain ⟨y, hy⟩ : ∃ y, (findL l2 u).getD 0 = y := ⟨_, rfl⟩
      rw [hy] at HA2
      have HY := Lib.hid hy
      clear hy
      by_cases hyv : y = v
      · subst hyv
        go_wp2_with (first | ((with_reducible refine gate_dst (N := 16) rfl ?_); refine map_get_event rfl 136 (.tmp 14) (.tmp 15) false rfl Tryd.underlying136 (enc := triV) (encv := natV) HZ.out keyOk_tri u rfl rfl HI3.out.m2 ?_; rw [HY.out]; simp only [Bool.false_eq_true, if_false]; unfold natV))
        refine ⟨⟨seen.push eb, clock, HI3, Lib.hid (HA2.out rfl)⟩, ?_⟩
        rw [iter_seen HI3.out.it]
        exact HLS.out
      · have hyI : ¬ (y : Int) = (v : Int) := by omega
        go_wp2_with (first | ((with_reducible refine gate_dst (N := 16) rfl ?_); refine map_get_event rfl 136 (.tmp 14) (.tmp 15) false rfl Tryd.underlying136 (enc := triV) (encv := natV) HZ.out keyOk_tri u rfl rfl HI3.out.m2 ?_; rw [HY.out]; simp only [Bool.false_eq_true, if_false]; unfold natV))
        go_ret
        exact ⟨⟨false, rfl, fun h => by cases h⟩, HI3.out.bl⟩
end Go.Proofs.YtjpfalanoifpbaaDoor.X
end

section
set_option linter.unusedVariables false
set_option linter.unusedSimpArgs false
namespace Go.Proofs.YtjpfalanoifpbaaDoor.X
open Go.RowKit Go.Proofs.YtjpfalanoifpbaaDoorW.PrintWords Go.Proofs.YtjpfalanoifpbaaDoorW.PrintLast Go.Proofs.YtjpfalanoifpbaaDoorW.PrintMore Go.Proofs.YtjpfalanoifpbaaDoor.T
def MapC (w : World) (r : Nat) (b : Cnt) : Prop := ∃ l, IsM triV natV w r l ∧ ∀ c i j, (findL l (c, i, j)).getD 0 = b c i j
theorem MapC.later {w w' : World} {r : Nat} {b : Cnt} (h : MapC w r b) (hb : Below w.heap.size w w') : MapC w' r b := by
  obtain ⟨l, h1, h2⟩ := h
  exact ⟨l, h1.below hb, h2⟩
theorem MapC.congr {w : World} {r : Nat} {b b' : Cnt} (h : MapC w r b) (e : ∀ c i j, b c i j = b' c i j) : MapC w r b' := by
  obtain ⟨l, h1, h2⟩ := h
  exact ⟨l, h1, fun c i j => (h2 c i j).trans (e c i j)⟩
theorem MapC.lt {w : World} {r : Nat} {b : Cnt} (h : MapC w r b) : r < w.heap.size := by
  obtain ⟨l, h1, _⟩ := h
  exact h1.lt
theorem MapC.new {w w1 : World} (h1 : w1.heap[w.heap.size]? = some (.map #[] 0)) : MapC w1 w.heap.size fun _ _ _ => 0 :=
  ⟨[], ⟨#[], 0, h1, rfl, Go.MapKept.stamped_empty 0⟩, fun _ _ _ => rfl⟩
structure Tr (w0 w : World) (g : Nat) (sl : Value) (s : ByteArray) (M rk rn : Nat) (a b : Cnt) : Prop where
  fo : Fo w g sl s M rk a
  nx : MapC w rn b
  bl : Below w0.heap.size w0 w
  hg : w0.heap.size ≤ g
  hk : w0.heap.size ≤ rk
  hn : w0.heap.size ≤ rn
  ne : rk ≠ rn
theorem Tr.later {w0 w w' : World} {g : Nat} {sl : Value} {s : ByteArray} {M rk rn : Nat} {a b : Cnt} (h : Tr w0 w g sl s M rk rn a b) (hb : Below w.heap.size w w') : Tr w0 w' g sl s M rk rn a b :=
  ⟨h.fo.later hb, h.nx.later hb, h.bl.trans (hb.mono h.bl.size), h.hg, h.hk, h.hn, h.ne⟩
theorem Tr.congr {w0 w : World} {g : Nat} {sl : Value} {s : ByteArray} {M rk rn : Nat} {a b b' : Cnt} (h : Tr w0 w g sl s M rk rn a b) (e : ∀ c i j, b c i j = b' c i j) : Tr w0 w g sl s M rk rn a b' :=
  ⟨h.fo, h.nx.congr e, h.bl, h.hg, h.hk, h.hn, h.ne⟩
theorem Tr.gn {w0 w : World} {g : Nat} {sl : Value} {s : ByteArray} {M rk rn : Nat} {a b : Cnt} (h : Tr w0 w g sl s M rk rn a b) : g ≠ rn := by
  rintro rfl
  obtain ⟨l, ⟨es, clock, hb, _⟩, _⟩ := h.nx
  have := h.fo.blk
  rw [hb] at this
  cases this
theorem Tr.put {w0 w : World} {g : Nat} {sl : Value} {s : ByteArray} {M rk rn : Nat} {a b b' : Cnt} (h : Tr w0 w g sl s M rk rn a b) (c : Int) (i j m : Nat) (e : ∀ c' i' j', b' c' i' j' = if (c', i', j') = (c, i, j) then m else b c' i' j') :
    ∃ w1, (Instr.mapUpdate 136 (.map (some rn)) (triV (c, i, j)) (natV m)).run Tryd.prog w = .ok () w1 ∧ Tr w0 w1 g sl s M rk rn a b' := by
  obtain ⟨l, h1, h2⟩ := h.nx
  obtain ⟨o, hrun, hm⟩ := run_update_is Tryd.underlying136 keyOk_tri h1 (c, i, j) m
  have hot : ∀ k, k ≠ rn → (putObj w rn o).heap[k]? = w.heap[k]? := fun k hk => Array.getElem?_setIfInBounds_ne (Ne.symm hk)
  obtain ⟨lk, hk1, hk2⟩ := h.fo.map
  refine ⟨_, hrun, ⟨(hot _ h.gn).trans h.fo.blk, lk, hk1.of_heap (hot _ h.ne), hk2⟩, ⟨_, hm, fun c' i' j' => ?_⟩, h.bl.trans ⟨rfl, rfl, rfl, by simp [putObj], fun k hk => hot k (by have := h.hn; omega)⟩, h.hg, h.hk, h.hn, h.ne⟩
  rw [findL_putL, e]
  by_cases q : (c', i', j') = (c, i, j)
  · rw [if_pos q.symm, if_pos q]
    rfl
  · rw [if_neg (fun z => q z.symm), if_neg q]
    exact h2 c' i' j'
theorem Tr.turn {w0 w : World} {g : Nat} {sl : Value} {s : ByteArray} {M rk rn : Nat} {a b : Cnt} (h : Tr w0 w g sl s M rk rn a b) : Fo (w.setCell ⟨g, 3, none⟩ (.map (some rn))) g sl s M rn b ∧ Below w0.heap.size w0 (w.setCell ⟨g, 3, none⟩ (.map (some rn))) := by
  refine ⟨⟨?_, ?_⟩, h.bl.setCell (p := ⟨g, 3, none⟩) h.hg _⟩
  · have := blk_set h.fo.blk 3 (.map (some rn))
    rw [this]
    rfl
  · obtain ⟨l, h1, h2⟩ := h.nx
    exact ⟨l, h1.of_heap (Below.heap_setCell w ⟨g, 3, none⟩ _ rn (Ne.symm h.gn)), h2⟩
theorem Tr.look {w0 w : World} {g : Nat} {sl : Value} {s : ByteArray} {M rk rn : Nat} {a b : Cnt} (h : Tr w0 w g sl s M rk rn a b) (c : Int) (i j : Nat) :
    (Instr.lookup 136 (.map (some rn)) (.agg #[.int .i64 c, .int .i64 (i : Nat), .int .i64 (j : Nat)]) false).run Tryd.prog w = .ok (.int .i64 (b c i j : Nat)) w := by
  obtain ⟨l, h1, h2⟩ := h.nx
  have := run_lookup_is Tryd.underlying136 (z := 0) zero3 keyOk_tri h1 (c, i, j) false
  rw [h2] at this
  exact this
theorem Tr.agree {w0 w : World} {g : Nat} {sl : Value} {s : ByteArray} {M rk rn : Nat} {a b : Cnt} (h : Tr w0 w g sl s M rk rn a b) : ∃ l1 l2, IsM triV natV w rn l1 ∧ IsM triV natV w rk l2 ∧ ((∀ p ∈ l1, (findL l2 p.1).getD 0 = p.2) → ∀ c i j, b c i j = a c i j ∨ b c i j = 0) := by
  obtain ⟨l1, h1, h2⟩ := h.nx
  obtain ⟨l2, h3, h4⟩ := h.fo.map
  refine ⟨l1, l2, h1, h3, fun hp c i j => ?_⟩
  rw [← h2, ← h4]
  cases hf : findL l1 (c, i, j) with
  | none => exact .inr rfl
  | some v => exact .inl (hp _ (findL_mem hf)).symm
theorem trees_fin {sw : Nat → Int} {L : Nat → Int} {rt : Nat → List Int} {n N M m j : Nat} {a b : Cnt} (H : Ok sw L rt N n) (hM : 0 < M) (hm : m ≤ 600) (ha : ∀ c x y, y ≤ N → a c x y = cA M sw L rt n m c x y) (hb : ∀ c x y, b c x y = nx M sw L rt n N a (N + 1) j 0 c x y) (hag : ∀ c x y, b c x y = a c x y ∨ b c x y = 0) (c : Int) (x y : Nat) (hy : y ≤ N) : a c x y = cA M sw L rt n 600 c x y := by
  have key : ∀ c x y, y ≤ N → cA M sw L rt n (m + 1) c x y = cA M sw L rt n m c x y := fun c x y hy => by
    have h1 := nx_cA hM H ha (j := j) c x y hy
    rw [← hb] at h1
    have h2 := cA_up (M := M) (sw := sw) (L := L) (rt := rt) (n := n) m c x y
    rcases hag c x y with h3 | h3
    · rw [← h1, h3, ha c x y hy]
    · omega
  have := cA_stands hM key (600 - m) c x y hy
  rw [show m + (600 - m) = 600 by omega] at this
  rw [ha c x y hy, this]
theorem wrap_add {v z p : Nat} (hv : v ≤ 101) (hz : z ≤ 101) (hp : v + z = p) : wrap64 ((v : Int) + (z : Int)) = (p : Int) := by
  have e : (v : Int) + (z : Int) = (p : Int) := by rw [← hp]; simp
  rw [e, wrap_small (by omega) (by omega)]
theorem wrap_addk {v z p : Nat} (hv : v ≤ 101) (hz : z ≤ 101) (hp : v + z = p) : IntKind.i64.wrap ((v : Int) + (z : Int)) = (p : Int) := by
  have e : (v : Int) + (z : Int) = (p : Int) := by rw [← hp]; simp
  rw [e]
  exact i64_nat (Nat.lt_of_le_of_lt (show p ≤ 202 by omega) (by decide))
theorem min_cast (p M : Nat) : min (p : Int) (M : Int) = ((min p M : Nat) : Int) := by omega
theorem key_new (w : World) (a b c : Value) : (w.alloc (.cells #[a, b, c] 139)).heap[w.heap.size]? = some (.cells #[a, b, c] 139 (0, 0)) := blk_new w _
set_option maxHeartbeats 16000000 in
set_option maxRecDepth 100000 in
theorem trees_calls (A : Option Addr) (n c : Nat) (L : Nat → Int) (R : Nat → ByteArray) (s : ByteArray) (M : Nat) (w : World) (hA : Sr w A n c L R) (hg : Gr L R n) (hs8 : s.size ≤ 8) (hM : 0 < M ∧ M ≤ 101) :
    Calls Tryd.prog 66 #[.slice A n c, .string s, .int .i64 (M : Nat)] w fun e w' => e = .returned (.int .i64 (treesN M L R n s : Nat)) ∧ Below w.heap.size w w' := by
  obtain ⟨b, off, rfl, hnc, hP⟩ := hA.open hg.n1
  have HP := Lib.hid hP
  have HG := Lib.hid hg
  have hn8 := hg.n8
  have hn1 := hg.n1
  have HOK : Hid (Ok (ch s) L (fun k => lst (R k)) s.size n) := Lib.hid (Gs.Ok ⟨hg.ok, hs8⟩)
  have HM := Lib.hid hM
  clear hA hP hg
  obtain ⟨X, hT⟩ : ∃ X, treesN M L R n s = X := ⟨_, rfl⟩
  have HT : Hid (cA M (ch s) L (fun k => lst (R k)) n 600 (L 0) 0 s.size = X) := Lib.hid hT
  rw [hT]
  clear hT
  obtain ⟨rt, hrt⟩ : ∃ rt, (fun k => lst (R k)) = rt := ⟨_, rfl⟩
  rw [hrt] at HT HOK
  have HRT := Lib.hid (show ∀ k, rt k = lst (R k) from fun k => by rw [← hrt])
  clear hrt
  go_enter Tryd.func66, Tryd.ntmps66
  go_wp2_with (first | ((with_reducible refine gate_op (op := .makeMap 136 none) rfl ?_); refine map_make_event rfl 136 rfl ?_; intro rk wm hrk hmk hbk; have HMK := Lib.hid hmk; have HBK := Lib.hid hbk; have HRK := Lib.hid hrk; clear hmk hbk hrk) | ((with_reducible refine gate_dst (N := 19) rfl ?_); refine box_event ?hg (N := 19) ?hd (cs := #[.slice (some ⟨b, off, none⟩) n c, .string s, .int .i64 (M : Nat), .map (some rk)]) (t := 138) ?hr ?_; (case hd => rfl); (case hg => rfl); (case hr => first | (go_simp; done) | (go_simp; rfl)); intro gw hgw wb hbw hbb; have HBX := Lib.hid hbw; have HGW := Lib.hid hgw; have HB0 := Lib.hid (hbb); clear hgw hbw hbb))
  have HB := Lib.hid (below_step HBK.out HB0.out)
  have HFO : Hid (Fo wb gw (.slice (some ⟨b, off, none⟩) n c) s M rk fun _ _ _ => 0) := Lib.hid ⟨HBX.out, by
    have h1 : wb.heap[rk]? = some (.map #[] 0) := (HB0.out.block _ (Array.getElem?_eq_some_iff.1 HMK.out).1).trans HMK.out
    exact ⟨[], ⟨#[], 0, h1, rfl, Go.MapKept.stamped_empty 0⟩, fun _ _ _ => rfl⟩⟩
  have HG2 : Hid (w.heap.size ≤ gw) := Lib.hid (by rw [HGW.out]; exact HBK.out.size)
  have HK2 : Hid (w.heap.size ≤ rk) := Lib.hid (Nat.le_of_eq HRK.out.symm)
  clear HMK HBK HRK HBX HGW HB0
  obtain ⟨sl, hsl⟩ : ∃ sl, Value.slice (some ⟨b, off, none⟩) n c = sl := ⟨_, rfl⟩
  rw [hsl] at HFO
  clear hsl
  go_wp2_with fail
  go_loopw [20] (fun i wr => ∃ (m rk : Nat) (a : Cnt), m ≤ 600 ∧ i = .int .i64 m ∧ Hid (∀ c x y, y ≤ s.size → a c x y = cA M (ch s) L rt n m c x y) ∧ Hid (∀ c x y, a c x y ≤ M) ∧ Hid (Fo wr gw sl s M rk a) ∧ Hid (Below w.heap.size w wr) ∧ Hid (w.heap.size ≤ rk)) (fun i _ => 600 - (intOf i).toNat)
  case atStart => exact ⟨0, rk, _, by omega, rfl, Lib.hid (fun c x y _ => by simp [cA, T.A]), Lib.hid (fun _ _ _ => Nat.zero_le _), HFO, HB, HK2⟩
  case round =>
    clear HFO HB HK2
    obtain ⟨m, rk, a, hm, rfl, HA, HAM, HFO, HB, HK2⟩ := hrel
    by_cases hlt : m < 600
    · have hltI : (m : Int) < 600 := by omega
      go_wp2_with (first | ((with_reducible refine gate_op (op := .makeMap 136 none) rfl ?_); refine map_make_event rfl 136 rfl ?_; intro rn wm hrn hmn hbn; have HMN := Lib.hid hmn; have HBN := Lib.hid hbn; have HRN := Lib.hid hrn; clear hmn hbn hrn))
      have HTR : Hid (Tr w wm gw sl s M rk rn a fun _ _ _ => 0) := Lib.hid ⟨HFO.out.later HBN.out, by rw [HRN.out]; rw [HRN.out] at HMN; exact MapC.new HMN.out, HB.out.trans (HBN.out.mono HB.out.size), HG2.out, HK2.out, by rw [HRN.out]; exact HB.out.size, by
        obtain ⟨l, h1, _⟩ := HFO.out.map
        have := h1.lt
        have := HRN.out
        omega⟩
      have HTS := Lib.hid (HTR.out.congr (b' := nx M (ch s) L rt n s.size a 0 0 0) (fun c x y => (nx_start c x y).symm))
      clear HFO HB HMN HBN HRN HTR
      go_wp2_with fail
      go_loopw [26] (fun i wr => ∃ x : Nat, x ≤ s.size + 1 ∧ i = .int .i64 x ∧ Hid (Tr w wr gw sl s M rk rn a (nx M (ch s) L rt n s.size a x x 0))) (fun i _ => s.size + 1 - (intOf i).toNat)
      case atStart => exact ⟨0, by omega, rfl, HTS⟩
      case round =>
        clear HTS
        obtain ⟨x, hx, rfl, HTS⟩ := hrel
        by_cases hxl : x < s.size + 1
        · have hxI : (x : Int) < (s.size : Int) + 1 := by omega
          go_wp2_with fail
          go_loopw [10] (fun j wr => ∃ y : Nat, x ≤ y ∧ y ≤ s.size + 1 ∧ j = .int .i64 y ∧ Hid (Tr w wr gw sl s M rk rn a (nx M (ch s) L rt n s.size a x y 0))) (fun j _ => s.size + 1 - (intOf j).toNat)
          case atStart => exact ⟨x, by omega, by omega, rfl, HTS⟩
          case round =>
            clear HTS
            obtain ⟨y, hxy, hy, rfl, HTS⟩ := hrel
            by_cases hyl : y ≤ s.size
            · have hyI : (y : Int) ≤ (s.size : Int) := by omega
              go_wp2_with fail
              go_loopw [38] (fun i wr => ∃ k : Nat, k ≤ n ∧ i = .int .i64 k ∧ Hid (Tr w wr gw sl s M rk rn a (nx M (ch s) L rt n s.size a x y k))) (fun i _ => n - (intOf i).toNat)
              case atStart => exact ⟨0, by omega, rfl, HTS⟩
              case round =>
                clear HTS
                obtain ⟨k, hk, rfl, HTS⟩ := hrel
                by_cases hkn : k < n
                · have hkI : (k : Int) < (n : Int) := by omega
                  have c0 := (HP.out.later HTS.out.bl).c0 k hkn
                  have c1 := (HP.out.later HTS.out.bl).c1 k hkn
                  have hkc : k < c := by omega
                  obtain ⟨l, hl⟩ : ∃ l, L k = l := ⟨_, rfl⟩
                  obtain ⟨q, hq⟩ : ∃ q, R k = q := ⟨_, rfl⟩
                  have hlp : isP l = true := by rw [← hl]; exact (HG.out.ok k hkn).1
                  have hl5 := isP_iff.1 hlp
                  have HQ : Hid (okR q ∧ q.size ≤ 4) := Lib.hid (by rw [← hq]; exact ⟨(HG.out.ok k hkn).2, HG.out.sz k hkn⟩)
                  have HLR : Hid (L k = l ∧ rt k = lst q) := Lib.hid ⟨hl, by rw [HRT.out, hq]⟩
                  rw [hl] at c0
                  rw [hq] at c1
                  have hwl : IntKind.i64.wrap l = l := by rw [IntKind.wrap_i64]; omega
                  clear hl hq hlp
                  go_upto_region 15 with fail
                  obtain ⟨d0, d1⟩ := rule_new wr 60 l q
                  have hbA := below_one (w := wr) (.cells #[.int .u8 l, .string q] 60)
                  obtain ⟨wa, hwa⟩ : ∃ wa, wa = wr.alloc (.cells #[.int .u8 l, .string q] 60) := ⟨_, rfl⟩
                  have hza : wa.heap.size = wr.heap.size + 1 := by rw [hwa]; simp
                  rw [← hwa] at d0 d1 hbA ⊢
                  have hkb := key_new wa (.int .i64 l) (.int .i64 (x : Nat)) (.int .i64 (y : Nat))
                  have hbB := below_one (w := wa) (.cells #[.int .i64 l, .int .i64 (x : Nat), .int .i64 (y : Nat)] 139)
                  obtain ⟨wb, hwb⟩ : ∃ wb, wb = wa.alloc (.cells #[.int .i64 l, .int .i64 (x : Nat), .int .i64 (y : Nat)] 139) := ⟨_, rfl⟩
                  rw [← hwb] at hkb hbB ⊢
                  rw [hza] at hkb
                  have hbb := hbA.trans (hbB.mono (by omega))
                  have HTB := Lib.hid (HTS.out.later hbb)
                  have HKB := Lib.hid hkb
                  have q0 := (blk_cell hkb 0).trans rfl
                  have q1 := (blk_cell hkb 1).trans rfl
                  have q2 := (blk_cell hkb 2).trans rfl
                  have HD1 : Hid (wb.cell? ⟨wr.heap.size, 1, none⟩ = some (.string q)) := Lib.hid ((hbB.cell (p := ⟨wr.heap.size, 1, none⟩) (by rw [hza]; exact Nat.lt_succ_self _)).trans d1)
                  generalize wr.heap.size = G at HD1 HKB q0 q1 q2 ⊢
                  clear hwa hwb hkb hbA hbB hbb hza d0 d1 c0 c1 HTS
                  obtain ⟨v, hv⟩ : ∃ v, nx M (ch s) L rt n s.size a x y k l x y = v := ⟨_, rfl⟩
                  have hvM : v ≤ M := by rw [← hv]; exact nx_le _ _ _
                  have HV := Lib.hid hv
                  have lk := (HTB.out.later (Below.refl _ _).drew).look l x y
                  rw [hv] at lk
                  clear hv
                  obtain ⟨z, hz⟩ : ∃ z, cW M (ch s) a (lst q) x y = z := ⟨_, rfl⟩
                  have hzM : z ≤ M := by rw [← hz]; exact cW_le HM.out.1 _ _ _
                  have HZ := Lib.hid hz
                  clear hz
                  refine start_ (n := 15) (S := fun w' => w'.cell? ⟨G + 1, 0, none⟩ = some (.int .i64 l) ∧ w'.cell? ⟨G + 1, 1, none⟩ = some (.int .i64 (x : Nat)) ∧ w'.cell? ⟨G + 1, 2, none⟩ = some (.int .i64 (y : Nat)) ∧ w'.cell? ⟨G, 1, none⟩ = some (.string q) ∧ (Instr.lookup 136 (.map (some rn)) (.agg #[.int .i64 l, .int .i64 (x : Nat), .int .i64 (y : Nat)]) false).run Tryd.prog w' = .ok (.int .i64 (v : Nat)) w') (ds := [14]) #[false, false, false, false, false, false, false, false, false, false, false, false, false, false, false] (by kernel_rfl) rfl rfl ⟨q0, q1, q2, HD1.out, lk⟩ (fun hHeld => ?_)
                  refine pure_ (i := 0) (N := (some 48)) (v := ?_) (a' := ?_) #[true, false, false, false, false, false, false, false, false, false, false, false, false, false, false] rfl rfl (by kernel_rfl) (fun _ _ _ h => h) (Or.inl ⟨by rfl, ?_⟩) ?_ ?_
                  rotate_left
                  · intro w'; go_simp; first | done | with_reducible rfl
                  rotate_left
                  · simp only [Act.put, List.setIfInBounds_toArray, List.set_cons_zero, List.set_cons_succ, i64_w, i32_w]; rfl
                  refine take_ (i := 1) (N := (some 49)) (v := ?_) (a' := ?_) #[true, true, false, false, false, false, false, false, false, false, false, false, false, false, false] rfl rfl (by kernel_rfl) (fun _ _ _ h => h) (Or.inl ⟨by rfl, ?_⟩) hHeld ?_ ?_
                  rotate_left
                  · rintro w' ⟨s0, s1, s2, s3, s4⟩; go_simp; first | done | with_reducible rfl
                  rotate_left
                  · simp only [Act.put, List.setIfInBounds_toArray, List.set_cons_zero, List.set_cons_succ, i64_w, i32_w]; rfl
                  refine pure_ (i := 2) (N := (some 50)) (v := ?_) (a' := ?_) #[true, true, true, false, false, false, false, false, false, false, false, false, false, false, false] rfl rfl (by kernel_rfl) (fun _ _ _ h => h) (Or.inl ⟨by rfl, ?_⟩) ?_ ?_
                  rotate_left
                  · intro w'; go_simp; first | done | with_reducible rfl
                  rotate_left
                  · simp only [Act.put, List.setIfInBounds_toArray, List.set_cons_zero, List.set_cons_succ, i64_w, i32_w]; rfl
                  refine take_ (i := 3) (N := (some 51)) (v := ?_) (a' := ?_) #[true, true, true, true, false, false, false, false, false, false, false, false, false, false, false] rfl rfl (by kernel_rfl) (fun _ _ _ h => h) (Or.inl ⟨by rfl, ?_⟩) hHeld ?_ ?_
                  rotate_left
                  · rintro w' ⟨s0, s1, s2, s3, s4⟩; go_simp; first | done | with_reducible rfl
                  rotate_left
                  · simp only [Act.put, List.setIfInBounds_toArray, List.set_cons_zero, List.set_cons_succ, i64_w, i32_w]; rfl
                  refine take_ (i := 4) (N := (some 52)) (v := ?_) (a' := ?_) #[true, true, true, true, true, false, false, false, false, false, false, false, false, false, false] rfl rfl (by kernel_rfl) (fun _ _ _ h => h) (Or.inl ⟨by rfl, ?_⟩) hHeld ?_ ?_
                  rotate_left
                  · rintro w' ⟨s0, s1, s2, s3, s4⟩; go_simp; first | done | with_reducible rfl
                  rotate_left
                  · simp only [Act.put, List.setIfInBounds_toArray, List.set_cons_zero, List.set_cons_succ, i64_w, i32_w]; rfl
                  refine pure_ (i := 5) (N := (some 53)) (v := ?_) (a' := ?_) #[true, true, true, true, true, true, false, false, false, false, false, false, false, false, false] rfl rfl (by kernel_rfl) (fun _ _ _ h => h) (Or.inl ⟨by rfl, ?_⟩) ?_ ?_
                  rotate_left
                  · intro w'; go_simp; first | done | with_reducible rfl
                  rotate_left
                  · simp only [Act.put, List.setIfInBounds_toArray, List.set_cons_zero, List.set_cons_succ, i64_w, i32_w]; rfl
                  refine pure_ (i := 6) (N := (some 54)) (v := ?_) (a' := ?_) #[true, true, true, true, true, true, true, false, false, false, false, false, false, false, false] rfl rfl (by kernel_rfl) (fun _ _ _ h => h) (Or.inl ⟨by rfl, ?_⟩) ?_ ?_
                  rotate_left
                  · intro w'; go_simp; first | done | with_reducible rfl
                  rotate_left
                  · simp only [Act.put, List.setIfInBounds_toArray, List.set_cons_zero, List.set_cons_succ, i64_w, i32_w]; rfl
                  refine take_ (i := 7) (N := (some 55)) (v := ?_) (a' := ?_) #[true, true, true, true, true, true, true, true, false, false, false, false, false, false, false] rfl rfl (by kernel_rfl) (fun _ _ _ h => h) (Or.inl ⟨by rfl, ?_⟩) hHeld ?_ ?_
                  rotate_left
                  · rintro w' ⟨s0, s1, s2, s3, s4⟩; go_simp; first | done | with_reducible rfl
                  rotate_left
                  · simp only [Act.put, List.setIfInBounds_toArray, List.set_cons_zero, List.set_cons_succ, i64_w, i32_w]; rfl
                  refine pure_ (i := 8) (N := (some 56)) (v := ?_) (a' := ?_) #[true, true, true, true, true, true, true, true, true, false, false, false, false, false, false] rfl rfl (by kernel_rfl) (fun _ _ _ h => h) (Or.inl ⟨by rfl, ?_⟩) ?_ ?_
                  rotate_left
                  · intro w'; go_simp; first | done | with_reducible rfl
                  rotate_left
                  · simp only [Act.put, List.setIfInBounds_toArray, List.set_cons_zero, List.set_cons_succ, i64_w, i32_w]; rfl
                  refine pure_ (i := 9) (N := (some 57)) (v := ?_) (a' := ?_) #[true, true, true, true, true, true, true, true, true, true, false, false, false, false, false] rfl rfl (by kernel_rfl) (fun _ _ _ h => h) (Or.inl ⟨by rfl, ?_⟩) ?_ ?_
                  rotate_left
                  · intro w'; go_simp; first | done | with_reducible rfl
                  rotate_left
                  · simp only [Act.put, List.setIfInBounds_toArray, List.set_cons_zero, List.set_cons_succ, i64_w, i32_w]; rfl
                  refine pure_ (i := 12) (N := (some 60)) (v := ?_) (a' := ?_) #[true, true, true, true, true, true, true, true, true, true, false, false, true, false, false] rfl rfl (by kernel_rfl) (fun _ _ _ h => h) (Or.inl ⟨by rfl, ?_⟩) ?_ ?_
                  rotate_left
                  · intro w'; go_simp; first | done | with_reducible rfl
                  rotate_left
                  · simp only [Act.put, List.setIfInBounds_toArray, List.set_cons_zero, List.set_cons_succ, i64_w, i32_w]; rfl
                  refine one_ (i := 10) (N := (some 58)) #[true, true, true, true, true, true, true, true, true, true, true, false, true, false, false] rfl rfl (by kernel_rfl) (by decide) (fun K hK => ?_)
                  refine goes_ Tryd.func99 (by kernel_rfl) rfl #[.pointer (some ⟨gw, 0, none⟩), .string q, .int .i64 x, .int .i64 y] (by rfl) rfl rfl (by (try simp only [List.map_toArray, List.map_cons, List.map_nil]); first | done | rfl) ?_
                  refine (ways_calls HM.out HAM.out hs8 q.size HQ.out.2 q x y _ rfl HQ.out.1 (by omega) (by omega) (HTB.out.fo.later (Below.refl _ _).drew)).mono ?_
                  rintro e w2 ⟨rfl, hb2⟩
                  refine ⟨_, rfl, ?_⟩
                  rw [HZ.out]
                  have hbd := (Below.refl wb.heap.size wb).drew.trans hb2
                  have HT2 := Lib.hid (HTB.out.later hbd)
                  have hk2 := (hbd.block _ (Array.getElem?_eq_some_iff.1 HKB.out).1).trans HKB.out
                  have r0 := (blk_cell hk2 0).trans rfl
                  have r1 := (blk_cell hk2 1).trans rfl
                  have r2 := (blk_cell hk2 2).trans rfl
                  have hd1 := (hbd.cell (p := ⟨G, 1, none⟩) (World.block_lt_of_cell? _ _ HD1.out)).trans HD1.out
                  have lk2 := HT2.out.look l x y
                  rw [HV.out] at lk2
                  clear hb2 hbd
                  obtain ⟨p, hp⟩ : ∃ p, v + z = p := ⟨_, rfl⟩
                  have hv1 : v ≤ 101 := Nat.le_trans hvM HM.out.2
                  have hz1 : z ≤ 101 := Nat.le_trans hzM HM.out.2
                  have hwp := wrap_add hv1 hz1 hp
                  have hwq := wrap_addk hv1 hz1 hp
                  have hmc := min_cast p M
                  obtain ⟨m2, hm2⟩ : ∃ m2, min p M = m2 := ⟨_, rfl⟩
                  rw [hm2] at hmc
                  obtain ⟨w3, hrun, ht3⟩ := HT2.out.put (b' := nx M (ch s) L rt n s.size a x y (k + 1)) l x y m2 (fun c' i' j' => by rw [nx_rule hxy hyl, HLR.out.1, HLR.out.2, HV.out, HZ.out, hp, hm2])
                  have HT3 := Lib.hid ht3
                  unfold triV natV at hrun
                  clear hp hm2 ht3 q0 q1 q2 lk
                  refine hK.out _ _ ⟨r0, r1, r2, hd1, lk2⟩ (fun hHeld => ?_)
                  clear hK K
                  refine norm_ (a' := ?_) ?_ ?_
                  rotate_left
                  · show Act.put _ (some 58) _ = _; simp only [Act.put, List.setIfInBounds_toArray, List.set_cons_zero, List.set_cons_succ, i64_w, i32_w]; rfl
                  refine pure_ (i := 11) (N := (some 59)) (v := (.int .i64 (p : Nat))) (a' := ?_) #[true, true, true, true, true, true, true, true, true, true, true, true, true, false, false] rfl rfl (by kernel_rfl) (fun _ _ _ h => h) (Or.inl ⟨by rfl, ?_⟩) ?_ ?_
                  · intro w'; go_simp; first | done | with_reducible rfl
                  rotate_left
                  · simp only [Act.put, List.setIfInBounds_toArray, List.set_cons_zero, List.set_cons_succ, i64_w, i32_w]; rfl
                  refine pure_ (i := 13) (N := (some 61)) (v := (.int .i64 (m2 : Nat))) (a' := ?_) #[true, true, true, true, true, true, true, true, true, true, true, true, true, true, false] rfl rfl (by kernel_rfl) (fun _ _ _ h => h) (Or.inl ⟨by rfl, ?_⟩) ?_ ?_
                  · intro w'; go_simp; first | done | with_reducible rfl
                  rotate_left
                  · simp only [Act.put, List.setIfInBounds_toArray, List.set_cons_zero, List.set_cons_succ, i64_w, i32_w]; rfl
                  refine last_ (i := 14) (N := none) #[true, true, true, true, true, true, true, true, true, true, true, true, true, true, true] rfl rfl (by kernel_rfl) (by decide) (fun K hK => ?_)
                  refine skip_step (w1 := w3) (by rfl) (by go_simp) ?_
                  refine hK.out _ _ ?_
                  clear hK K
                  refine norm_ (a' := ?_) ?_ ?_
                  rotate_left
                  · show Act.put _ none _ = _; simp only [Act.put, List.setIfInBounds_toArray, List.set_cons_zero, List.set_cons_succ, i64_w, i32_w]; rfl
                  refine done_ (by kernel_rfl) ?_
                  clear hrun r0 r1 r2 hd1 lk2 hHeld hmc hwp hwq
                  go_wp2_with fail
                  refine ⟨⟨k + 1, by omega, by go_num, HT3⟩, by simp [intOf]; omega⟩
                · obtain rfl : k = n := by omega
                  go_wp2_with fail
                  refine ⟨⟨y + 1, by omega, by omega, by go_num, Lib.hid (HTS.out.congr fun c x y => nx_piece c x y)⟩, by simp [intOf]; omega⟩
            · obtain rfl : y = s.size + 1 := by omega
              have hyI : ¬ ((s.size + 1 : Nat) : Int) ≤ (s.size : Int) := by omega
              go_wp2_with fail
              refine ⟨⟨x + 1, by omega, by go_num, Lib.hid (HTS.out.congr fun c x y => nx_row c x y)⟩, by simp [intOf]; omega⟩
        · obtain rfl : x = s.size + 1 := by omega
          have hxI : ¬ ((s.size + 1 : Nat) : Int) < (s.size : Int) + 1 := by omega
          obtain ⟨l1, l2, h1, h2, hag⟩ := HTS.out.agree
          have HS := Lib.hid (same_calls h1 h2)
          have HAG := Lib.hid hag
          clear h1 h2 hag
          have f3 := HTS.out.fo.c3
          go_wp2_with fail
          refine HS.out.mono ?_
          rintro e w2 ⟨⟨bb, rfl, hbb⟩, hb2⟩
          have HTQ := Lib.hid (HTS.out.later hb2)
          have HBB := Lib.hid hbb
          clear hbb hb2 f3 HTS HS
          cases bb with
          | true =>
            have HFIN := Lib.hid (trees_fin HOK.out HM.out.1 (by omega) HA.out (fun c x y => rfl) (HAG.out (HBB.out rfl)) (L 0) 0 s.size (Nat.le_refl _))
            have c0 := (HP.out.later HTQ.out.bl).c0 0 hn1
            have hl0 := isP_iff.1 (HG.out.ok 0 hn1).1
            have HX : Hid (a (L 0) 0 s.size = X) := Lib.hid (HFIN.out.trans HT.out)
            clear HFIN HT
            obtain ⟨l0, hl0e⟩ : ∃ l0, L 0 = l0 := ⟨_, rfl⟩
            rw [hl0e] at c0 hl0 HX
            clear hl0e
            have hc1 : 0 < c := by omega
            simp only [Nat.zero_mul, Nat.add_zero] at c0
            go_wp2_with fail
            refine (count_calls HTQ.out.fo l0 (by omega) 0 s.size).mono ?_
            rintro e w3 ⟨rfl, rfl⟩
            rw [HX.out]
            go_wp2
            go_ret
            exact ⟨rfl, HTQ.out.bl⟩
          | false =>
            have hn3 : w2.cell? ⟨gw, 3, none⟩ = some (.map (some rk)) := HTQ.out.fo.c3
            have hfz := blk_frozen HTQ.out.fo.blk 3
            obtain ⟨ht1, ht2⟩ := HTQ.out.turn
            have HT1 := Lib.hid ht1
            have HT2 := Lib.hid ht2
            have HHN := Lib.hid HTQ.out.hn
            clear ht1 ht2
            go_wp2_with fail
            refine ⟨⟨m + 1, rn, _, by omega, by go_num, Lib.hid (nx_cA HM.out.1 HOK.out HA.out), Lib.hid (fun c x y => nx_le c x y), HT1, HT2, HHN⟩, by simp [intOf]; omega⟩
    · obtain rfl : m = 600 := by omega
      have HX : Hid (a (L 0) 0 s.size = X) := Lib.hid ((HA.out _ _ _ (Nat.le_refl _)).trans HT.out)
      have c0 := (HP.out.later HB.out).c0 0 hn1
      have hl0 := isP_iff.1 (HG.out.ok 0 hn1).1
      clear HT
      obtain ⟨l0, hl0e⟩ : ∃ l0, L 0 = l0 := ⟨_, rfl⟩
      rw [hl0e] at c0 hl0 HX
      clear hl0e
      have hc1 : 0 < c := by omega
      simp only [Nat.zero_mul, Nat.add_zero] at c0
      go_wp2_with fail
      refine (count_calls HFO.out l0 (by omega) 0 s.size).mono ?_
      rintro e w3 ⟨rfl, rfl⟩
      rw [HX.out]
      go_wp2
      go_ret
      exact ⟨rfl, HB.out⟩
end Go.Proofs.YtjpfalanoifpbaaDoor.X
end

section
set_option linter.unusedVariables false
set_option linter.unusedSimpArgs false
namespace Go.Proofs.YtjpfalanoifpbaaDoor.X
open Go.RowKit Go.Proofs.YtjpfalanoifpbaaDoorW.PrintWords Go.Proofs.YtjpfalanoifpbaaDoorW.PrintLast Go.Proofs.YtjpfalanoifpbaaDoorW.PrintMore Go.Proofs.YtjpfalanoifpbaaDoor.T
def okS (s : ByteArray) : Prop := ∀ i, i < s.size → isD (ch s i) = true
def wordsC : List UInt8 := [97, 98, 99, 100]
theorem word_iff (x : UInt8) : wordsC.contains x = true ↔ isD (x.toNat : Int) = true := by
  rw [isD_iff]
  unfold wordsC
  simp only [List.contains_iff_mem, List.mem_cons, List.not_mem_nil, or_false]
  constructor
  · rintro (h | h | h | h) <;> rw [h] <;> decide
  · intro h
    have key : ∀ n : Nat, n < 256 → (97 ≤ (n : Int) ∧ (n : Int) ≤ 100) → n = 97 ∨ n = 98 ∨ n = 99 ∨ n = 100 := fun n _ _ => by omega
    have := key x.toNat x.toNat_lt h
    have hx : ∀ m : UInt8, x.toNat = m.toNat → x = m := fun m e => UInt8.toNat_inj.1 e
    rcases this with e | e | e | e
    · exact .inl (hx 97 e)
    · exact .inr (.inl (hx 98 e))
    · exact .inr (.inr (.inl (hx 99 e)))
    · exact .inr (.inr (.inr (hx 100 e)))
theorem trimD_ok (s : ByteArray) : Lib.trimS s.data.toList wordsC = [] ↔ okS s := by
  rw [trim_nil]
  unfold okS
  constructor
  · intro h i hi
    rw [← ch_at s i hi]
    exact (word_iff _).1 (h _ (by
      have : s[i]'hi = s.data.toList[i]'(by simpa using hi) := rfl
      rw [this]
      exact List.getElem_mem _))
  · intro h x hx
    obtain ⟨i, hi, e⟩ := List.getElem_of_mem hx
    have hs : i < s.size := by simpa using hi
    have := h i hs
    rw [← ch_at s i hs] at this
    have e2 : s[i]'hs = x := e
    rw [e2] at this
    exact (word_iff x).2 this
set_option maxHeartbeats 4000000 in
set_option maxRecDepth 100000 in
theorem isString_calls (s : ByteArray) (hs : s.size ≤ 9223372036854775807) (w : World) (r : Bool) (hr : r = true ↔ s.size ≤ 8 ∧ okS s) : Calls Tryd.prog 65 #[.string s] w fun e w' => e = .returned (.bool r) ∧ Below w.heap.size w w' := by
  have HTR := Lib.hid (fun w : World => Any.strings_Trim_laid Tryd.lays160 (by kernel_rfl) s ⟨#[97, 98, 99, 100]⟩ w (by omega) (by decide) (ascii_of_all (by decide)))
  by_cases h8 : s.size ≤ 8
  · have h8I : (s.size : Int) ≤ 8 := by omega
    cases ht : Lib.trimS s.data.toList [97, 98, 99, 100] with
    | nil =>
      have hrt : r = true := hr.2 ⟨h8, (trimD_ok s).1 ht⟩
      subst hrt
      have HT := Lib.hid ht
      clear ht hr
      go_enter Tryd.func65, Tryd.ntmps65
      go_wp2_with fail
      refine (HTR.out _).mono ?_
      rintro e w3 ⟨rfl, hb3⟩
      rw [HT.out]
      have HB := Lib.hid hb3
      clear hb3
      go_wp2
      go_ret
      exact ⟨rfl, HB.out⟩
    | cons x t =>
      have hrt : r = false := by
        rw [Bool.eq_false_iff]
        intro h
        have := (trimD_ok s).2 (hr.1 h).2
        unfold wordsC at this
        rw [ht] at this
        cases this
      subst hrt
      have HT := Lib.hid ht
      clear ht hr
      go_enter Tryd.func65, Tryd.ntmps65
      go_wp2_with fail
      refine (HTR.out _).mono ?_
      rintro e w3 ⟨rfl, hb3⟩
      rw [HT.out]
      have HB := Lib.hid hb3
      clear hb3
      go_wp2
      go_ret
      exact ⟨rfl, HB.out⟩
  · have hrt : r = false := by
      rw [Bool.eq_false_iff]
      exact fun h => h8 (hr.1 h).1
    subst hrt
    have h8I : ¬ (s.size : Int) ≤ 8 := by omega
    clear hr
    go_enter Tryd.func65, Tryd.ntmps65
    go_wp2
    go_ret
    exact ⟨rfl, Below.refl _ _⟩
set_option maxHeartbeats 4000000 in
set_option maxRecDepth 100000 in
theorem rString_calls (s : ByteArray) (hs : s.size ≤ 9223372036854775807) (w : World) (r : Bool) (hr : r = true ↔ s.size ≤ 8 ∧ okS s) : Calls Tryd.prog 28 #[.string s] w fun e w' => e = .returned (.bool r) ∧ Below w.heap.size w w' := by
  have HR := Lib.hid hr
  clear hr
  go_enter Tryd.func28, Tryd.ntmps28
  go_wp2_with fail
  go_loopw [6] (fun i wr => ∃ k : Nat, k ≤ s.size ∧ i = .int .i64 k ∧ Hid (∀ j, j < k → isD (ch s j) = true) ∧ wr = w) (fun i _ => s.size - (intOf i).toNat)
  case atStart => exact ⟨0, by omega, rfl, Lib.hid (fun j hj => by omega), rfl⟩
  case round =>
    obtain ⟨k, hk, rfl, HW, rfl⟩ := hrel
    by_cases hlt : k < s.size
    · have hbt : (((s[k]'hlt).toNat : Nat) : Int) = ch s k := ch_at s k hlt
      obtain ⟨c, hcc⟩ : ∃ c, ch s k = c := ⟨_, rfl⟩
      rw [hcc] at hbt
      have HCC := Lib.hid hcc
      clear hcc
      go_wp2_with fail
      refine (word_calls c _).mono ?_
      rintro e w2 ⟨rfl, rfl⟩
      cases hd : isD c with
      | true =>
        have HD := Lib.hid hd
        clear hd
        go_wp2_with fail
        refine ⟨⟨k + 1, by omega, by go_num, Lib.hid (fun j hj => ?_), by trivial⟩, by simp [intOf]; omega⟩
        by_cases e : j = k
        · rw [e, HCC.out]
          exact HD.out
        · exact HW.out j (by omega)
      | false =>
        have hrt : r = false := by
          rw [Bool.eq_false_iff]
          intro h
          have := (HR.out.1 h).2 k hlt
          rw [HCC.out, hd] at this
          cases this
        subst hrt
        clear hd
        go_wp2
        go_ret
        exact ⟨rfl, Below.refl _ _⟩
    · obtain rfl : k = s.size := by omega
      by_cases h8 : s.size ≤ 8
      · have h8I : (s.size : Int) ≤ 8 := by omega
        have hrt : r = true := HR.out.2 ⟨h8, HW.out⟩
        subst hrt
        go_wp2
        go_ret
        exact ⟨rfl, Below.refl _ _⟩
      · have h8I : ¬ (s.size : Int) ≤ 8 := by omega
        have hrt : r = false := by
          rw [Bool.eq_false_iff]
          exact fun h => h8 (HR.out.1 h).1
        subst hrt
        go_wp2
        go_ret
        exact ⟨rfl, Below.refl _ _⟩
def Str (s : ByteArray) : Prop := s.size ≤ 8 ∧ okS s
set_option maxHeartbeats 4000000 in
set_option maxRecDepth 100000 in
theorem Trees_yes (A : Option Addr) (n c : Nat) (L : Nat → Int) (R : Nat → ByteArray) (s : ByteArray) (w : World) (hA : Sr w A n c L R) (hg : Gram L R n) (hs : Str s) :
    Calls Tryd.prog 26 #[.slice A n c, .string s] w fun e w' => e = .returned (.tuple #[.int .i64 (treesN 100 L R n s : Nat), .int .i64 0]) ∧ Below w.heap.size w w' := by
  have HA := Lib.hid hA
  have HG := Lib.hid hg
  have h8 := hg.1.2
  have h4 : ∀ k, k < n → (R k).size ≤ 1000 := fun k hk => Nat.le_trans (hg.2 k hk).sz (by decide)
  have HV := Lib.hid fun (w : World) (h : Sr w A n c L R) => valid_calls A n c L R w h (by omega) h4 true (by simp [hg])
  have hs8 := hs.1
  have HI := Lib.hid fun (w : World) => isString_calls s (by omega) w true ⟨fun _ => hs, fun _ => rfl⟩
  clear hA hg h4 hs
  go_enter Tryd.func26, Tryd.ntmps26
  go_wp2_with fail
  refine (HV.out w HA.out).mono ?_
  rintro e w1 ⟨rfl, hb1⟩
  have HB := Lib.hid hb1
  clear hb1
  go_wp2_with fail
  refine (HI.out w1).mono ?_
  rintro e w2 ⟨rfl, hb2⟩
  have HB2 := Lib.hid (HB.out.trans (hb2.mono HB.out.size))
  clear hb2 HB
  go_wp2_with fail
  refine (trees_calls A n c L R s 100 w2 (HA.out.later HB2.out) HG.out.gr hs8 (by decide)).mono ?_
  rintro e w3 ⟨rfl, hb3⟩
  have HB3 := Lib.hid (HB2.out.trans (hb3.mono HB2.out.size))
  clear hb3 HB2
  go_wp2
  go_ret2
  exact ⟨rfl, HB3.out⟩
set_option maxHeartbeats 4000000 in
set_option maxRecDepth 100000 in
theorem Trees_no (A : Option Addr) (n c : Nat) (L : Nat → Int) (R : Nat → ByteArray) (s : ByteArray) (w : World) (hA : Sr w A n c L R) (hn : n ≤ 1000) (hsz : ∀ k, k < n → (R k).size ≤ 1000) (hz : s.size ≤ 9223372036854775807) (hg : ¬ (Gram L R n ∧ Str s)) :
    Calls Tryd.prog 26 #[.slice A n c, .string s] w fun e w' => e = .returned (.tuple #[.int .i64 0, .int .i64 2]) ∧ Below w.heap.size w w' := by
  have HA := Lib.hid hA
  by_cases hG : Gram L R n
  · have HV := Lib.hid fun (w : World) (h : Sr w A n c L R) => valid_calls A n c L R w h hn hsz true (by simp [hG])
    have HI := Lib.hid fun (w : World) => isString_calls s hz w false ⟨fun h => (by cases h), fun h => absurd ⟨hG, h⟩ hg⟩
    clear hA hg hsz hG
    go_enter Tryd.func26, Tryd.ntmps26
    go_wp2_with fail
    refine (HV.out w HA.out).mono ?_
    rintro e w1 ⟨rfl, hb1⟩
    have HB := Lib.hid hb1
    clear hb1
    go_wp2_with fail
    refine (HI.out w1).mono ?_
    rintro e w2 ⟨rfl, hb2⟩
    have HB2 := Lib.hid (HB.out.trans (hb2.mono HB.out.size))
    clear hb2 HB
    go_wp2
    go_ret2
    exact ⟨rfl, HB2.out⟩
  · have HV := Lib.hid fun (w : World) (h : Sr w A n c L R) => valid_calls A n c L R w h hn hsz false (by simp [hG])
    clear hA hg hsz hG
    go_enter Tryd.func26, Tryd.ntmps26
    go_wp2_with fail
    refine (HV.out w HA.out).mono ?_
    rintro e w1 ⟨rfl, hb1⟩
    have HB := Lib.hid hb1
    clear hb1
    go_wp2
    go_ret2
    exact ⟨rfl, HB.out⟩
end Go.Proofs.YtjpfalanoifpbaaDoor.X
end

section
set_option linter.unusedVariables false
set_option linter.unusedSimpArgs false
namespace Go.Proofs.YtjpfalanoifpbaaDoor.X
open Go.RowKit Go.Proofs.YtjpfalanoifpbaaDoorW.PrintWords Go.Proofs.YtjpfalanoifpbaaDoorW.PrintLast Go.Proofs.YtjpfalanoifpbaaDoorW.PrintMore Go.Proofs.YtjpfalanoifpbaaDoor.T
def Tab (w : World) (g : Nat) (F : Nat → Nat → Nat → Nat) : Prop := w.heap[g]? = some (.cells (c405 natV F) 97 (0, 0))
theorem Tab.later {w w' : World} {g : Nat} {F : Nat → Nat → Nat → Nat} (h : Tab w g F) (hb : Below w.heap.size w w') : Tab w' g F :=
  (hb.block _ (Array.getElem?_eq_some_iff.1 h).1).trans h
theorem Tab.at {w : World} {g : Nat} {F : Nat → Nat → Nat → Nat} (h : Tab w g F) {p i j : Nat} (hp : p < 5) (hi : i < 9) (hj : j < 9) : w.cell? ⟨g, p * 81 + i * 9 + j, none⟩ = some (.int .i64 (F p i j : Nat)) := by
  rw [blk_cell h]
  exact c405_at natV F hp hi hj
end Go.Proofs.YtjpfalanoifpbaaDoor.X
end

section
set_option linter.unusedVariables false
set_option linter.unusedSimpArgs false
namespace Go.Proofs.YtjpfalanoifpbaaDoor.X
open Go.RowKit Go.Proofs.YtjpfalanoifpbaaDoorW.PrintWords Go.Proofs.YtjpfalanoifpbaaDoorW.PrintLast Go.Proofs.YtjpfalanoifpbaaDoorW.PrintMore Go.Proofs.YtjpfalanoifpbaaDoor.T
structure Rt (w0 w : World) (g h : Nat) (F G : Nat → Nat → Nat → Nat) : Prop where
  t : Tab w g F
  n : Tab w h G
  bl : Below w0.heap.size w0 w
  hg : w0.heap.size ≤ g
  hh : w0.heap.size ≤ h
  ne : g ≠ h
theorem Rt.later {w0 w w' : World} {g h : Nat} {F G : Nat → Nat → Nat → Nat} (r : Rt w0 w g h F G) (hb : Below w.heap.size w w') : Rt w0 w' g h F G :=
  ⟨r.t.later hb, r.n.later hb, r.bl.trans (hb.mono r.bl.size), r.hg, r.hh, r.ne⟩
theorem Rt.put {w0 w : World} {g h : Nat} {F G : Nat → Nat → Nat → Nat} (r : Rt w0 w g h F G) {p i j : Nat} (hp : p < 5) (hi : i < 9) (hj : j < 9) (m : Nat) : Rt w0 (w.setCell ⟨h, p * 81 + i * 9 + j, none⟩ (.int .i64 (m : Nat))) g h F (put3 G p i j m) := by
  refine ⟨(Below.heap_setCell w ⟨h, p * 81 + i * 9 + j, none⟩ _ g r.ne).trans r.t, ?_, r.bl.setCell (p := ⟨h, p * 81 + i * 9 + j, none⟩) r.hh _, r.hg, r.hh, r.ne⟩
  have h1 := blk_set r.n (p * 81 + i * 9 + j) (.int .i64 (m : Nat))
  rw [show p * 81 + i * 9 + j = ix p i j from rfl] at h1 ⊢
  rw [show (Value.int .i64 (m : Nat)) = natV m from rfl] at h1 ⊢
  rw [c405_set natV G hp hi hj m] at h1
  exact h1
end Go.Proofs.YtjpfalanoifpbaaDoor.X
end

section
set_option linter.unusedVariables false
set_option linter.unusedSimpArgs false
namespace Go.Proofs.YtjpfalanoifpbaaDoor.X
open Go.RowKit Go.Proofs.YtjpfalanoifpbaaDoorW.PrintWords Go.Proofs.YtjpfalanoifpbaaDoorW.PrintLast Go.Proofs.YtjpfalanoifpbaaDoorW.PrintMore Go.Proofs.YtjpfalanoifpbaaDoor.T
theorem cut_str {s : ByteArray} (h : Str (cut12 s)) : Str s := by
  have h1 := h.1
  rw [cut12_size] at h1
  have h2 : s.size ≤ 12 := by
    unfold mnN at h1
    split at h1 <;> omega
  rw [cut12_self h2] at h
  exact h
theorem str_cut {s : ByteArray} (h : Str s) : cut12 s = s := cut12_self (Nat.le_trans h.1 (by decide))
theorem cut12_1000 (s : ByteArray) : (cut12 s).size ≤ 1000 := by
  rw [cut12_size]
  have := mnN_le s.size 12
  omega
end Go.Proofs.YtjpfalanoifpbaaDoor.X
end

section
set_option linter.unusedVariables false
namespace Go.Proofs.YtjpfalanoifpbaaDoor.T
theorem take_succ_of {α : Type} {l : List α} {i : Nat} {x : α} (h : l[i]? = some x) : l.take (i + 1) = l.take i ++ [x] := by
  rw [List.take_add_one, h]
  rfl
end Go.Proofs.YtjpfalanoifpbaaDoor.T
end

section
set_option linter.unusedVariables false
set_option linter.unusedSimpArgs false
namespace Go.Proofs.YtjpfalanoifpbaaDoor.X
open Go.RowKit Go.Proofs.YtjpfalanoifpbaaDoorW.PrintWords Go.Proofs.YtjpfalanoifpbaaDoorW.PrintLast Go.Proofs.YtjpfalanoifpbaaDoorW.PrintMore Go.Proofs.YtjpfalanoifpbaaDoor.T
structure Stp (B : Nat) (S : Nat → Prop) (w w' : World) : Prop where
  os : w'.os = w.os
  tape : w'.tape = w.tape
  output : w'.output = w.output
  size : w.heap.size ≤ w'.heap.size
  block : ∀ k, k < w.heap.size → (k < B ∨ S k) → w'.heap[k]? = w.heap[k]?
theorem Stp.refl (B : Nat) (S : Nat → Prop) (w : World) : Stp B S w w := ⟨rfl, rfl, rfl, Nat.le_refl _, fun _ _ _ => rfl⟩
structure As (B : Nat) (P : (Nat → Prop) → List ByteArray → World → Prop) (S : Nat → Prop) (done : List ByteArray) (v4 : Value) (l : List ByteArray) (v5 : Value) (xs : List ByteArray) (w : World) : Prop where
  l4 : Kd.R Kd.string 9 w B (fun k => ¬ S k ∧ some k ≠ v5.ownBlock) v4 l
  l5 : Kd.R Kd.string 9 w B (fun k => ¬ S k) v5 xs
  p : P S done w
  size : B ≤ w.heap.size
theorem As.next {B : Nat} {P : (Nat → Prop) → List ByteArray → World → Prop} {S : Nat → Prop} {done : List ByteArray} {v4 v5 : Value} {l xs : List ByteArray} {w : World} (h : As B P S done v4 l v5 xs w) : As B P S done v5 xs (.slice none 0 0) [] w :=
  ⟨Kd.R_apart_nil h.l5, Kd.R_nil _ _ _ _ _, h.p, h.size⟩
end Go.Proofs.YtjpfalanoifpbaaDoor.X
end

section
set_option linter.unusedVariables false
set_option linter.unusedSimpArgs false
namespace Go.Proofs.YtjpfalanoifpbaaDoor.X
open Go.RowKit Go.Proofs.YtjpfalanoifpbaaDoorW.PrintWords Go.Proofs.YtjpfalanoifpbaaDoorW.PrintLast Go.Proofs.YtjpfalanoifpbaaDoorW.PrintMore Go.Proofs.YtjpfalanoifpbaaDoor.T
abbrev SR (B : Nat) (w : World) (v : Value) (xs : List ByteArray) : Prop := Kd.R Kd.string 9 w B (fun _ => True) v xs
theorem sr_below {B : Nat} {w w1 : World} {v : Value} {xs : List ByteArray} (h : SR B w v xs) (hb : Below w.heap.size w w1) : SR B w1 v xs := Kd.R_below h hb
structure Al (w0 w : World) (out : Value) (ol : List ByteArray) (last : Value) (ll : List ByteArray) (next : Value) (nl : List ByteArray) : Prop where
  o : SR w0.heap.size w out ol
  l : SR w0.heap.size w last ll
  x : SR w0.heap.size w next nl
  ol : ∀ k, out.ownBlock = some k → last.ownBlock ≠ some k
  ox : ∀ k, out.ownBlock = some k → next.ownBlock ≠ some k
  lx : ∀ k, last.ownBlock = some k → next.ownBlock ≠ some k
  bl : Below w0.heap.size w0 w
theorem Al.later {w0 w w1 : World} {out last next : Value} {ol ll nl : List ByteArray} (h : Al w0 w out ol last ll next nl) (hb : Below w.heap.size w w1) : Al w0 w1 out ol last ll next nl :=
  ⟨sr_below h.o hb, sr_below h.l hb, sr_below h.x hb, h.ol, h.ox, h.lx, h.bl.trans (hb.mono h.bl.size)⟩
end Go.Proofs.YtjpfalanoifpbaaDoor.X
end

section
set_option linter.unusedVariables false
set_option linter.unusedSimpArgs false
namespace Go.Proofs.YtjpfalanoifpbaaDoor.X
open Go.RowKit Go.Proofs.YtjpfalanoifpbaaDoorW.PrintWords Go.Proofs.YtjpfalanoifpbaaDoorW.PrintLast Go.Proofs.YtjpfalanoifpbaaDoorW.PrintMore Go.Proofs.YtjpfalanoifpbaaDoor.T
structure Ar (w0 w : World) (v1 : Value) (l1 : List ByteArray) (v2 : Value) (l2 : List ByteArray) : Prop where
  a : SR w0.heap.size w v1 l1
  b : SR w0.heap.size w v2 l2
  ne : ∀ k, v1.ownBlock = some k → v2.ownBlock ≠ some k
  bl : Below w0.heap.size w0 w
theorem Ar.later {w0 w w1 : World} {v1 v2 : Value} {l1 l2 : List ByteArray} (h : Ar w0 w v1 l1 v2 l2) (hb : Below w.heap.size w w1) : Ar w0 w1 v1 l1 v2 l2 :=
  ⟨sr_below h.a hb, sr_below h.b hb, h.ne, h.bl.trans (hb.mono h.bl.size)⟩
end Go.Proofs.YtjpfalanoifpbaaDoor.X
end

section
set_option linter.unusedVariables false
namespace Go.Proofs.YtjpfalanoifpbaaDoor.T
section
variable {L : Nat → Int} {R : Nat → ByteArray}
theorem or_squeeze {x y : Nat} (h1 : x ||| y = y) (h2 : y ||| x = x) : x = y := by rw [Nat.or_comm, h1] at h2; exact h2.symm
end
end Go.Proofs.YtjpfalanoifpbaaDoor.T
end

section
set_option linter.unusedVariables false
namespace Go.Proofs.YtjpfalanoifpbaaDoor.T
def allU (e : Nat) (s : ByteArray) : Bool := (List.range s.size).all fun i => !isP (ch s i) || e.testBit (pn (ch s i))
section
variable (L : Nat → Int) (R : Nat → ByteArray)
def uTo (e : Nat) : Nat → Nat
  | 0 => e
  | k + 1 => if allU (uTo e k) (R k) = true then uTo e k ||| 2 ^ pn (L k) else uTo e k
def usefulN (n : Nat) : Nat := rep (fun e => uTo L R e n) 5 0
variable {L R}
theorem uTo_lt {n : Nat} (h : okG L R n) {e : Nat} (he : e < 32) : ∀ k, k ≤ n → uTo L R e k < 32
  | 0, _ => he
  | k + 1, hk => by
    rw [uTo]
    split
    · exact or_lt (uTo_lt h he k (by omega)) (pp_lt (h k (by omega)).1)
    · exact uTo_lt h he k (by omega)
theorem uTo_up (e : Nat) : ∀ k, e ||| uTo L R e k = uTo L R e k
  | 0 => Nat.or_self _
  | k + 1 => by
    rw [uTo]
    split
    · rw [← Nat.or_assoc, uTo_up e k]
    · exact uTo_up e k
theorem uTo_stands {n : Nat} (h : okG L R n) {e : Nat} (he : e < 32) : uTo L R e n = e ∨ pc e < pc (uTo L R e n) := by
  have h1 := uTo_lt h he n (Nat.le_refl _)
  have h2 := uTo_up (L := L) (R := R) e n
  have h3 := pc_mono e (uTo L R e n)
  rw [h2] at h3
  by_cases hc : pc e = pc (uTo L R e n)
  · refine .inl ?_
    have := pc_eq he h1 (by rw [h2]; exact hc)
    rw [h2] at this
    exact this
  · exact .inr (by omega)
theorem useful_end {n : Nat} (h : okG L R n) {m : Nat} (hm : uTo L R (rep (fun e => uTo L R e n) m 0) n = rep (fun e => uTo L R e n) m 0) : rep (fun e => uTo L R e n) m 0 = usefulN L R n := by
  have h1 := rep_stands (fun e => uTo L R e n) (fun e => e < 32) pc 5 (fun e he => uTo_lt h he n (Nat.le_refl _)) (fun e he => uTo_stands h he) (fun e _ => pc_le e) (x := 0) (by decide) 5 (Nat.le_refl _)
  have a := rep_fix (T := fun e => uTo L R e n) (x := 0) (m := m) hm 5
  have b := rep_fix (T := fun e => uTo L R e n) (x := 0) (m := 5) h1 m
  rw [Nat.add_comm] at b
  exact a.symm.trans b
theorem useful_lt {n : Nat} (h : okG L R n) : ∀ m, rep (fun e => uTo L R e n) m 0 < 32
  | 0 => show (0 : Nat) < 32 by decide
  | m + 1 => uTo_lt h (useful_lt h m) n (Nat.le_refl _)
theorem uTo_up2 (e : Nat) {k : Nat} : ∀ {n}, k ≤ n → uTo L R e k ||| uTo L R e n = uTo L R e n
  | 0, h => by
    obtain rfl : k = 0 := by omega
    exact Nat.or_self _
  | n + 1, h => by
    by_cases e1 : k = n + 1
    · subst e1
      exact Nat.or_self _
    · have ih := uTo_up2 e (k := k) (n := n) (by omega)
      rw [uTo]
      split
      · rw [← Nat.or_assoc, ih]
      · exact ih
theorem useful_closed {n : Nat} (h : okG L R n) {m : Nat} (hm : m < n) (ha : allU (usefulN L R n) (R m) = true) : (usefulN L R n).testBit (pn (L m)) = true := by
  have h1 : uTo L R (usefulN L R n) n = usefulN L R n := rep_stands (fun e => uTo L R e n) (fun e => e < 32) pc 5 (fun e he => uTo_lt h he n (Nat.le_refl _)) (fun e he => uTo_stands h he) (fun e _ => pc_le e) (x := 0) (by decide) 5 (Nat.le_refl _)
  generalize usefulN L R n = E at h1 ha ⊢
  have key : ∀ k, k ≤ n → uTo L R E k = E := fun k hk => by
    have a := uTo_up2 (L := L) (R := R) E hk
    rw [h1] at a
    exact or_squeeze a (uTo_up (L := L) (R := R) E k)
  have h2 := key (m + 1) hm
  rw [uTo, key m (by omega), if_pos ha] at h2
  rw [← h2, Nat.testBit_or, Nat.testBit_two_pow_self, Bool.or_true]
end
end Go.Proofs.YtjpfalanoifpbaaDoor.T
end

section
set_option linter.unusedVariables false
set_option linter.unusedSimpArgs false
namespace Go.Proofs.YtjpfalanoifpbaaDoor.X
open Go.RowKit Go.Proofs.YtjpfalanoifpbaaDoorW.PrintWords Go.Proofs.YtjpfalanoifpbaaDoorW.PrintLast Go.Proofs.YtjpfalanoifpbaaDoorW.PrintMore Go.Proofs.YtjpfalanoifpbaaDoor.T
def outU (E : Nat) (x : Nat) : Bool := isP (IntKind.u8.wrap (x : Int)) && !(isP (IntKind.u8.wrap (x : Int)) && E.testBit (pn (IntKind.u8.wrap (x : Int))))
theorem idx_allU {s : ByteArray} (hs : okR s) (E : Nat) : decide (Lib.idxFunc (outU E) true s < 0) = allU E s := by
  rw [Bool.eq_iff_iff, decide_eq_true_eq]
  unfold Lib.idxFunc
  rw [idx_from hs _ _ _ (by omega)]
  unfold allU
  rw [List.all_eq_true]
  have key : ∀ i, outU E (ch s i).toNat = !(!isP (ch s i) || E.testBit (pn (ch s i))) := fun i => by
    have := ch_range s i
    unfold outU
    rw [show (((ch s i).toNat : Nat) : Int) = ch s i by omega, u8_small this.1 this.2]
    cases isP (ch s i) <;> cases E.testBit (pn (ch s i)) <;> rfl
  refine ⟨fun q i hi => ?_, fun q i _ hi => ?_⟩
  · have := q i (Nat.zero_le _) (List.mem_range.1 hi)
    rw [key] at this
    cases h : (!isP (ch s i) || E.testBit (pn (ch s i))) with
    | true => rfl
    | false =>
      rw [h] at this
      cases this
  · rw [key, q i (List.mem_range.2 hi)]
    rfl
set_option maxHeartbeats 1000000 in
set_option maxRecDepth 100000 in
theorem outU_calls (x E G : Nat) (w : World) (hE : E < 32) (hc : w.cell? ⟨G, 0, none⟩ = some (.int .i64 E)) :
    Calls Tryd.prog 103 #[.int .i32 x, .pointer (some ⟨G, 0, none⟩)] w fun e w' => e = .returned (.bool (outU E x)) ∧ w' = w := by
  have hw : IntKind.u8.wrap (x : Int) = (x : Int) % 256 := by
    unfold IntKind.wrap
    simp [IntKind.signed, IntKind.bits]
  unfold outU
  rw [hw]
  obtain ⟨c, hcc⟩ : ∃ c, (x : Int) % 256 = c := ⟨_, rfl⟩
  rw [hcc]
  go_enter Tryd.func103, Tryd.ntmps103
  go_wp2_with fail
  refine (isPart_calls c w).mono ?_
  rintro r w1 ⟨rfl, rfl⟩
  cases hp : isP c with
  | false =>
    go_wp2
    go_ret
    exact ⟨ret_bool (by rw [hp]; rfl), rfl⟩
  | true =>
    have HP := Lib.hid hp
    clear hp
    go_wp2_with fail
    refine (has_calls E c w1 hE).mono ?_
    rintro r w2 ⟨rfl, rfl⟩
    rw [HP.out]
    cases ht : E.testBit (pn c) with
    | true =>
      have HT := Lib.hid ht
      clear ht
      go_wp2
      go_ret
      exact ⟨ret_bool (by rw [HP.out, HT.out]; rfl), rfl⟩
    | false =>
      have HT := Lib.hid ht
      clear ht
      go_wp2
      go_ret
      exact ⟨ret_bool (by rw [HP.out, HT.out]; rfl), rfl⟩
set_option maxHeartbeats 1000000 in
set_option maxRecDepth 100000 in
theorem allU_calls (s : ByteArray) (E : Nat) (w : World) (hE : E < 32) (hs : okR s) :
    Calls Tryd.prog 102 #[.string s, .int .i64 E] w fun e w' => e = .returned (.bool (allU E s)) ∧ Below w.heap.size w w' := by
  have hi := idx_allU hs E
  go_enter Tryd.func102, Tryd.ntmps102
  go_wp2_with fail
  have hb := below_one (w := w) (.cells #[.int .i64 E] 3)
  have hc : (w.alloc (.cells #[.int .i64 E] 3)).cell? ⟨w.heap.size, 0, none⟩ = some (.int .i64 E) := by simp
  have hl : w.heap.size < (w.alloc (.cells #[.int .i64 E] 3)).heap.size := by simp
  have hp : PredAt Tryd.prog 103 #[.pointer (some ⟨w.heap.size, 0, none⟩)] encR (outU E) (w.alloc (.cells #[.int .i64 E] 3)) := fun W x hW => by
    refine (outU_calls x E w.heap.size W hE ((hW.cell (p := ⟨w.heap.size, 0, none⟩) hl).trans hc)).mono ?_
    rintro e w' ⟨rfl, rfl⟩
    exact ⟨rfl, 0, rfl⟩
  refine (Tryd.strings_IndexFunc 103 _ (fun args w => enters_ Tryd.func103 (by kernel_rfl) rfl args w) (outU E) s _ hp).mono ?_
  rintro e w1 ⟨rfl, hb1⟩
  have HB := Lib.hid (hb.trans (hb1.mono hb.size))
  clear hb hc hl hp hb1
  go_wp2
  go_ret
  first | exact ⟨rfl, HB.out⟩ | exact ⟨ret_bool hi, HB.out⟩
set_option maxHeartbeats 8000000 in
set_option maxRecDepth 100000 in
theorem grownU_calls (A : Option Addr) (n c : Nat) (L : Nat → Int) (R : Nat → ByteArray) (w : World) (hA : Sr w A n c L R) (hg : Gr L R n) :
    Calls Tryd.prog 96 #[.slice A n c, .func (.func 102) #[] #[]] w fun e w' => e = .returned (.int .i64 (usefulN L R n : Nat)) ∧ Below w.heap.size w w' := by
  obtain ⟨b, off, rfl, hnc, hP⟩ := hA.open hg.n1
  have HP := Lib.hid hP
  have HG := Lib.hid hg
  have hn8 := hg.n8
  clear hA hP hg
  go_enter Tryd.func96, Tryd.ntmps96
  go_wp2_with fail
  have HB := Lib.hid (Below.refl w.heap.size w)
  go_loopw [6, 5] (fun a v wr => ∃ (m : Nat) (g : Bool), a = .bool g ∧ v = .int .i64 (rep (fun e => uTo L R e n) m 0 : Nat) ∧ Hid (g = false → uTo L R (rep (fun e => uTo L R e n) m 0) n = rep (fun e => uTo L R e n) m 0) ∧ Hid (Below w.heap.size w wr)) (fun a v _ => lack a v)
  case atStart => exact ⟨0, true, rfl, rfl, Lib.hid (fun h => by cases h), HB⟩
  case round =>
    clear HB
    obtain ⟨m, g, rfl, rfl, HZ, HB⟩ := hrel
    obtain ⟨e0, he0⟩ : ∃ e0, rep (fun e => uTo L R e n) m 0 = e0 := ⟨_, rfl⟩
    have hel : e0 < 32 := by rw [← he0]; exact useful_lt HG.out.ok m
    cases g with
    | true =>
      rw [he0]
      have HE0 := Lib.hid he0
      clear he0 HZ
      go_wp2_with fail
      go_loopw [13, 6, 5] (fun i a v wr => ∃ (k : Nat) (g : Bool), k ≤ n ∧ i = .int .i64 k ∧ a = .bool g ∧ v = .int .i64 (uTo L R e0 k : Nat) ∧ Hid (if g = true then pc e0 < pc (uTo L R e0 k) else uTo L R e0 k = e0) ∧ Hid (Below w.heap.size w wr)) (fun i _ _ _ => n - (intOf i).toNat)
      case atStart => exact ⟨0, false, by omega, rfl, rfl, rfl, Lib.hid rfl, HB⟩
      case round =>
        clear HB
        obtain ⟨k, g, hk, rfl, rfl, rfl, HM, HB⟩ := hrel
        by_cases hkn : k < n
        · have c0 := (HP.out.later HB.out).c0 k hkn
          have c1 := (HP.out.later HB.out).c1 k hkn
          obtain ⟨e1, he1⟩ : ∃ e1, uTo L R e0 k = e1 := ⟨_, rfl⟩
          have he1l : e1 < 32 := by rw [← he1]; exact uTo_lt HG.out.ok hel k hk
          rw [he1] at HM ⊢
          obtain ⟨l, hl⟩ : ∃ l, L k = l := ⟨_, rfl⟩
          obtain ⟨s, hs⟩ : ∃ s, R k = s := ⟨_, rfl⟩
          have hlp : isP l = true := by rw [← hl]; exact (HG.out.ok k hkn).1
          have HOK : Hid (okR s) := Lib.hid (by rw [← hs]; exact (HG.out.ok k hkn).2)
          have HS1 : Hid (uTo L R e0 (k + 1) = if allU e1 s = true then e1 ||| 2 ^ pn l else e1) := Lib.hid (by rw [uTo, he1, hl, hs])
          rw [hl] at c0
          rw [hs] at c1
          have hkc : k < c := by omega
          have h5 := isP_iff.1 hlp
          obtain ⟨j, rfl⟩ : ∃ j : Nat, l = (j : Int) + 65 := ⟨(l - 65).toNat, by omega⟩
          have hj : j ≤ 4 := by omega
          rw [show pn ((j : Int) + 65) = j by unfold pn; omega] at HS1
          have HEND : Hid ((k + 1 ≤ n) ∧ n - (intOf (.int .i64 ((k : Int) + 1))).toNat < n - (intOf (.int .i64 (k : Int))).toNat) := Lib.hid ⟨by omega, by simp [intOf]; omega⟩
          have hu := u8_part hj
          have hbp := bit_pow he1l hj
          have ho := or_pow he1l hj
          have HPC := Lib.hid (pc_bit he1l hj)
          have HPM := Lib.hid (pc_mono e1 (2 ^ j))
          have HBA := Lib.hid (HB.out.trans ((below_one (w := wr) (.cells #[.int .u8 ((j : Int) + 65), .string s] 60)).mono HB.out.size))
          clear hl hs he1
          cases ht : e1.testBit j with
          | true =>
            have HS2 : Hid (uTo L R e0 (k + 1) = e1) := Lib.hid (by
              rw [HS1.out, or_bit ht]
              split <;> rfl)
            rw [ht, Bool.not_true] at hbp
            clear ht
            go_wp2_with fail
            refine ⟨⟨k + 1, g, HEND.out.1, by go_num, by first | rfl | trivial, ?_, ?_, HBA⟩, ?_⟩
            · rw [HS2.out]
            · rw [HS2.out]
              exact HM
            · simpa using HEND.out.2
          | false =>
            rw [ht, Bool.not_false] at hbp
            have HT := Lib.hid ht
            clear ht
            go_wp2_with fail
            refine (allU_calls s e1 _ he1l HOK.out).mono ?_
            rintro r w2 ⟨rfl, hb2⟩
            have HB2 := Lib.hid (HBA.out.trans (hb2.mono HBA.out.size))
            clear hb2
            cases ha : allU e1 s with
            | true =>
              have HS2 : Hid (uTo L R e0 (k + 1) = e1 ||| 2 ^ j) := Lib.hid (by rw [HS1.out, if_pos ha])
              clear ha
              go_wp2_with fail
              refine ⟨⟨k + 1, true, HEND.out.1, by go_num, by first | rfl | trivial, ?_, ?_, HB2⟩, ?_⟩
              · rw [HS2.out]
              · rw [HS2.out]
                refine Lib.hid ?_
                rw [if_pos rfl]
                have h1 := HM.out
                have h2 := HPC.out HT.out
                cases g with
                | true =>
                  rw [if_pos rfl] at h1
                  omega
                | false =>
                  rw [if_neg (by decide)] at h1
                  rw [h1] at h2
                  rw [h1]
                  exact h2
              · simpa using HEND.out.2
            | false =>
              have HS2 : Hid (uTo L R e0 (k + 1) = e1) := Lib.hid (by rw [HS1.out, if_neg (by rw [ha]; decide)])
              clear ha
              go_wp2_with fail
              refine ⟨⟨k + 1, g, HEND.out.1, by go_num, by first | rfl | trivial, ?_, ?_, HB2⟩, ?_⟩
              · rw [HS2.out]
              · rw [HS2.out]
                exact HM
              · simpa using HEND.out.2
        · obtain rfl : k = n := by omega
          have HLK : Hid (lack (.bool g) (.int .i64 (uTo L R e0 k : Nat)) < lack (.bool true) (.int .i64 (e0 : Nat))) := Lib.hid (by
            have h1 := HM.out
            have h2 := pc_le (uTo L R e0 k)
            have h3 := pc_le e0
            cases g with
            | true =>
              rw [if_pos rfl] at h1
              show 6 - pc ((uTo L R e0 k : Nat) : Int).toNat < 6 - pc ((e0 : Nat) : Int).toNat
              rw [Int.toNat_natCast, Int.toNat_natCast]
              omega
            | false =>
              show 0 < 6 - pc ((e0 : Nat) : Int).toNat
              rw [Int.toNat_natCast]
              omega)
          go_wp2_with fail
          refine ⟨⟨m + 1, g, rfl, ?_, Lib.hid (fun hg2 => ?_), HB⟩, HLK.out⟩
          · rw [rep, HE0.out]
          · have h1 := HM.out
            rw [hg2, if_neg (by decide)] at h1
            rw [rep, HE0.out, h1]
            exact h1
    | false =>
      have he := useful_end HG.out.ok (HZ.out rfl)
      rw [he]
      clear HZ he0
      go_wp2
      go_ret
      exact ⟨rfl, HB.out⟩
set_option maxHeartbeats 1000000 in
set_option maxRecDepth 100000 in
theorem useful_calls (A : Option Addr) (n c : Nat) (L : Nat → Int) (R : Nat → ByteArray) (w : World) (hA : Sr w A n c L R) (hg : Gr L R n) :
    Calls Tryd.prog 73 #[.slice A n c] w fun e w' => e = .returned (.int .i64 (usefulN L R n : Nat)) ∧ Below w.heap.size w w' := by
  have HC := Lib.hid (grownU_calls A n c L R w hA hg)
  clear hA hg
  go_enter Tryd.func73, Tryd.ntmps73
  go_wp2_with fail
  refine HC.out.mono ?_
  rintro e w1 ⟨rfl, hb⟩
  have HB := Lib.hid hb
  clear hb
  go_wp2
  go_ret
  exact ⟨rfl, HB.out⟩
end Go.Proofs.YtjpfalanoifpbaaDoor.X
end

section
set_option linter.unusedVariables false
namespace Go.Proofs.YtjpfalanoifpbaaDoor.T
abbrev Ru := Int × ByteArray
def bitsTo (s : ByteArray) : Nat → Nat
  | 0 => 0
  | j + 1 => if isP (ch s j) = true then bitsTo s j ||| 2 ^ pn (ch s j) else bitsTo s j
def bitsOf (s : ByteArray) : Nat := bitsTo s s.size
def rStep (e : Nat) (r : Ru) : Nat := if e.testBit (pn r.1) = true then e ||| bitsOf r.2 else e
def rTo (l : List Ru) (e : Nat) : Nat := l.foldl rStep e
def rch (b : Int) (l : List Ru) : Nat := rep (rTo l) 5 (2 ^ pn b)
def keepU (u : Nat) (l : List Ru) : List Ru := l.filter fun r => allU u r.2
def keepR (e : Nat) (l : List Ru) : List Ru := l.filter fun r => e.testBit (pn r.1)
def isB (b : Int) (r : Ru) : Bool := decide (r.1 = b)
def part (b : Int) (l : List Ru) : List Ru := l.filter (isB b) ++ l.filter fun r => !isB b r
def trimL (u : Nat) (b : Int) (l : List Ru) : List Ru := part b (keepR (rch b (keepU u l)) (keepU u l))
theorem bitsTo_lt {s : ByteArray} : ∀ j, bitsTo s j < 32
  | 0 => show (0 : Nat) < 32 by decide
  | j + 1 => by
    rw [bitsTo]
    split
    · rename_i h
      exact or_lt (bitsTo_lt j) (pp_lt h)
    · exact bitsTo_lt j
theorem rStep_lt {e : Nat} (h : e < 32) (r : Ru) : rStep e r < 32 := by
  unfold rStep
  split
  · exact or_lt h (bitsTo_lt _)
  · exact h
theorem foldl_lt {f : Nat → Ru → Nat} (hf : ∀ e r, e < 32 → f e r < 32) : ∀ (l : List Ru) {e : Nat}, e < 32 → l.foldl f e < 32
  | [], _, h => h
  | r :: l, e, h => foldl_lt hf l (hf e r h)
theorem rTo_lt (l : List Ru) {e : Nat} (h : e < 32) : rTo l e < 32 := foldl_lt (fun e r h => rStep_lt h r) l h
theorem rep_lt {f : Nat → Nat} (hf : ∀ e, e < 32 → f e < 32) : ∀ m {e : Nat}, e < 32 → rep f m e < 32
  | 0, _, h => h
  | m + 1, _, h => hf _ (rep_lt hf m h)
theorem part_snoc (b : Int) (l : List Ru) (x : Ru) : part b (l ++ [x]) = if isB b x = true then l.filter (isB b) ++ x :: l.filter (fun r => !isB b r) else part b l ++ [x] := by
  unfold part
  rw [List.filter_append, List.filter_append]
  by_cases h : isB b x = true
  · rw [if_pos h]
    simp [h]
  · rw [if_neg h]
    simp [h]
def swp (l : List Ru) (j : Nat) (x y : Ru) : List Ru := (l.set j y).set (j - 1) x
def nB (b : Int) (l : List Ru) : Nat := (l.filter (isB b)).length
theorem part_length (b : Int) (l : List Ru) : (part b l).length = l.length := by
  unfold part
  rw [List.length_append]
  induction l with
  | nil => rfl
  | cons a l ih =>
    rw [List.filter_cons, List.filter_cons]
    by_cases h : isB b a = true
    · simp [h] at ih ⊢
      omega
    · simp [h] at ih ⊢
      omega
theorem part_at {b : Int} {l : List Ru} {j : Nat} {y : Ru} (h : (part b l)[j]? = some y) : isB b y = decide (j < nB b l) := by
  unfold part at h
  unfold nB
  by_cases hj : j < (l.filter (isB b)).length
  · rw [List.getElem?_append_left hj] at h
    have := List.mem_of_getElem? h
    rw [List.mem_filter] at this
    rw [this.2, decide_eq_true hj]
  · rw [List.getElem?_append_right (by omega)] at h
    have := List.mem_of_getElem? h
    rw [List.mem_filter] at this
    rw [decide_eq_false hj]
    simpa using this.2
def down (p : List Ru) (x : Ru) (rest : List Ru) (j : Nat) : List Ru := p.take j ++ x :: (p.drop j ++ rest)
theorem down_at {p : List Ru} {x : Ru} {rest : List Ru} {j : Nat} (hj : j ≤ p.length) : (down p x rest j)[j]? = some x := by
  unfold down
  rw [List.getElem?_append_right (by rw [List.length_take]; omega)]
  simp [List.length_take, Nat.min_eq_left hj]
theorem down_before {p : List Ru} {x : Ru} {rest : List Ru} {j : Nat} (hj : j < p.length) : (down p x rest (j + 1))[j]? = p[j]? := by
  unfold down
  rw [List.getElem?_append_left (by rw [List.length_take]; omega), List.getElem?_take, if_pos (by omega)]
theorem down_swap {p : List Ru} {x y : Ru} {rest : List Ru} {j : Nat} (hy : p[j]? = some y) : swp (down p x rest (j + 1)) (j + 1) x y = down p x rest j := by
  obtain ⟨hj, hyj⟩ := List.getElem?_eq_some_iff.1 hy
  have hl : (p.take j).length = j := by rw [List.length_take]; omega
  have e1 : down p x rest (j + 1) = p.take j ++ y :: x :: (p.drop (j + 1) ++ rest) := by
    unfold down
    rw [take_succ_of hy]
    simp
  have e2 : down p x rest j = p.take j ++ x :: y :: (p.drop (j + 1) ++ rest) := by
    unfold down
    rw [List.drop_eq_getElem_cons hj, hyj]
    rfl
  unfold swp
  rw [e1, e2, Nat.add_sub_cancel, List.set_append_right _ _ (by omega), hl]
  simp only [Nat.add_sub_cancel_left, List.set_cons_succ, List.set_cons_zero]
  rw [List.set_append_right _ _ (by omega), hl]
  simp
theorem down_all {p : List Ru} {x : Ru} {rest : List Ru} : down p x rest p.length = p ++ x :: rest := by
  unfold down
  simp
theorem down_end {b : Int} {l : List Ru} {x : Ru} {rest : List Ru} (hx : isB b x = true) : down (part b l) x rest (nB b l) = part b (l ++ [x]) ++ rest := by
  rw [part_snoc, if_pos hx]
  unfold down part nB
  simp
theorem down_stay {b : Int} {l : List Ru} {x : Ru} {rest : List Ru} (hx : isB b x = false) : part b l ++ x :: rest = part b (l ++ [x]) ++ rest := by
  rw [part_snoc, if_neg (by rw [hx]; decide)]
  simp
end Go.Proofs.YtjpfalanoifpbaaDoor.T
end

section
set_option linter.unusedVariables false
namespace Go.Proofs.YtjpfalanoifpbaaDoor.T
def gl (L : Nat → Int) (R : Nat → ByteArray) (n : Nat) : List Ru := (List.range n).map fun k => (L k, R k)
theorem gl_succ (L : Nat → Int) (R : Nat → ByteArray) (n : Nat) : gl L R (n + 1) = gl L R n ++ [(L n, R n)] := by
  unfold gl
  rw [List.range_succ, List.map_append]
  rfl
def Okl (l : List Ru) : Prop := ∀ r ∈ l, isP r.1 = true ∧ okR r.2
def Sub (z u : Nat) : Prop := ∀ p, z.testBit p = true → u.testBit p = true
theorem Sub.refl (z : Nat) : Sub z z := fun _ h => h
theorem Sub.trans {a b c : Nat} (h : Sub a b) (k : Sub b c) : Sub a c := fun p q => k p (h p q)
theorem or_sub {a b u : Nat} (h : Sub a u) (k : Sub b u) : Sub (a ||| b) u := fun p q => by
  rw [Nat.testBit_or, Bool.or_eq_true] at q
  rcases q with q | q
  · exact h p q
  · exact k p q
theorem pow_sub {p u : Nat} (h : u.testBit p = true) : Sub (2 ^ p) u := fun q hq => by
  rw [Nat.testBit_two_pow] at hq
  have := of_decide_eq_true hq
  rw [← this]
  exact h
theorem zero_sub (u : Nat) : Sub 0 u := fun p q => by rw [Nat.zero_testBit] at q; cases q
theorem allU_mono {z u : Nat} (h : Sub z u) {s : ByteArray} (ha : allU z s = true) : allU u s = true := by
  unfold allU at ha ⊢
  rw [List.all_eq_true] at ha ⊢
  intro i hi
  have := ha i hi
  rw [Bool.or_eq_true] at this ⊢
  exact this.imp id (h _)
theorem allU_at {u : Nat} {s : ByteArray} (ha : allU u s = true) {i : Nat} (hi : i < s.size) (hp : isP (ch s i) = true) : u.testBit (pn (ch s i)) = true := by
  unfold allU at ha
  rw [List.all_eq_true] at ha
  have := ha i (List.mem_range.2 hi)
  rw [hp] at this
  simpa using this
theorem allU_of {u : Nat} {s : ByteArray} (h : ∀ i, i < s.size → isP (ch s i) = true → u.testBit (pn (ch s i)) = true) : allU u s = true := by
  unfold allU
  rw [List.all_eq_true]
  intro i hi
  have := h i (List.mem_range.1 hi)
  cases hp : isP (ch s i) with
  | false => rfl
  | true => simpa using this hp
theorem mem_lst {s : ByteArray} {c : Int} (h : c ∈ lst s) : ∃ i, i < s.size ∧ ch s i = c := by
  unfold lst at h
  obtain ⟨i, hi, e⟩ := List.mem_map.1 h
  exact ⟨i, List.mem_range.1 hi, e⟩
theorem bitsTo_at {s : ByteArray} {i : Nat} (hp : isP (ch s i) = true) : ∀ {j}, i < j → (bitsTo s j).testBit (pn (ch s i)) = true
  | j + 1, h => by
    rw [bitsTo]
    by_cases e : i = j
    · subst e
      rw [if_pos hp, Nat.testBit_or, Nat.testBit_two_pow_self, Bool.or_true]
    · have ih := bitsTo_at hp (j := j) (by omega)
      split
      · rw [Nat.testBit_or, ih, Bool.true_or]
      · exact ih
section
variable {f : Nat → Ru → Nat}
theorem fold_sub (hf : ∀ e r, Sub e (f e r)) : ∀ (l : List Ru) (e : Nat), Sub e (l.foldl f e)
  | [], e => Sub.refl e
  | r :: l, e => (hf e r).trans (fold_sub hf l (f e r))
theorem or_of_sub {x y : Nat} (h : Sub x y) : x ||| y = y := by
  apply Nat.eq_of_testBit_eq
  intro p
  rw [Nat.testBit_or]
  cases hx : x.testBit p with
  | false => rfl
  | true => rw [h p hx]; rfl
theorem fold_fix (hf : ∀ e r, Sub e (f e r)) : ∀ {l : List Ru} {E : Nat}, l.foldl f E = E → ∀ r ∈ l, f E r = E
  | r :: l, E, h, q, hq => by
    rw [List.foldl_cons] at h
    have h1 : f E r = E := by
      have a := fold_sub hf l (f E r)
      rw [h] at a
      exact or_squeeze (or_of_sub a) (or_of_sub (hf E r))
    rcases List.mem_cons.1 hq with e | e
    · rw [e]; exact h1
    · rw [h1] at h
      exact fold_fix hf h q e
theorem fold_stands (hf : ∀ e r, Sub e (f e r)) (l : List Ru) (hl : ∀ e r, r ∈ l → e < 32 → f e r < 32) {x : Nat} (hx : x < 32) : l.foldl f (rep (fun e => l.foldl f e) 5 x) = rep (fun e => l.foldl f e) 5 x := by
  have hlt : ∀ (m : List Ru), (∀ r ∈ m, r ∈ l) → ∀ e, e < 32 → m.foldl f e < 32 := by
    intro m
    induction m with
    | nil => exact fun _ _ h => h
    | cons r m ih => exact fun hm e he => ih (fun q hq => hm q (List.mem_cons_of_mem _ hq)) _ (hl e r (hm r (List.mem_cons_self ..)) he)
  refine rep_stands (fun e => l.foldl f e) (fun e => e < 32) pc 5 (fun e he => hlt l (fun _ h => h) e he) (fun e he => ?_) (fun e _ => pc_le e) hx 5 (Nat.le_refl _)
  have h1 := hlt l (fun _ h => h) e he
  have h2 := or_of_sub (fold_sub hf l e)
  have h3 := pc_mono e (l.foldl f e)
  rw [h2] at h3
  by_cases hc : pc e = pc (l.foldl f e)
  · refine .inl ?_
    have := pc_eq he h1 (by rw [h2]; exact hc)
    rw [h2] at this
    exact this
  · exact .inr (by omega)
theorem fold_inv {P : Nat → Prop} : ∀ {l : List Ru}, (∀ z r, r ∈ l → P z → P (f z r)) → ∀ {z}, P z → P (l.foldl f z)
  | [], _, z, hz => hz
  | r :: l, h, z, hz => fold_inv (l := l) (fun z q hq => h z q (List.mem_cons_of_mem _ hq)) (h z r (List.mem_cons_self ..) hz)
theorem rep_inv {P : Nat → Prop} {g : Nat → Nat} (h : ∀ z, P z → P (g z)) : ∀ m {z}, P z → P (rep g m z)
  | 0, z, hz => hz
  | m + 1, z, hz => h _ (rep_inv h m hz)
end
def uStep (e : Nat) (r : Ru) : Nat := if allU e r.2 = true then e ||| 2 ^ pn r.1 else e
def us (l : List Ru) : Nat := rep (fun e => l.foldl uStep e) 5 0
theorem uTo_fold (L : Nat → Int) (R : Nat → ByteArray) (e : Nat) : ∀ n, uTo L R e n = (gl L R n).foldl uStep e
  | 0 => rfl
  | n + 1 => by
    rw [uTo, gl_succ, List.foldl_append, ← uTo_fold L R e n]
    rfl
theorem useful_us (L : Nat → Int) (R : Nat → ByteArray) (n : Nat) : usefulN L R n = us (gl L R n) := by
  unfold usefulN us
  congr 1
  exact funext fun e => uTo_fold L R e n
theorem uStep_sub (e : Nat) (r : Ru) : Sub e (uStep e r) := by
  unfold uStep
  split
  · exact fun p h => by rw [Nat.testBit_or, h, Bool.true_or]
  · exact Sub.refl e
theorem us_fix {l : List Ru} (h : Okl l) : l.foldl uStep (us l) = us l :=
  fold_stands uStep_sub l (fun e r hr he => by
    unfold uStep
    split
    · exact or_lt he (pp_lt (h r hr).1)
    · exact he) (show (0 : Nat) < 32 by decide)
theorem us_closed {l : List Ru} (h : Okl l) {r : Ru} (hr : r ∈ l) (ha : allU (us l) r.2 = true) : (us l).testBit (pn r.1) = true := by
  have := fold_fix uStep_sub (us_fix h) r hr
  unfold uStep at this
  rw [if_pos ha] at this
  rw [← this, Nat.testBit_or, Nat.testBit_two_pow_self, Bool.or_true]
theorem us_least {l : List Ru} (h : Okl l) {P : Nat → Prop} (h0 : P 0) (hs : ∀ z r, r ∈ l → Sub z (us l) → P z → allU z r.2 = true → P (z ||| 2 ^ pn r.1)) : P (us l) := by
  have key : ∀ z, (Sub z (us l) ∧ P z) → (Sub (l.foldl uStep z) (us l) ∧ P (l.foldl uStep z)) := fun z hz => by
    refine fold_inv (f := uStep) (P := fun z => Sub z (us l) ∧ P z) (l := l) (fun z r hr hz => ?_) hz
    unfold uStep
    split
    · rename_i ha
      exact ⟨or_sub hz.1 (pow_sub (us_closed h hr (allU_mono hz.1 ha))), hs z r hr hz.1 hz.2 ha⟩
    · exact hz
  exact (rep_inv (g := fun e => l.foldl uStep e) (P := fun z => Sub z (us l) ∧ P z) key 5 ⟨zero_sub _, h0⟩).2
theorem us_rule {l : List Ru} (h : Okl l) {p : Nat} (hp : (us l).testBit p = true) : ∃ r ∈ l, pn r.1 = p ∧ allU (us l) r.2 = true := by
  refine us_least (P := fun z => ∀ p, z.testBit p = true → ∃ r ∈ l, pn r.1 = p ∧ allU (us l) r.2 = true) h (fun p q => by rw [Nat.zero_testBit] at q; cases q) (fun z r hr hz ih ha p q => ?_) p hp
  rw [Nat.testBit_or, Bool.or_eq_true] at q
  rcases q with q | q
  · exact ih p q
  · rw [Nat.testBit_two_pow] at q
    exact ⟨r, hr, of_decide_eq_true q, allU_mono hz ha⟩
theorem rStep_sub (e : Nat) (r : Ru) : Sub e (rStep e r) := by
  unfold rStep
  split
  · exact fun p h => by rw [Nat.testBit_or, h, Bool.true_or]
  · exact Sub.refl e
theorem rch_fix {b : Int} (hb : isP b = true) (l : List Ru) : l.foldl rStep (rch b l) = rch b l :=
  fold_stands rStep_sub l (fun e r _ he => rStep_lt he r) (pp_lt hb)
theorem rch_closed {b : Int} (hb : isP b = true) {l : List Ru} {r : Ru} (hr : r ∈ l) (ht : (rch b l).testBit (pn r.1) = true) : Sub (bitsOf r.2) (rch b l) := by
  have := fold_fix rStep_sub (rch_fix hb l) r hr
  unfold rStep at this
  rw [if_pos ht] at this
  intro p hp
  rw [← this, Nat.testBit_or, hp, Bool.or_true]
theorem rch_least {b : Int} {l : List Ru} {P : Nat → Prop} (h0 : P (2 ^ pn b)) (hs : ∀ z r, r ∈ l → P z → z.testBit (pn r.1) = true → P (z ||| bitsOf r.2)) : P (rch b l) := by
  have key : ∀ z, P z → P (rTo l z) := fun z hz => by
    refine fold_inv (f := rStep) (P := P) (l := l) (fun z r hr hz => ?_) hz
    unfold rStep
    split
    · rename_i ha
      exact hs z r hr hz ha
    · exact hz
  exact rep_inv (g := rTo l) key 5 h0
theorem rch_beg (b : Int) (l : List Ru) : (rch b l).testBit (pn b) = true := by
  refine rch_least (P := fun z => z.testBit (pn b) = true) (Nat.testBit_two_pow_self) (fun z r _ hz _ => ?_)
  rw [Nat.testBit_or, hz, Bool.true_or]
end Go.Proofs.YtjpfalanoifpbaaDoor.T
end

section
set_option linter.unusedVariables false
namespace Go.Proofs.YtjpfalanoifpbaaDoor.T
section
variable (sw : Nat → Int)
def rndL (a : Cnt) (c : Int) (i j : Nat) : List Ru → Nat
  | [] => 0
  | r :: l => (if r.1 = c then W sw a (lst r.2) i j else 0) + rndL a c i j l
def AL (l : List Ru) : Nat → Cnt
  | 0 => fun _ _ _ => 0
  | t + 1 => fun c i j => rndL sw (AL l t) c i j l
variable {sw}
theorem rndL_append (a : Cnt) (c : Int) (i j : Nat) (m : List Ru) : ∀ l, rndL sw a c i j (l ++ m) = rndL sw a c i j l + rndL sw a c i j m
  | [] => by simp [rndL]
  | r :: l => by
    rw [List.cons_append, rndL, rndL, rndL_append a c i j m l, Nat.add_assoc]
theorem rnd_list (L : Nat → Int) (R : Nat → ByteArray) (a : Cnt) (c : Int) (i j : Nat) : ∀ k, rnd sw L (fun k => lst (R k)) a c i j k = rndL sw a c i j (gl L R k)
  | 0 => rfl
  | k + 1 => by
    rw [rnd, gl_succ, rndL_append, rnd_list L R a c i j k]
    simp [rndL]
theorem A_list (L : Nat → Int) (R : Nat → ByteArray) (n : Nat) : ∀ t, A sw L (fun k => lst (R k)) n t = AL sw (gl L R n) t
  | 0 => rfl
  | t + 1 => by
    funext c i j
    show rnd sw L (fun k => lst (R k)) (A sw L (fun k => lst (R k)) n t) c i j n = _
    rw [rnd_list, A_list L R n t]
    rfl
theorem W_part {a : Cnt} {c : Int} (hc : isP c = true) : ∀ {l : List Int} {i j : Nat}, c ∈ l → 0 < W sw a l i j → ∃ x y, 0 < a c x y
  | d :: l, i, j, hm, hp => by
    unfold W at hp
    split at hp
    · obtain ⟨k, h1, h2, h3⟩ := sumIJ_pos hp
      have h4 := Nat.pos_of_mul_pos_left h3
      have h5 := Nat.pos_of_mul_pos_right h3
      rcases List.mem_cons.1 hm with e | e
      · subst e
        exact ⟨_, _, h5⟩
      · exact W_part hc e h4
    · rename_i hd
      split at hp
      · rcases List.mem_cons.1 hm with e | e
        · subst e
          exact absurd hc hd
        · exact W_part hc e hp
      · omega
theorem sumIJ_congr {f g : Nat → Nat} {i : Nat} (h : ∀ k, f k = g k) (d : Nat) : sumIJ f i d = sumIJ g i d := by
  have : f = g := funext h
  rw [this]
theorem W_congr {a b : Cnt} : ∀ {l : List Int} {i j : Nat}, (∀ c ∈ l, isP c = true → ∀ i j, a c i j = b c i j) → W sw a l i j = W sw b l i j
  | [], _, _, _ => rfl
  | c :: l, i, j, h => by
    unfold W
    split
    · rename_i hc
      refine sumIJ_congr (fun k => ?_) _
      rw [h c (List.mem_cons_self ..) hc, W_congr fun d hd => h d (List.mem_cons_of_mem _ hd)]
    · rw [W_congr fun d hd => h d (List.mem_cons_of_mem _ hd)]
theorem rndL_pos {a : Cnt} {c : Int} {i j : Nat} : ∀ {l}, 0 < rndL sw a c i j l → ∃ r ∈ l, r.1 = c ∧ 0 < W sw a (lst r.2) i j
  | r :: l, h => by
    rw [rndL] at h
    by_cases e : r.1 = c ∧ 0 < W sw a (lst r.2) i j
    · exact ⟨r, List.mem_cons_self .., e⟩
    · have : (if r.1 = c then W sw a (lst r.2) i j else 0) = 0 := by
        split
        · rename_i hc
          by_cases q : 0 < W sw a (lst r.2) i j
          · exact absurd ⟨hc, q⟩ e
          · omega
        · rfl
      obtain ⟨q, hq, h1⟩ := rndL_pos (a := a) (c := c) (i := i) (j := j) (l := l) (by omega)
      exact ⟨q, List.mem_cons_of_mem _ hq, h1⟩
theorem AL_useful {l : List Ru} (h : Okl l) : ∀ t c i j, 0 < AL sw l t c i j → (us l).testBit (pn c) = true
  | t + 1, c, i, j, hp => by
    obtain ⟨r, hr, rfl, hw⟩ := rndL_pos hp
    refine us_closed h hr (allU_of fun k hk hq => ?_)
    have hm : ch r.2 k ∈ lst r.2 := List.mem_map.2 ⟨k, List.mem_range.2 hk, rfl⟩
    obtain ⟨x, y, hxy⟩ := W_part hq hm hw
    exact AL_useful h t _ _ _ hxy
theorem AL_none {l : List Ru} (h : Okl l) {c : Int} (hc : (us l).testBit (pn c) = false) (t i j : Nat) : AL sw l t c i j = 0 := by
  by_cases e : 0 < AL sw l t c i j
  · have := AL_useful h t c i j e
    rw [hc] at this
    cases this
  · omega
end
theorem part_twice (b : Int) (l : List Ru) : part b (part b l) = part b l := by
  unfold part
  have e0 : l.filter (fun _ => false) = [] := List.filter_eq_nil_iff.2 fun _ _ h => by cases h
  simp [List.filter_append, List.filter_filter, e0]
theorem part_mem {b : Int} {l : List Ru} {r : Ru} : r ∈ part b l ↔ r ∈ l := by
  unfold part
  rw [List.mem_append, List.mem_filter, List.mem_filter]
  cases isB b r <;> simp
theorem trim_mem {u : Nat} {b : Int} {l : List Ru} {r : Ru} : r ∈ trimL u b l ↔ r ∈ l ∧ allU u r.2 = true ∧ (rch b (keepU u l)).testBit (pn r.1) = true := by
  unfold trimL
  rw [part_mem]
  unfold keepR
  rw [List.mem_filter]
  show r ∈ keepU u l ∧ _ ↔ _
  have : r ∈ keepU u l ↔ r ∈ l ∧ allU u r.2 = true := by
    unfold keepU
    rw [List.mem_filter]
  rw [this]
  exact and_assoc
theorem trim_ok {u : Nat} {b : Int} {l : List Ru} (h : Okl l) : Okl (trimL u b l) := fun r hr => h r (trim_mem.1 hr).1
theorem keep_mem {u : Nat} {l : List Ru} {r : Ru} : r ∈ keepU u l ↔ r ∈ l ∧ allU u r.2 = true := by
  unfold keepU
  rw [List.mem_filter]
theorem trim_within {u : Nat} {b : Int} (hb : isP b = true) {l : List Ru} {r : Ru} (hr : r ∈ keepU u l) (ht : (rch b (keepU u l)).testBit (pn r.1) = true) {i : Nat} (hi : i < r.2.size) (hp : isP (ch r.2 i) = true) : (rch b (keepU u l)).testBit (pn (ch r.2 i)) = true :=
  rch_closed hb hr ht _ (bitsTo_at hp hi)
theorem us_trim {b : Int} (hb : isP b = true) {l : List Ru} (h : Okl l) : ∀ p, (us l).testBit p = true → (rch b (keepU (us l) l)).testBit p = true → (us (trimL (us l) b l)).testBit p = true := by
  refine us_least (P := fun z => ∀ p, z.testBit p = true → (rch b (keepU (us l) l)).testBit p = true → (us (trimL (us l) b l)).testBit p = true) h (fun p q => by rw [Nat.zero_testBit] at q; cases q) ?_
  intro z r hr hz ih ha p hp he
  rw [Nat.testBit_or, Bool.or_eq_true] at hp
  rcases hp with q | q
  · exact ih p q he
  · rw [Nat.testBit_two_pow] at q
    obtain rfl : pn r.1 = p := of_decide_eq_true q
    have ha2 := allU_mono hz ha
    have hk : r ∈ keepU (us l) l := keep_mem.2 ⟨hr, ha2⟩
    refine us_closed (trim_ok h) (trim_mem.2 ⟨hr, ha2, he⟩) (allU_of fun i hi hq => ?_)
    exact ih _ (allU_at ha hi hq) (trim_within hb hk he hi hq)
theorem trim_allU {b : Int} (hb : isP b = true) {l : List Ru} (h : Okl l) {r : Ru} (hr : r ∈ trimL (us l) b l) : allU (us (trimL (us l) b l)) r.2 = true := by
  obtain ⟨h1, h2, h3⟩ := trim_mem.1 hr
  exact allU_of fun i hi hq => us_trim hb h _ (allU_at h2 hi hq) (trim_within hb (keep_mem.2 ⟨h1, h2⟩) h3 hi hq)
theorem trim_reached {b : Int} (hb : isP b = true) {l : List Ru} (h : Okl l) {u : Nat} : Sub (rch b (keepU u l)) (rch b (trimL u b l)) := by
  have key : Sub (rch b (keepU u l)) (rch b (trimL u b l)) ∧ Sub (rch b (keepU u l)) (rch b (keepU u l)) := by
    refine rch_least (l := keepU u l) (P := fun z => Sub z (rch b (trimL u b l)) ∧ Sub z (rch b (keepU u l))) ⟨pow_sub (rch_beg b _), pow_sub (rch_beg b _)⟩ ?_
    intro z r hr hz ht
    have h1 := hz.2 _ ht
    obtain ⟨h2, h3⟩ := keep_mem.1 hr
    exact ⟨or_sub hz.1 (rch_closed hb (trim_mem.2 ⟨h2, h3, h1⟩) (hz.1 _ ht)), or_sub hz.2 (rch_closed hb hr h1)⟩
  exact key.1
theorem trim_again {b : Int} (hb : isP b = true) {l : List Ru} (h : Okl l) : trimL (us (trimL (us l) b l)) b (trimL (us l) b l) = trimL (us l) b l := by
  have e1 : keepU (us (trimL (us l) b l)) (trimL (us l) b l) = trimL (us l) b l := by
    unfold keepU
    exact List.filter_eq_self.2 fun r hr => trim_allU hb h hr
  have e2 : keepR (rch b (trimL (us l) b l)) (trimL (us l) b l) = trimL (us l) b l := by
    unfold keepR
    exact List.filter_eq_self.2 fun r hr => trim_reached hb h _ (trim_mem.1 hr).2.2
  have e3 : part b (trimL (us l) b l) = trimL (us l) b l := part_twice _ _
  show part b (keepR (rch b (keepU (us (trimL (us l) b l)) (trimL (us l) b l))) (keepU (us (trimL (us l) b l)) (trimL (us l) b l))) = _
  rw [e1, e2, e3]
section
variable {sw : Nat → Int}
theorem rndL_filter {a : Cnt} {c : Int} {i j : Nat} (p : Ru → Bool) : ∀ {l : List Ru}, (∀ r ∈ l, r.1 = c → 0 < W sw a (lst r.2) i j → p r = true) → rndL sw a c i j (l.filter p) = rndL sw a c i j l
  | [], _ => rfl
  | r :: l, h => by
    have ih := rndL_filter (a := a) (c := c) (i := i) (j := j) p (l := l) fun q hq => h q (List.mem_cons_of_mem _ hq)
    rw [List.filter_cons]
    split
    · rw [rndL, rndL, ih]
    · rename_i hp
      rw [rndL, ih]
      split
      · rename_i hc
        by_cases q : 0 < W sw a (lst r.2) i j
        · exact absurd (h r (List.mem_cons_self ..) hc q) hp
        · omega
      · omega
theorem rndL_part {a : Cnt} {c : Int} {i j : Nat} (b : Int) (l : List Ru) : rndL sw a c i j (part b l) = rndL sw a c i j l := by
  unfold part
  rw [rndL_append]
  induction l with
  | nil => rfl
  | cons r l ih =>
    rw [List.filter_cons, List.filter_cons]
    cases hr : isB b r with
    | true =>
      simp only [if_true, Bool.not_true, Bool.false_eq_true, if_false]
      rw [rndL, rndL, ← ih]
      omega
    | false =>
      simp only [if_true, Bool.not_false, Bool.false_eq_true, if_false]
      rw [rndL, rndL, ← ih]
      omega
theorem rndL_congr {a a' : Cnt} {c : Int} {i j : Nat} : ∀ {l : List Ru}, (∀ r ∈ l, r.1 = c → W sw a (lst r.2) i j = W sw a' (lst r.2) i j) → rndL sw a c i j l = rndL sw a' c i j l
  | [], _ => rfl
  | r :: l, h => by
    rw [rndL, rndL, rndL_congr (l := l) fun q hq => h q (List.mem_cons_of_mem _ hq)]
    split
    · rename_i hc
      rw [h r (List.mem_cons_self ..) hc]
    · rfl
theorem trim_counts {b : Int} (hb : isP b = true) {l : List Ru} (h : Okl l) : ∀ t c i j, (rch b (keepU (us l) l)).testBit (pn c) = true → AL sw l t c i j = AL sw (trimL (us l) b l) t c i j
  | 0, _, _, _, _ => rfl
  | t + 1, c, i, j, hc => by
    show rndL sw (AL sw l t) c i j l = rndL sw (AL sw (trimL (us l) b l) t) c i j (trimL (us l) b l)
    have e1 : rndL sw (AL sw l t) c i j (keepU (us l) l) = rndL sw (AL sw l t) c i j l := by
      unfold keepU
      refine rndL_filter _ fun r hr e hw => allU_of fun k hk hq => ?_
      have hm : ch r.2 k ∈ lst r.2 := List.mem_map.2 ⟨k, List.mem_range.2 hk, rfl⟩
      obtain ⟨x, y, hxy⟩ := W_part hq hm hw
      exact AL_useful h t _ _ _ hxy
    have e2 : rndL sw (AL sw l t) c i j (keepR (rch b (keepU (us l) l)) (keepU (us l) l)) = rndL sw (AL sw l t) c i j (keepU (us l) l) := by
      show rndL sw (AL sw l t) c i j ((keepU (us l) l).filter _) = _
      exact rndL_filter _ fun r hr e hw => by rw [e]; exact hc
    have e3 : rndL sw (AL sw l t) c i j (trimL (us l) b l) = rndL sw (AL sw l t) c i j (keepR (rch b (keepU (us l) l)) (keepU (us l) l)) := rndL_part _ _
    rw [← e1, ← e2, ← e3]
    refine rndL_congr fun r hr e => W_congr fun d hd hp x y => ?_
    obtain ⟨k, hk, rfl⟩ := mem_lst hd
    obtain ⟨m1, m2, m3⟩ := trim_mem.1 hr
    exact trim_counts hb h t _ _ _ (trim_within hb (keep_mem.2 ⟨m1, m2⟩) m3 hk hp)
end
theorem pn_inj {a b : Int} (ha : isP a = true) (hb : isP b = true) (h : pn a = pn b) : a = b := by
  rw [isP_iff] at ha hb
  unfold pn at h
  omega
theorem trim_first {b : Int} (hb : isP b = true) {l : List Ru} (h : Okl l) (hu : (us l).testBit (pn b) = true) : ∃ s m, trimL (us l) b l = (b, s) :: m := by
  obtain ⟨r, hr, e, ha⟩ := us_rule h hu
  have e1 : r.1 = b := pn_inj (h r hr).1 hb e
  have hm : r ∈ (keepR (rch b (keepU (us l) l)) (keepU (us l) l)).filter (isB b) := by
    rw [List.mem_filter]
    refine ⟨?_, by unfold isB; rw [e1]; simp⟩
    unfold keepR
    rw [List.mem_filter]
    exact ⟨keep_mem.2 ⟨hr, ha⟩, by rw [e1]; exact rch_beg b _⟩
  unfold trimL part
  cases hf : (keepR (rch b (keepU (us l) l)) (keepU (us l) l)).filter (isB b) with
  | nil => rw [hf] at hm; cases hm
  | cons q m =>
    have hq : q ∈ (keepR (rch b (keepU (us l) l)) (keepU (us l) l)).filter (isB b) := by rw [hf]; exact List.mem_cons_self ..
    rw [List.mem_filter] at hq
    have : q.1 = b := of_decide_eq_true hq.2
    refine ⟨q.2, m ++ (keepR (rch b (keepU (us l) l)) (keepU (us l) l)).filter (fun r => !isB b r), ?_⟩
    rw [List.cons_append, ← this]
end Go.Proofs.YtjpfalanoifpbaaDoor.T
end

section
set_option linter.unusedVariables false
set_option linter.unusedSimpArgs false
namespace Go.Proofs.YtjpfalanoifpbaaDoor.X
open Go.RowKit Go.Proofs.YtjpfalanoifpbaaDoorW.PrintWords Go.Proofs.YtjpfalanoifpbaaDoorW.PrintLast Go.Proofs.YtjpfalanoifpbaaDoorW.PrintMore Go.Proofs.YtjpfalanoifpbaaDoor.T
abbrev KR : Kd Ru := Kd.pair (Kd.int .u8) Kd.string
def lL (l : List Ru) (i : Nat) : Int := (l.getD i (0, ByteArray.empty)).1
def lR (l : List Ru) (i : Nat) : ByteArray := (l.getD i (0, ByteArray.empty)).2
theorem kr_cells {w : World} {p : Ru} {c : List Value} (h : KR.K w p c) : c = [.int .u8 p.1, .string p.2] := by
  obtain ⟨c0, c1, rfl, h0, h1⟩ := h
  rw [show c0 = [.int .u8 p.1] from h0, show c1 = [.string p.2] from h1]
  rfl
def rulesL (L : Nat → Int) (R : Nat → ByteArray) (n : Nat) : List Ru := (List.range n).map fun k => (L k, R k)
theorem rulesL_len (L : Nat → Int) (R : Nat → ByteArray) (n : Nat) : (rulesL L R n).length = n := by simp [rulesL]
end Go.Proofs.YtjpfalanoifpbaaDoor.X
end

section
set_option linter.unusedVariables false
set_option linter.unusedSimpArgs false
namespace Go.Proofs.YtjpfalanoifpbaaDoor.X
open Go.RowKit Go.Proofs.YtjpfalanoifpbaaDoorW.PrintWords Go.Proofs.YtjpfalanoifpbaaDoorW.PrintLast Go.Proofs.YtjpfalanoifpbaaDoorW.PrintMore Go.Proofs.YtjpfalanoifpbaaDoor.T
abbrev RR (ty B : Nat) (w : World) (v : Value) (l : List Ru) : Prop := Kd.R KR ty w B (fun _ => True) v l
theorem rr_below {ty B : Nat} {w w1 : World} {v : Value} {l : List Ru} (h : RR ty B w v l) (hb : Below w.heap.size w w1) : RR ty B w1 v l := Kd.R_below h hb
structure Br (ty : Nat) (w0 w : World) (v1 : Value) (l1 : List Ru) (v2 : Value) (l2 : List Ru) : Prop where
  a : RR ty w0.heap.size w v1 l1
  b : RR ty w0.heap.size w v2 l2
  ne : ∀ k, v1.ownBlock = some k → v2.ownBlock ≠ some k
  bl : Below w0.heap.size w0 w
theorem Br.later {ty : Nat} {w0 w w1 : World} {v1 v2 : Value} {l1 l2 : List Ru} (h : Br ty w0 w v1 l1 v2 l2) (hb : Below w.heap.size w w1) : Br ty w0 w1 v1 l1 v2 l2 :=
  ⟨rr_below h.a hb, rr_below h.b hb, h.ne, h.bl.trans (hb.mono h.bl.size)⟩
end Go.Proofs.YtjpfalanoifpbaaDoor.X
end

section
set_option linter.unusedVariables false
set_option linter.unusedSimpArgs false
namespace Go.Proofs.YtjpfalanoifpbaaDoor.X
open Go.RowKit Go.Proofs.YtjpfalanoifpbaaDoorW.PrintWords Go.Proofs.YtjpfalanoifpbaaDoorW.PrintLast Go.Proofs.YtjpfalanoifpbaaDoorW.PrintMore Go.Proofs.YtjpfalanoifpbaaDoor.T
set_option maxHeartbeats 1000000 in
set_option maxRecDepth 100000 in
theorem outU78_calls (x E G : Nat) (w : World) (hE : E < 32) (hc : w.cell? ⟨G, 0, none⟩ = some (.int .i64 E)) :
    Calls Tryd.prog 78 #[.int .i32 x, .pointer (some ⟨G, 0, none⟩)] w fun e w' => e = .returned (.bool (outU E x)) ∧ w' = w := by
  have hw : IntKind.u8.wrap (x : Int) = (x : Int) % 256 := by
    unfold IntKind.wrap
    simp [IntKind.signed, IntKind.bits]
  unfold outU
  rw [hw]
  obtain ⟨c, hcc⟩ : ∃ c, (x : Int) % 256 = c := ⟨_, rfl⟩
  rw [hcc]
  go_enter Tryd.func78, Tryd.ntmps78
  go_wp2_with fail
  refine (isPart_calls c w).mono ?_
  rintro r w1 ⟨rfl, rfl⟩
  cases hp : isP c with
  | false =>
    go_wp2
    go_ret
    exact ⟨ret_bool (by rw [hp]; rfl), rfl⟩
  | true =>
    have HP := Lib.hid hp
    clear hp
    go_wp2_with fail
    refine (has_calls E c w1 hE).mono ?_
    rintro r w2 ⟨rfl, rfl⟩
    rw [HP.out]
    cases ht : E.testBit (pn c) with
    | true =>
      have HT := Lib.hid ht
      clear ht
      go_wp2
      go_ret
      exact ⟨ret_bool (by rw [HP.out, HT.out]; rfl), rfl⟩
    | false =>
      have HT := Lib.hid ht
      clear ht
      go_wp2
      go_ret
      exact ⟨ret_bool (by rw [HP.out, HT.out]; rfl), rfl⟩
def inS (e : Nat) (l : Int) : Bool := isP l && e.testBit (pn l)
set_option maxHeartbeats 2000000 in
set_option maxRecDepth 100000 in
theorem trim1_calls (l : Int) (s : ByteArray) (u G : Nat) (w : World) (hu : u < 32) (hs : okR s) (hc : w.cell? ⟨G, 0, none⟩ = some (.int .i64 u)) :
    Calls Tryd.prog 76 #[.agg #[.int .u8 l, .string s], .pointer (some ⟨G, 0, none⟩)] w fun e w' => e = .returned (.bool (!(inS u l && allU u s))) ∧ Below w.heap.size w w' := by
  have hi := idx_allU hs u
  have hGlt := World.block_lt_of_cell? _ _ hc
  go_enter Tryd.func76, Tryd.ntmps76
  go_wp2_with fail
  have hb := below_one (w := w) (.cells #[.int .u8 l, .string s] 60)
  obtain ⟨d0, d1⟩ := rule_new w 60 l s
  have hc1 := (hb.cell (p := ⟨G, 0, none⟩) hGlt).trans hc
  generalize w.alloc (.cells #[.int .u8 l, .string s] 60) = w1 at hb d0 d1 hc1 ⊢
  generalize hG : w.heap.size = H at d0 d1 ⊢
  have HB : Hid (Below w.heap.size w w1) := Lib.hid hb
  clear hb hc
  refine (has_calls u l w1 hu).mono ?_
  rintro r w2 ⟨rfl, rfl⟩
  have hin : (isP l && u.testBit (pn l)) = inS u l := rfl
  rw [hin]
  cases hx : inS u l with
  | false =>
    have HX := Lib.hid hx
    clear hx hin hi
    go_wp2
    go_ret
    exact ⟨ret_bool (by rw [HX.out]; rfl), HB.out⟩
  | true =>
    have HX := Lib.hid hx
    have hp : PredAt Tryd.prog 78 #[.pointer (some ⟨G, 0, none⟩)] encR (outU u) w2 := fun W x hW => by
      refine (outU78_calls x u G W hu ((hW.cell (p := ⟨G, 0, none⟩) (World.block_lt_of_cell? _ _ hc1)).trans hc1)).mono ?_
      rintro e w' ⟨rfl, rfl⟩
      exact ⟨rfl, 0, rfl⟩
    have HC := Lib.hid (Tryd.strings_IndexFunc 78 _ (fun args w => enters_ Tryd.func78 (by kernel_rfl) rfl args w) (outU u) s w2 hp)
    clear hx hin hp hc1
    go_wp2_with fail
    refine HC.out.mono ?_
    rintro e w3 ⟨rfl, hb3⟩
    have HB3 := Lib.hid (HB.out.trans (hb3.mono HB.out.size))
    clear hb3 HC d0 d1
    generalize Lib.idxFunc (outU u) true s = i at hi ⊢
    cases ha : allU u s with
    | true =>
      rw [ha] at hi
      have hlt : ¬ 0 ≤ i := by have := of_decide_eq_true hi; omega
      have hlt2 : decide (0 ≤ i) = false := decide_eq_false hlt
      have HAL := Lib.hid ha
      clear ha hi
      go_wp2
      go_ret
      exact ⟨ret_bool (by rw [HX.out, HAL.out]; rfl), HB3.out⟩
    | false =>
      rw [ha] at hi
      have hlt : 0 ≤ i := by have := of_decide_eq_false hi; omega
      have HAL := Lib.hid ha
      clear ha hi
      go_wp2
      go_ret
      exact ⟨ret_bool (by rw [HX.out, HAL.out]; rfl), HB3.out⟩
set_option maxHeartbeats 2000000 in
set_option maxRecDepth 100000 in
theorem trim2_calls (l : Int) (s : ByteArray) (u G : Nat) (w : World) (hu : u < 32) (hc : w.cell? ⟨G, 0, none⟩ = some (.int .i64 u)) :
    Calls Tryd.prog 80 #[.agg #[.int .u8 l, .string s], .pointer (some ⟨G, 0, none⟩)] w fun e w' => e = .returned (.bool (!inS u l)) ∧ Below w.heap.size w w' := by
  have hGlt := World.block_lt_of_cell? _ _ hc
  go_enter Tryd.func80, Tryd.ntmps80
  go_wp2_with fail
  have hb := below_one (w := w) (.cells #[.int .u8 l, .string s] 60)
  have HB := Lib.hid hb
  generalize w.alloc (.cells #[.int .u8 l, .string s] 60) = w1 at HB ⊢
  clear hb
  refine (has_calls u l w1 hu).mono ?_
  rintro r w2 ⟨rfl, rfl⟩
  go_wp2
  go_ret
  first | exact ⟨rfl, HB.out⟩ | exact ⟨ret_bool (by unfold inS; simp), HB.out⟩
def cmpB (b l m : Int) : Int := if l = b ∧ ¬ m = b then -1 else if ¬ l = b ∧ m = b then 1 else 0
end Go.Proofs.YtjpfalanoifpbaaDoor.X
end

section
set_option linter.unusedVariables false
set_option linter.unusedSimpArgs false
namespace Go.Proofs.YtjpfalanoifpbaaDoor.X
open Go.RowKit Go.Proofs.YtjpfalanoifpbaaDoorW.PrintWords Go.Proofs.YtjpfalanoifpbaaDoorW.PrintLast Go.Proofs.YtjpfalanoifpbaaDoorW.PrintMore Go.Proofs.YtjpfalanoifpbaaDoor.T
structure RowB (w : World) (g c : Nat) (l : List Ru) : Prop where
  blk : ∃ cur, w.heap[g]? = some (.cells cur 60 (0, 0)) ∧ c * 2 ≤ cur.size ∧ ∀ (j : Nat) r, l[j]? = some r → cur[j * 2]? = some (.int .u8 r.1) ∧ cur[j * 2 + 1]? = some (.string r.2)
  le : l.length ≤ c
theorem RowB.c0 {w : World} {g c : Nat} {l : List Ru} (h : RowB w g c l) {j : Nat} {r : Ru} (hr : l[j]? = some r) : w.cell? ⟨g, j * 2, none⟩ = some (.int .u8 r.1) := by
  obtain ⟨cur, hb, -, hc⟩ := h.blk
  rw [blk_cell hb]
  exact (hc j r hr).1
theorem RowB.c1 {w : World} {g c : Nat} {l : List Ru} (h : RowB w g c l) {j : Nat} {r : Ru} (hr : l[j]? = some r) : w.cell? ⟨g, j * 2 + 1, none⟩ = some (.string r.2) := by
  obtain ⟨cur, hb, -, hc⟩ := h.blk
  rw [blk_cell hb]
  exact (hc j r hr).2
theorem RowB.fz {w : World} {g c : Nat} {l : List Ru} (h : RowB w g c l) (i : Nat) : w.frozen? ⟨g, i, none⟩ = false := by
  obtain ⟨cur, hb, -⟩ := h.blk
  exact blk_frozen hb i
theorem RowB.lt {w : World} {g c : Nat} {l : List Ru} (h : RowB w g c l) : g < w.heap.size := by
  obtain ⟨cur, hb, -⟩ := h.blk
  exact (Array.getElem?_eq_some_iff.1 hb).1
theorem RowB.later {w w' : World} {g c : Nat} {l : List Ru} (h : RowB w g c l) (hb : Below w.heap.size w w') : RowB w' g c l := by
  obtain ⟨cur, h1, h2⟩ := h.blk
  exact ⟨⟨cur, (hb.block _ (Array.getElem?_eq_some_iff.1 h1).1).trans h1, h2⟩, h.le⟩
theorem RowB.set {w : World} {g c : Nat} {l : List Ru} (h : RowB w g c l) {i : Nat} (hi : i < l.length) (r : Ru) : RowB ((w.setCell ⟨g, i * 2, none⟩ (.int .u8 r.1)).setCell ⟨g, i * 2 + 1, none⟩ (.string r.2)) g c (l.set i r) := by
  obtain ⟨cur, h1, h2, h3⟩ := h.blk
  have hle := h.le
  have k1 := blk_set (blk_set h1 (i * 2) (.int .u8 r.1)) (i * 2 + 1) (.string r.2)
  refine ⟨⟨_, k1, by simpa using h2, fun j q hq => ?_⟩, by simpa using h.le⟩
  by_cases e : i = j
  · subst e
    have : q = r := by
      rw [List.getElem?_set_self hi] at hq
      injection hq with hq
      exact hq.symm
    subst this
    constructor
    · rw [Array.getElem?_setIfInBounds_ne (by omega), Array.getElem?_setIfInBounds_self_of_lt (by omega)]
    · rw [Array.getElem?_setIfInBounds_self_of_lt (by simp; omega)]
  · rw [List.getElem?_set_ne e] at hq
    have := h3 j q hq
    constructor
    · rw [Array.getElem?_setIfInBounds_ne (by omega), Array.getElem?_setIfInBounds_ne (by omega)]
      exact this.1
    · rw [Array.getElem?_setIfInBounds_ne (by omega), Array.getElem?_setIfInBounds_ne (by omega)]
      exact this.2
theorem set2_grown (w : World) (g i j : Nat) (u v : Value) : w.grownBy ((w.setCell ⟨g, i, none⟩ u).setCell ⟨g, j, none⟩ v) (some g) :=
  ⟨rfl, rfl, rfl, by simp [World.setCell], fun k hk hne => by
    have : k ≠ g := fun e => hne (by rw [e])
    exact (Below.heap_setCell _ ⟨g, j, none⟩ v k this).trans (Below.heap_setCell w ⟨g, i, none⟩ u k this)⟩
def PredR (f : Nat) (lb : Array Value) (w : World) (g : Nat) (p : Ru → Bool) (l0 : List Ru) : Prop :=
  ∀ (W : World) (r : Ru), r ∈ l0 → w.grownBy W (some g) → Calls Tryd.prog f (#[.agg #[.int .u8 r.1, .string r.2]] ++ lb) W fun e w' => e = .returned (.bool (p r)) ∧ Below W.heap.size W w'
theorem grown_below {w W W' : World} {g : Nat} (h : w.grownBy W (some g)) (hb : Below W.heap.size W W') : w.grownBy W' (some g) :=
  ⟨hb.os.trans h.os, hb.tape.trans h.tape, hb.output.trans h.output, Nat.le_trans h.size hb.size, fun k hk hne => (hb.block k (Nat.lt_of_lt_of_le hk h.size)).trans (h.block k hk hne)⟩
theorem grown_refl (w : World) (g : Nat) : w.grownBy w (some g) := ⟨rfl, rfl, rfl, Nat.le_refl _, fun _ _ _ => rfl⟩
set_option maxHeartbeats 8000000 in
set_option maxRecDepth 100000 in
theorem idxF_calls {f : Nat} {lb : Array Value} (eg : ∀ args w, (callFunc f args).run Tryd.prog w = .ok (.enter f args) w) {w : World} {g c : Nat} {p : Ru → Bool} {l : List Ru} (hR : RowB w g c l) (hp : PredR f lb w g p l) (hl : l.length ≤ 1000) :
    Calls Tryd.prog 104 #[.slice (some ⟨g, 0, none⟩) l.length c, .func (.func f) #[] lb] w fun e w' => (∃ r : Int, e = .returned (.int .i64 r) ∧ ((r = -1 ∧ ∀ x ∈ l, p x = false) ∨ ∃ (k : Nat) (x : Ru), r = k ∧ l[k]? = some x ∧ p x = true ∧ ∀ y ∈ l.take k, p y = false)) ∧ Below w.heap.size w w' := by
  have HR := Lib.hid hR
  have HP := Lib.hid hp
  have hlc := hR.le
  clear hR hp
  go_enter Tryd.func104, Tryd.ntmps104
  go_wp2_with fail
  have HB := Lib.hid (Below.refl w.heap.size w)
  go_loopw [8] (fun i wr => ∃ k : Nat, k ≤ l.length ∧ i = .int .i64 k ∧ Hid (Below w.heap.size w wr) ∧ Hid (∀ y ∈ l.take k, p y = false)) (fun i _ => l.length - (intOf i).toNat)
  case atStart => exact ⟨0, by omega, rfl, HB, Lib.hid (fun y hy => by simp at hy)⟩
  case round =>
    clear HB
    obtain ⟨k, hk, rfl, HB, HN⟩ := hrel
    by_cases hkl : k < l.length
    · have hkI : (k : Int) < (l.length : Int) := by omega
      obtain ⟨r, hr⟩ : ∃ r, l[k]? = some r := ⟨_, List.getElem?_eq_getElem hkl⟩
      obtain ⟨a, s⟩ := r
      have c0 := (HR.out.later HB.out).c0 hr
      have c1 := (HR.out.later HB.out).c1 hr
      have hkc : k < c := by omega
      have HRR := Lib.hid hr
      have HC := Lib.hid (HP.out wr (a, s) (List.mem_of_getElem? hr) (grown_below (grown_refl w g) HB.out))
      clear hr
      simp only at c0 c1
      go_wp2_with fail
      refine HC.out.mono ?_
      rintro e w2 ⟨rfl, hb2⟩
      have HB2 := Lib.hid (HB.out.trans (hb2.mono HB.out.size))
      clear hb2 HC c0 c1
      cases hpx : p (a, s) with
      | true =>
        have HPX := Lib.hid hpx
        clear hpx
        go_wp2
        go_ret
        exact ⟨⟨_, rfl, .inr ⟨k, (a, s), rfl, HRR.out, HPX.out, HN.out⟩⟩, HB2.out⟩
      | false =>
        have HPX := Lib.hid hpx
        clear hpx
        go_wp2_with fail
        refine ⟨⟨k + 1, by omega, by go_num, HB2, Lib.hid (fun y hy => ?_)⟩, by simp [intOf]; omega⟩
        rw [take_succ_of HRR.out] at hy
        rcases List.mem_append.1 hy with q | q
        · exact HN.out y q
        · rw [List.mem_singleton] at q
          rw [q]
          exact HPX.out
    · obtain rfl : k = l.length := by omega
      rw [List.take_length] at HN
      go_wp2
      go_ret
      exact ⟨⟨_, rfl, .inl ⟨rfl, HN.out⟩⟩, HB.out⟩
end Go.Proofs.YtjpfalanoifpbaaDoor.X
end

section
set_option linter.unusedVariables false
set_option linter.unusedSimpArgs false
namespace Go.Proofs.YtjpfalanoifpbaaDoor.X
open Go.RowKit Go.Proofs.YtjpfalanoifpbaaDoorW.PrintWords Go.Proofs.YtjpfalanoifpbaaDoorW.PrintLast Go.Proofs.YtjpfalanoifpbaaDoorW.PrintMore Go.Proofs.YtjpfalanoifpbaaDoor.T
theorem grown_trans {a b c : World} {g : Nat} (h : a.grownBy b (some g)) (k : b.grownBy c (some g)) : a.grownBy c (some g) :=
  ⟨k.os.trans h.os, k.tape.trans h.tape, k.output.trans h.output, Nat.le_trans h.size k.size, fun i hi hne => (k.block i (Nat.lt_of_lt_of_le hi h.size) hne).trans (h.block i hi hne)⟩
theorem zero_rule : ∀ w, (zeroValue 60).run Tryd.prog w = .ok (.agg #[.int .u8 0, .string ⟨#[]⟩]) w := fun _ => by kernel_rfl
theorem zero_one (n : Nat) : ∀ v ∈ (Builtin.zeroCells #[.int .u8 0, .string ⟨#[]⟩] n).toList, v.oneCell' = true := by
  intro v hv
  unfold Builtin.zeroCells at hv
  rw [Array.toList_map, List.mem_map] at hv
  obtain ⟨i, -, rfl⟩ := hv
  have : i % 2 = 0 ∨ i % 2 = 1 := by omega
  show (#[Value.int IntKind.u8 0, Value.string ⟨#[]⟩][i % 2]!).oneCell' = true
  rcases this with e | e <;> rw [e] <;> rfl
theorem clear_run {w : World} {g c : Nat} {l : List Ru} (h : RowB w g c l) {i n cc : Nat} (h0 : 0 < n) (hn : i + n ≤ c) (ty : TypeId) :
    ∃ w1, (Builtin.clear_ #[27] ty #[.slice (some ⟨g, i * 2, none⟩) n cc]).run Tryd.prog w = .ok (.tuple #[]) w1 ∧ RowB w1 g c (l.take i) ∧ w.grownBy w1 (some g) := by
  obtain ⟨cur, hb, hsz, hc⟩ := h.blk
  obtain ⟨vs, hvs⟩ : ∃ vs, (Builtin.zeroCells #[.int .u8 0, .string ⟨#[]⟩] n).toList = vs := ⟨_, rfl⟩
  have hlen : vs.length = n * 2 := by
    rw [← hvs, Array.length_toList, size_zeroCells]
    rfl
  have hst := run_storeCells_at (P := Tryd.prog) g (i * 2) 60 vs 0 cur w hb (by rw [hlen]; omega) (by rw [← hvs]; exact zero_one n)
  simp only [Nat.add_zero] at hst
  obtain ⟨nc, hnc⟩ : ∃ nc, (cur.toList.take (i * 2) ++ vs ++ cur.toList.drop (i * 2 + vs.length)).toArray = nc := ⟨_, rfl⟩
  rw [hnc] at hst
  have hnb : (w.setRow g nc).heap[g]? = some (.cells nc 60 (0, 0)) := setRow_heap w g cur nc 60 _ hb
  have hns : nc.size = cur.size := by
    rw [← hnc]
    simp [hlen]
    omega
  refine ⟨w.setRow g nc, ?_, ?_, ?_⟩
  rotate_left
  · refine RowB.mk ⟨nc, hnb, by omega, fun j r hj => ?_⟩ ?_
    rotate_left
    · rw [List.length_take]
      have := h.le
      omega
    have hji : j < i := by
      have := (List.getElem?_eq_some_iff.1 hj).1
      rw [List.length_take] at this
      omega
    rw [List.getElem?_take, if_pos hji] at hj
    have h1 := hc j r hj
    have hl1 : (cur.toList.take (i * 2)).length = i * 2 := by
      rw [List.length_take, Array.length_toList]
      omega
    have key : ∀ q, q < i * 2 → nc[q]? = cur[q]? := fun q hq => by
      rw [← hnc, List.getElem?_toArray, List.append_assoc, List.getElem?_append_left (by omega), List.getElem?_take, if_pos hq, Array.getElem?_toList]
    rw [key _ (by omega), key _ (by omega)]
    exact h1
  · exact ⟨rfl, rfl, rfl, by simp [World.setRow], fun k hk hne => by
      have : k ≠ g := fun e => hne (by rw [e])
      unfold World.setRow
      simp only [Array.getElem?_modify]
      rw [if_neg (Ne.symm this)]⟩
  · obtain ⟨m, rfl⟩ : ∃ m, n = m + 1 := ⟨n - 1, by omega⟩
    simp only [Builtin.clear_, run_underlying Tryd.underlying27]
    simp [Sem.run_bind, run_underlying Tryd.underlying27, zero_rule, Value.cells, hvs, hst, Result.andThen]
section
variable {ops : Array Oper} {rest : List Oper} {o : Oper} {a : Act} {Q : Exit → Act → World → Prop} {W : World}
theorem clear_event (hgd : o.guard = none) (m : Operand) (ho : o.op = .call { callee := .builtin .clear, args := #[m], argTypes := #[27] }) {g c i n cc : Nat} {l : List Ru} (hm : a.eval m = .slice (some ⟨g, i * 2, none⟩) n cc) (h0 : 0 < n) (hR : RowB W g c l) (hn : i + n ≤ c)
    (h : ∀ w1, RowB w1 g c (l.take i) → W.grownBy w1 (some g) → wpList Tryd.prog ops Q rest (a.put o.dst (.tuple #[])) w1) : wpList Tryd.prog ops Q (o :: rest) a W := by
  obtain ⟨w1, h1, h2, h3⟩ := clear_run hR h0 hn (cc := cc) o.type
  refine Kd.event_run hgd ?_ (h w1 h2 h3)
  simp [execOp, ho, resolve, invoke, builtin, hm, h1, Result.andThen]
end
def keptR (p : Ru → Bool) (l : List Ru) : List Ru := l.filter fun r => !p r
theorem kept_all {p : Ru → Bool} {l : List Ru} (h : ∀ x ∈ l, p x = false) : keptR p l = l := by
  unfold keptR
  rw [List.filter_eq_self]
  intro x hx
  rw [h x hx]
  rfl
theorem kept_succ {p : Ru → Bool} {l : List Ru} {j : Nat} {r : Ru} (h : l[j]? = some r) : keptR p (l.take (j + 1)) = keptR p (l.take j) ++ (if p r = true then [] else [r]) := by
  unfold keptR
  rw [take_succ_of h, List.filter_append]
  congr 1
  cases hp : p r with
  | true => simp [hp]
  | false => simp [hp]
theorem take_set_end {m : List Ru} {i : Nat} (hi : i < m.length) (r : Ru) : (m.set i r).take (i + 1) = m.take i ++ [r] := by
  rw [take_succ_of (List.getElem?_set_self hi), List.take_set_of_le (Nat.le_refl _)]
structure Dl (w0 : World) (g c : Nat) (p : Ru → Bool) (l : List Ru) (i j : Nat) (w : World) : Prop where
  row : ∃ m, RowB w g c m ∧ m.length = l.length ∧ m.take i = keptR p (l.take j) ∧ ∀ q, j ≤ q → m[q]? = l[q]?
  lt : i < j
  gr : w0.grownBy w (some g)
set_option maxHeartbeats 8000000 in
set_option maxRecDepth 100000 in
theorem delF_calls {f : Nat} {lb : Array Value} (eg : ∀ args w, (callFunc f args).run Tryd.prog w = .ok (.enter f args) w) {w : World} {g c : Nat} {p : Ru → Bool} {l : List Ru} (hR : RowB w g c l) (hp : PredR f lb w g p l) (hl : l.length ≤ 1000) :
    Calls Tryd.prog 75 #[.slice (some ⟨g, 0, none⟩) l.length c, .func (.func f) #[] lb] w fun e w' => e = .returned (.slice (some ⟨g, 0, none⟩) (keptR p l).length c) ∧ RowB w' g c (keptR p l) ∧ w.grownBy w' (some g) := by
  have HI := Lib.hid (idxF_calls eg hR hp hl)
  have HR := Lib.hid hR
  have HP := Lib.hid hp
  have hlc := hR.le
  clear hR hp
  go_enter Tryd.func75, Tryd.ntmps75
  go_wp2_with fail
  refine HI.out.mono ?_
  rintro e w1 ⟨⟨r0, rfl, hr⟩, hb1⟩
  have HR1 := Lib.hid (HR.out.later hb1)
  have HG1 := Lib.hid (grown_below (grown_refl w g) hb1)
  clear hb1 HI
  rcases hr with ⟨rfl, hno⟩ | ⟨k0, x0, rfl, hx0, hpx0, hno⟩
  · have HK := Lib.hid (kept_all hno)
    clear hno
    go_wp2
    go_ret
    rw [HK.out]
    exact ⟨rfl, HR1.out, HG1.out⟩
  · have hk0 : k0 < l.length := (List.getElem?_eq_some_iff.1 hx0).1
    have HD : Hid (Dl w g c p l k0 (k0 + 1) w1) := Lib.hid ⟨⟨l, HR1.out, rfl, by
      rw [kept_succ hx0, hpx0, if_pos rfl, List.append_nil, kept_all hno], fun _ _ => rfl⟩, by omega, HG1.out⟩
    have hki : ¬ (k0 : Int) = -1 := by omega
    clear hx0 hpx0 hno HR1 HG1
    have hke : ((k0 : Int) == -1) = false := by simp
    go_wp2_with fail
    go_loopw [5, 6] (fun i j wr => ∃ a b : Nat, b ≤ l.length ∧ i = .int .i64 a ∧ j = .int .i64 b ∧ Hid (Dl w g c p l a b wr)) (fun _ j _ => l.length - (intOf j).toNat)
    case atStart => exact ⟨k0, k0 + 1, by omega, rfl, by go_num, HD⟩
    case round =>
      clear HD
      obtain ⟨a, b, hb, rfl, rfl, HD⟩ := hrel
      obtain ⟨m, hm, hml, hmt, hmd⟩ := HD.out.row
      have HM := Lib.hid hm
      have HMT := Lib.hid hmt
      have HMD := Lib.hid hmd
      have hab := HD.out.lt
      clear hm hmt hmd
      by_cases hbl : b < l.length
      · have hbI : (b : Int) < (l.length : Int) := by omega
        obtain ⟨r, hr⟩ : ∃ r, l[b]? = some r := ⟨_, List.getElem?_eq_getElem hbl⟩
        have hmr : m[b]? = some r := (HMD.out b (Nat.le_refl _)).trans hr
        obtain ⟨y, hy⟩ : ∃ y, m[a]? = some y := ⟨_, List.getElem?_eq_getElem (by omega)⟩
        have c0 := HM.out.c0 hmr
        have c1 := HM.out.c1 hmr
        have HRR := Lib.hid hr
        have HKS := Lib.hid (kept_succ (p := p) hr)
        have HPW := Lib.hid (fun W hW => HP.out W r (List.mem_of_getElem? hr) hW)
        have HYA := Lib.hid hy
        obtain ⟨x, s⟩ := r
        simp only at c0 c1
        have hbc : b < c := by omega
        have hac : a < c := by omega
        have hal : a < l.length := by omega
        clear hr hmr hy
        go_wp2_with fail
        have hba := below_one (w := wr) (.cells #[.int .u8 x, .string s] 60)
        obtain ⟨d0, d1⟩ := rule_new wr 60 x s
        have HMA := Lib.hid (HM.out.later hba)
        have HGA := Lib.hid (grown_below HD.out.gr hba)
        have hgl : g < wr.heap.size := HM.out.lt
        obtain ⟨w2, hw2⟩ : ∃ w2, w2 = wr.alloc (.cells #[.int .u8 x, .string s] 60) := ⟨_, rfl⟩
        rw [← hw2] at d0 d1 HMA HGA ⊢
        have HGN := Lib.hid (show g ≠ wr.heap.size by omega)
        clear hba hw2 c0 c1 hgl
        generalize wr.heap.size = G at d0 d1 HGN ⊢
        refine (HPW.out w2 HGA.out).mono ?_
        rintro e w3 ⟨rfl, hb3⟩
        have HM3 := Lib.hid (HMA.out.later hb3)
        have HG3 := Lib.hid (grown_below HGA.out hb3)
        have f0 := (hb3.cell (p := ⟨G, 0, none⟩) (World.block_lt_of_cell? _ _ d0)).trans d0
        have f1 := (hb3.cell (p := ⟨G, 1, none⟩) (World.block_lt_of_cell? _ _ d1)).trans d1
        clear hb3 HMA HGA d0 d1 HPW HM
        have HEND : Hid (b + 1 ≤ l.length ∧ l.length - (intOf (.int .i64 ((b : Int) + 1))).toNat < l.length - (intOf (.int .i64 (b : Int))).toNat) := Lib.hid ⟨by omega, by simp [intOf]; omega⟩
        cases hpx : p (x, s) with
        | true =>
          have HD4 : Hid (Dl w g c p l a (b + 1) w3) := Lib.hid ⟨⟨m, HM3.out, hml, by rw [HKS.out, if_pos hpx, List.append_nil, HMT.out], fun q hq => HMD.out q (by omega)⟩, by omega, HG3.out⟩
          clear hpx
          go_wp2_with fail
          refine ⟨⟨a, b + 1, HEND.out.1, rfl, by go_num, HD4⟩, HEND.out.2⟩
        | false =>
          have g0 := HM3.out.c0 HYA.out
          have g1 := HM3.out.c1 HYA.out
          have z0 := HM3.out.fz (a * 2)
          have z1 := HM3.out.fz (a * 2 + 1)
          have HM4 := Lib.hid (HM3.out.set (show a < m.length by omega) (x, s))
          have HG4 := Lib.hid (grown_trans HG3.out (set2_grown w3 g (a * 2) (a * 2 + 1) (.int .u8 x) (.string s)))
          have HD4 : Hid (Dl w g c p l (a + 1) (b + 1) ((w3.setCell ⟨g, a * 2, none⟩ (.int .u8 x)).setCell ⟨g, a * 2 + 1, none⟩ (.string s))) := Lib.hid ⟨⟨m.set a (x, s), HM4.out, by simpa using hml, by rw [take_set_end (by omega), HKS.out, if_neg (by rw [hpx]; decide), HMT.out], fun q hq => by
            rw [List.getElem?_set_ne (by omega)]
            exact HMD.out q (by omega)⟩, by omega, HG4.out⟩
          clear hpx
          go_wp2_with fail
          refine ⟨⟨a + 1, b + 1, HEND.out.1, by go_num, by go_num, HD4⟩, HEND.out.2⟩
      · obtain rfl : b = l.length := by omega
        have hbI : ¬ ((l.length : Nat) : Int) < (l.length : Int) := by omega
        have HRES : Hid (m.take a = keptR p l) := Lib.hid (by
          have := HMT.out
          rw [List.take_length] at this
          exact this)
        have hal : a < l.length := by omega
        have hac : a ≤ c := by omega
        have hlen : (keptR p l).length = a := by
          rw [← HRES.out, List.length_take]
          omega
        have HLEN := Lib.hid hlen
        clear hlen
        go_wp2_with ((with_reducible refine gate_op (op := .call { callee := .builtin .clear, args := #[.tmp 38], argTypes := #[27] }) rfl ?_); go_loud (refine clear_event rfl (.tmp 38) rfl (l := m) (i := a) rfl (by omega) HM.out (by omega) ?_; intro w4 hr4 hg4; have HR4 := Lib.hid hr4; have HG4 := Lib.hid (grown_trans HD.out.gr hg4); clear hr4 hg4))
        go_ret
        have HR5 := HR4.out
        rw [HRES.out] at HR5
        rw [HLEN.out]
        exact ⟨rfl, HR5, HG4.out⟩
end Go.Proofs.YtjpfalanoifpbaaDoor.X
end

section
set_option linter.unusedVariables false
set_option linter.unusedSimpArgs false
namespace Go.Proofs.YtjpfalanoifpbaaDoor.X
open Go.RowKit Go.Proofs.YtjpfalanoifpbaaDoorW.PrintWords Go.Proofs.YtjpfalanoifpbaaDoorW.PrintLast Go.Proofs.YtjpfalanoifpbaaDoorW.PrintMore Go.Proofs.YtjpfalanoifpbaaDoor.T
theorem rulesL_get (L : Nat → Int) (R : Nat → ByteArray) {n j : Nat} {p : Ru} (h : (rulesL L R n)[j]? = some p) : j < n ∧ p = (L j, R j) := by
  unfold rulesL at h
  rw [List.getElem?_map] at h
  obtain ⟨i, hi, hp⟩ := Option.map_eq_some_iff.1 h
  obtain ⟨hj, e⟩ := List.getElem?_eq_some_iff.1 hi
  rw [List.length_range] at hj
  rw [List.getElem_range] at e
  subst e
  exact ⟨hj, hp.symm⟩
theorem rls_kr {w : World} {b off n : Nat} {L : Nat → Int} {R : Nat → ByteArray} (h : Rls w b off n L R) (hn : n ≤ 1000) : KR.C w (some ⟨b, off, none⟩) n (rulesL L R n) := by
  refine ⟨rulesL_len L R n, by omega, fun h0 => ⟨_, rfl, fun j p hj => ?_⟩⟩
  obtain ⟨hjn, rfl⟩ := rulesL_get L R hj
  refine ⟨[.int .u8 (L j), .string (R j)], rfl, ⟨[.int .u8 (L j)], [.string (R j)], rfl, rfl, rfl⟩, fun i u hu => ?_⟩
  have h0 := h.c0 j hjn
  have h1 := h.c1 j hjn
  have ha : ∀ q, (⟨b, off, none⟩ : Addr).add q = ⟨b, off + q, none⟩ := fun q => by
    unfold Addr.add
    by_cases hq : q = 0
    · subst hq; simp
    · rw [if_neg hq]
  rw [ha]
  match i, hu with
  | 0, hu =>
    have e : Value.int .u8 (L j) = u := by simpa using hu
    rw [← e]
    exact h0
  | 1, hu =>
    have e : Value.string (R j) = u := by simpa using hu
    rw [← e]
    exact h1
theorem rr_rowB {w : World} {B : Nat} {ok : Nat → Prop} {v : Value} {l : List Ru} (h : Kd.R KR 60 w B ok v l) (h0 : 0 < l.length) : ∃ g c, v = .slice (some ⟨g, 0, none⟩) l.length c ∧ B ≤ g ∧ RowB w g c l := by
  obtain ⟨A, c, e1, hcc, hC⟩ := Kd.R_reads h
  obtain ⟨-, inner, ho, -⟩ := h
  rcases ho.2 with ⟨e, e2⟩ | ⟨g, cap, cur, e, hg, hb, hle, -, hsz, -⟩
  · omega
  · rw [e] at e1
    injection e1 with q1 q2 q3
    subst q1
    subst q3
    obtain ⟨ad, hA, hr⟩ := hC.2.2 h0
    injection hA with hA
    subst hA
    refine ⟨g, cap, e, hg, ⟨⟨cur, hb, Nat.le_of_eq hsz.symm, fun j r hj => ?_⟩, hcc⟩⟩
    obtain ⟨cs, hs, hk, hcell⟩ := hr j r hj
    have e := kr_cells hk
    subst e
    have ha : ∀ q, (⟨g, 0, none⟩ : Addr).add q = ⟨g, q, none⟩ := fun q => by
      unfold Addr.add
      by_cases hq : q = 0
      · subst hq; simp
      · rw [if_neg hq]; simp
    have k0 := hcell 0 _ rfl
    have k1 := hcell 1 _ rfl
    rw [ha, blk_cell hb] at k0 k1
    exact ⟨k0, k1⟩
theorem rr_new60 (w : World) : RR 60 w.heap.size (w.alloc (.cells #[] 60)) (.slice (some ⟨w.heap.size, 0, none⟩) 0 0) [] :=
  ⟨fun _ _ => trivial, OwnRow.lit (ps := ([] : List Ru)) (inner := []) w w.heap.size (Reps.none _ _) (Nat.le_refl _) (by simp)⟩
set_option maxHeartbeats 8000000 in
set_option maxRecDepth 100000 in
theorem clone_calls (b off n c : Nat) (L : Nat → Int) (R : Nat → ByteArray) (w : World) (hP : Rls w b off n L R) (h0 : 0 < n) (hn : n ≤ 1000) :
    Calls Tryd.prog 42 #[.slice (some ⟨b, off, none⟩) n c] w fun e w' => (∃ g c, e = .returned (.slice (some ⟨g, 0, none⟩) n c) ∧ w.heap.size ≤ g ∧ RowB w' g c (rulesL L R n)) ∧ Below w.heap.size w w' := by
  have HC := Lib.hid (rls_kr hP hn)
  clear hP
  have hx := fun w : World => Lib.run_eql_slice_nil (P := Tryd.prog) w 27 60 (some ⟨b, off, none⟩) n c 0 0 Tryd.underlying27
  have hbl := below_alloc (Below.refl w.heap.size w) (.cells #[] 60)
  have HBL := Lib.hid hbl
  clear hbl
  have HL := Lib.hid (rulesL_len L R n)
  go_enter Tryd.func42, Tryd.ntmps42
  go_wp2_with (at_builtin; refine Kd.R_append_rows KR (Rr := KR.K w) (w0 := w) w.heap.size rfl (.tmp 5) (.tmp 6) 27 60 (.agg #[.int .u8 0, .string ByteArray.empty]) 24 rfl Tryd.underlying27 info60 rfl (by decide) (by decide) (.slice (some ⟨w.heap.size, 0, none⟩) 0 0) [] (rulesL L R n) (some ⟨b, off, none⟩) n c (fun _ => True) (fun _ => False) rfl rfl (rr_new60 w) (Kd.C_below HC.out HBL.out) (fun x cs h => h) (fun _ h => h.elim) (fun _ _ => trivial) HBL.out HBL.out.size (by simp; omega) ?_; intro v1 w4 hv hb hg hat; have HV := Lib.hid hv; have HB := Lib.hid hb; clear hv hb hg hat)
  obtain ⟨g, c2, rfl, hg, hr⟩ := rr_rowB HV.out (by rw [List.nil_append, HL.out]; omega)
  rw [List.nil_append, HL.out]
  rw [List.nil_append] at hr
  go_ret
  exact ⟨⟨g, c2, rfl, hg, hr⟩, HB.out⟩
end Go.Proofs.YtjpfalanoifpbaaDoor.X
end

section
set_option linter.unusedVariables false
set_option linter.unusedSimpArgs false
namespace Go.Proofs.YtjpfalanoifpbaaDoor.X
open Go.RowKit Go.Proofs.YtjpfalanoifpbaaDoorW.PrintWords Go.Proofs.YtjpfalanoifpbaaDoorW.PrintLast Go.Proofs.YtjpfalanoifpbaaDoorW.PrintMore Go.Proofs.YtjpfalanoifpbaaDoor.T
theorem row_put {α : Type} [Inhabited α] (enc : α → Value) (w : World) (m g : Nat) (d : Array α) (os : Array Obj) {cur : Array Value} {e : TypeId} (hb : w.heap[g]? = some (.cells cur e (0, 0))) (hd : d.size ≤ cur.size) :
    (∃ cur', (Go.Sort.grow (Go.Sort.putRow enc (Go.Sort.ahead w m) g 0 d) os).heap[g]? = some (.cells cur' e (0, 0)) ∧ cur'.size = cur.size ∧ cur'.toList.take d.size = d.toList.map enc) ∧
      w.grownBy (Go.Sort.grow (Go.Sort.putRow enc (Go.Sort.ahead w m) g 0 d) os) (some g) := by
  have hg := (Array.getElem?_eq_some_iff.1 hb).1
  have hs : (Go.Sort.putRow enc (Go.Sort.ahead w m) g 0 d).heap.size = w.heap.size := by
    unfold Go.Sort.putRow Go.Sort.mapBlock Go.Sort.ahead
    simp
  refine ⟨⟨Go.Sort.putCells enc 0 d cur, ?_, ?_, ?_⟩, ⟨rfl, rfl, rfl, ?_, ?_⟩⟩
  · unfold Go.Sort.grow
    rw [Array.getElem?_append_left (by rw [hs]; exact hg)]
    unfold Go.Sort.putRow Go.Sort.mapBlock Go.Sort.ahead
    rw [Array.getElem?_modify, if_pos rfl, hb]
    rfl
  · unfold Go.Sort.putCells; simp
  · apply List.ext_getElem
    · unfold Go.Sort.putCells; simp; omega
    · intro i h1 h2
      have hi : i < d.size := by simpa using h2
      unfold Go.Sort.putCells
      simp only [List.getElem_take, Array.getElem_toList, Array.getElem_mapIdx, List.getElem_map, Nat.zero_le, Nat.zero_add, true_and, Nat.sub_zero, if_pos hi]
      rw [getElem!_pos d i hi]
  · unfold Go.Sort.grow
    simp only [Array.size_append]
    rw [hs]
    omega
  · intro k hk hne
    have hne' : g ≠ k := fun e => hne (by rw [e])
    unfold Go.Sort.grow
    rw [Array.getElem?_append_left (by rw [hs]; exact hk)]
    unfold Go.Sort.putRow Go.Sort.mapBlock Go.Sort.ahead
    rw [Array.getElem?_modify, if_neg hne']
def encU (r : Ru) : List Value := [.int .u8 r.1, .string r.2]
def cfB (b : Int) (r s : Ru) : Int := cmpB b r.1 s.1
theorem lt_cfB (b : Int) (r s : Ru) : ltOf (cfB b) r s = (isB b r && !isB b s) := by
  unfold ltOf cfB cmpB isB
  by_cases h1 : r.1 = b <;> by_cases h2 : s.1 = b <;> simp [h1, h2]
theorem arr_at {d : Array Ru} {i : Nat} {x : Ru} (h : d.toList[i]? = some x) : d[i]! = x := by
  obtain ⟨hi, e⟩ := List.getElem?_eq_some_iff.1 h
  have hi' : i < d.size := by simpa using hi
  rw [getElem!_pos d i hi']
  simpa using e
theorem inner_part {b : Int} {l : List Ru} {x : Ru} {rest : List Ru} : ∀ (j : Nat) (d : Array Ru), d.toList = down (T.part b l) x rest j → j ≤ l.length → (isB b x = true → nB b l ≤ j) → (isB b x = false → j = l.length) →
    (Go.Sort.insInner (ltOf (cfB b)) 0 j d).toList = T.part b (l ++ [x]) ++ rest
  | 0, d, hd, hj, h1, h2 => by
    rw [Go.Proofs.insInner_stop _ _ _ _ (.inl (Nat.le_refl 0)), hd]
    cases hx : isB b x with
    | true =>
      have h0 := h1 hx
      rw [← down_end hx, show nB b l = 0 by omega]
    | false =>
      have h0 := h2 hx
      rw [← down_stay hx]
      have : T.part b l = [] := List.eq_nil_of_length_eq_zero (by rw [part_length]; omega)
      unfold down
      rw [this]
      rfl
  | j + 1, d, hd, hj, h1, h2 => by
    have hpl := part_length b l
    obtain ⟨y, hy⟩ : ∃ y, (T.part b l)[j]? = some y := ⟨_, List.getElem?_eq_getElem (by omega)⟩
    have a1 : d[j + 1]! = x := arr_at (by rw [hd]; exact down_at (by omega))
    have a2 : d[j]! = y := arr_at (by rw [hd, down_before (by omega)]; exact hy)
    have hyB := part_at hy
    have hlt : ltOf (cfB b) d[j + 1]! d[j + 1 - 1]! = (isB b x && !decide (j < nB b l)) := by
      rw [Nat.add_sub_cancel, a1, a2, lt_cfB, hyB]
    by_cases hc : isB b x = true ∧ nB b l ≤ j
    · have hn : ¬ j < nB b l := by omega
      rw [Go.Proofs.insInner_go _ _ _ _ (by omega) (by rw [hlt]; simp [hc.1, hn]), Nat.add_sub_cancel]
      refine inner_part j _ ?_ (by omega) (fun _ => hc.2) (fun q => by rw [hc.1] at q; cases q)
      unfold Go.Sort.swp
      rw [Array.toList_setIfInBounds, Array.toList_setIfInBounds, hd, a1, a2]
      exact down_swap (rest := rest) hy
    · rw [Go.Proofs.insInner_stop _ _ _ _ (.inr (by
        rw [hlt]
        cases hx : isB b x with
        | false => rfl
        | true =>
          have : j < nB b l := by
            have : ¬ nB b l ≤ j := fun q => hc ⟨hx, q⟩
            omega
          simp [this])), hd]
      cases hx : isB b x with
      | true =>
        have h0 := h1 hx
        have : nB b l = j + 1 := by
          have : ¬ nB b l ≤ j := fun q => hc ⟨hx, q⟩
          omega
        rw [← down_end hx, this]
      | false =>
        have h0 := h2 hx
        rw [← down_stay hx, ← down_all, hpl, h0]
theorem outer_part {b : Int} {l : List Ru} : ∀ (m k : Nat) (d : Array Ru), l.length - k = m → d.toList = T.part b (l.take k) ++ l.drop k → (Go.Sort.insOuter (ltOf (cfB b)) 0 l.length k d).toList = T.part b l
  | 0, k, d, hm, hd => by
    rw [Go.Proofs.insOuter_stop _ _ _ _ _ (by omega), hd, List.take_of_length_le (by omega), List.drop_eq_nil_of_le (by omega), List.append_nil]
  | m + 1, k, d, hm, hd => by
    have hk : k < l.length := by omega
    rw [Go.Proofs.insOuter_go _ _ _ _ _ hk]
    refine outer_part m (k + 1) _ (by omega) ?_
    have htl : (l.take k).length = k := by rw [List.length_take]; omega
    have e : l.take (k + 1) = l.take k ++ [l[k]] := take_succ_of (List.getElem?_eq_getElem hk)
    rw [e]
    refine inner_part k d ?_ (by omega) (fun _ => ?_) (fun _ => htl.symm)
    · rw [hd, List.drop_eq_getElem_cons hk]
      have := down_all (p := T.part b (l.take k)) (x := l[k]) (rest := l.drop (k + 1))
      rw [part_length, htl] at this
      rw [this]
    · unfold nB
      have := List.length_filter_le (isB b) (l.take k)
      omega
theorem sort_part (b : Int) (l : List Ru) : (Go.Sort.insertionSort (ltOf (cfB b)) l.toArray 0 l.length).toList = T.part b l := by
  unfold Go.Sort.insertionSort
  refine outer_part (l.length - 1) 1 _ rfl ?_
  cases l with
  | nil => rfl
  | cons x l =>
    show x :: l = T.part b [x] ++ l
    unfold T.part
    cases h : isB b x <;> simp [h]
theorem flatU_get {d : Array Ru} {j : Nat} {r : Ru} (h : d.toList[j]? = some r) : (Go.Sort.flatK encU 2 d)[j * 2]? = some (.int .u8 r.1) ∧ (Go.Sort.flatK encU 2 d)[j * 2 + 1]? = some (.string r.2) := by
  have hj : j < d.size := by
    have := (List.getElem?_eq_some_iff.1 h).1
    simpa using this
  have hs := Go.Sort.size_flatK encU 2 d
  have a0 := Go.Sort.get_flatK encU 2 d (j * 2) (by omega)
  have a1 := Go.Sort.get_flatK encU 2 d (j * 2 + 1) (by omega)
  rw [show j * 2 / 2 = j by omega, show j * 2 % 2 = 0 by omega, arr_at h, getElem!_pos _ (j * 2) (by omega)] at a0
  rw [show (j * 2 + 1) / 2 = j by omega, show (j * 2 + 1) % 2 = 1 by omega, arr_at h, getElem!_pos _ (j * 2 + 1) (by omega)] at a1
  rw [Array.getElem?_eq_getElem (by omega), Array.getElem?_eq_getElem (by omega), a0, a1]
  exact ⟨rfl, rfl⟩
theorem rowB_holds {w : World} {g c : Nat} {l : List Ru} (h : RowB w g c l) : Go.Sort.HoldsK encU 2 w g 0 l.toArray := by
  intro t ht
  have ht2 : t < l.length * 2 := by simpa using ht
  obtain ⟨r, hr⟩ : ∃ r, l[t / 2]? = some r := ⟨_, List.getElem?_eq_getElem (by omega)⟩
  have c0 := h.c0 hr
  have c1 := h.c1 hr
  have hf := h.fz t
  rw [Nat.zero_add]
  refine ⟨?_, hf⟩
  have a := Go.Sort.get_flatK encU 2 l.toArray t (by simpa using ht2)
  rw [arr_at (d := l.toArray) hr] at a
  rw [a]
  rcases Nat.mod_two_eq_zero_or_one t with e | e
  · rw [e]
    rw [show t = t / 2 * 2 by omega]
    exact c0
  · rw [e]
    rw [show t = t / 2 * 2 + 1 by omega]
    exact c1
def sortR_ren : Go.Shelf.Ren := ⟨fun | 20 => 125 | n => n, fun | 0 => 0 | 3 => 3 | 4 => 4 | 22 => 27 | 24 => 60 | 25 => 109 | n => n, fun | n => n⟩
theorem sortR : Go.Proofs.SlLaysF0.n20 Tryd.prog sortR_ren := {
  mixed := by kernel_rfl
  f20 := ⟨Tryd.f125.name, by decide, Tryd.func125.trans (congrArg some (by kernel_rfl))⟩
  t0 := Tryd.underlying0
  a0 := Tryd.isAgg0
  z0 := Tryd.sizeOf0
  v0 := Tryd.zeroValue0
  t3 := Tryd.underlying3
  a3 := Tryd.isAgg3
  z3 := Tryd.sizeOf3
  v3 := Tryd.zeroValue3
  t4 := Tryd.underlying4
  a4 := Tryd.isAgg4
  z4 := Tryd.sizeOf4
  v4 := Tryd.zeroValue4
  t22 := Tryd.underlying27
  a22 := Tryd.isAgg27
  z22 := Tryd.sizeOf27
  v22 := Tryd.zeroValue27
  t25 := Tryd.underlying109
  a25 := Tryd.isAgg109
  z25 := Tryd.sizeOf109
  v25 := Tryd.zeroValue109 }
set_option maxHeartbeats 2000000 in
set_option maxRecDepth 100000 in
theorem trim3_grown (b l m : Int) (s t : ByteArray) (G : Nat) (w : World) (hc : w.cell? ⟨G, 0, none⟩ = some (.int .u8 b)) :
    Calls Tryd.prog 82 #[.agg #[.int .u8 l, .string s], .agg #[.int .u8 m, .string t], .pointer (some ⟨G, 0, none⟩)] w fun e w' => e = .returned (.int .i64 (cmpB b l m)) ∧ ∃ q os', w' = Go.Sort.grow (w.drewN q) os' := by
  have hGlt := World.block_lt_of_cell? _ _ hc
  have HB : Hid (∃ q os', (w.alloc (.cells #[.int .u8 l, .string s] 60)).alloc (.cells #[.int .u8 m, .string t] 60) = Go.Sort.grow (w.drewN q) os') := Lib.hid ⟨0, #[.cells #[.int .u8 l, .string s] 60, .cells #[.int .u8 m, .string t] 60], by
    unfold Go.Sort.grow World.drewN World.alloc
    simp only [World.mk.injEq, and_true, true_and]
    refine ⟨?_, ?_⟩
    · apply Array.ext'
      simp
    · rfl⟩
  unfold cmpB
  by_cases h1 : l = b
  · by_cases h2 : m = b
    · have h1t : (l == b) = true := by rw [h1]; exact beq_self_eq_true _
      rw [if_neg (fun q => q.2 h2), if_neg (fun q => q.1 h1)]
      subst h1 h2
      go_enter Tryd.func82, Tryd.ntmps82
      go_wp2
      go_ret
      exact ⟨rfl, HB.out⟩
    · rw [if_pos ⟨h1, h2⟩]
      subst h1
      go_enter Tryd.func82, Tryd.ntmps82
      go_wp2
      go_ret
      exact ⟨rfl, HB.out⟩
  · by_cases h2 : m = b
    · rw [if_neg (fun q => h1 q.1), if_pos ⟨h1, h2⟩]
      subst h2
      go_enter Tryd.func82, Tryd.ntmps82
      go_wp2
      go_ret
      exact ⟨rfl, HB.out⟩
    · rw [if_neg (fun q => h1 q.1), if_neg (fun q => h2 q.2)]
      have h2b : (m == b) = false := by rw [beq_eq_false_iff_ne]; exact h2
      have h1b : (l == b) = false := by rw [beq_eq_false_iff_ne]; exact h1
      go_enter Tryd.func82, Tryd.ntmps82
      go_wp2
      go_ret
      exact ⟨rfl, HB.out⟩
theorem cmpU {w : World} {g H : Nat} {b : Int} (size : Nat) (hne : H ≠ g) (hc : w.cell? ⟨H, 0, none⟩ = some (.int .u8 b)) : CmpLays Tryd.prog 82 #[.pointer (some ⟨H, 0, none⟩)] encU 2 (cfB b) g 0 size w := by
  intro m os dk hs x y
  have hlt := World.block_lt_of_cell? _ _ hc
  refine trim3_grown b x.1 y.1 x.2 y.2 H _ ?_
  unfold Go.Proofs.sortWorldK
  rw [Go.Sort.cell?_grow _ _ _ (by rw [Go.Sort.size_putRowK]; exact hlt), Go.Sort.cell?_putRowK_other _ _ _ _ _ _ _ hne]
  exact hc
theorem sortU_calls {w : World} {g c H : Nat} {b : Int} {l : List Ru} (hR : RowB w g c l) (hl : l.length ≤ 1000) (hne : H ≠ g) (hc : w.cell? ⟨H, 0, none⟩ = some (.int .u8 b)) :
    Calls Tryd.prog 125 #[.slice (some ⟨g, 0, none⟩) l.length c, .int .i64 0, .int .i64 l.length, .func (.func 82) #[] #[.pointer (some ⟨H, 0, none⟩)]] w fun e w' => e = .returned (.tuple #[]) ∧ RowB w' g c (T.part b l) ∧ w.grownBy w' (some g) := by
  have h := AnyQ.insertionSortCmpFunc sortR 2 Tryd.isAgg60 Tryd.sizeOf60 encU (fun _ => rfl) (fun x v hv => by simp [encU] at hv; rcases hv with rfl | rfl <;> rfl) (cfB b) 82 #[.pointer (some ⟨H, 0, none⟩)] g 0 c 0 l.length l.toArray w (fun args w => enters_ Tryd.func82 (by kernel_rfl) rfl args w) (cmpU l.toArray.size hne hc) (rowB_holds hR) hR.lt (Nat.zero_le _) (by simp) (by simp; omega)
  change Calls Tryd.prog 125 _ _ _ at h
  rw [show l.toArray.size = l.length by simp] at h
  refine h.mono ?_
  rintro e w' ⟨rfl, n, os, rfl⟩
  have hp := sort_part b l
  generalize Go.Sort.insertionSort (ltOf (cfB b)) l.toArray 0 l.length = d at hp
  obtain ⟨cur, hb, hsz, -⟩ := hR.blk
  have hds : d.size = l.length := by
    have := congrArg List.length hp
    rw [part_length] at this
    simpa using this
  have hk : (Go.Sort.flatK encU 2 d).size = l.length * 2 := by rw [Go.Sort.size_flatK, hds]
  have hle := hR.le
  obtain ⟨⟨cur', c1, c2, c3⟩, hg⟩ := row_put id w n g (Go.Sort.flatK encU 2 d) os hb (by rw [hk]; omega)
  refine ⟨rfl, ⟨⟨cur', c1, by omega, fun j r hj => ?_⟩, by rw [part_length]; exact hle⟩, hg⟩
  rw [← hp] at hj
  obtain ⟨k0, k1⟩ := flatU_get hj
  have hjl : j < l.length := by
    have := (List.getElem?_eq_some_iff.1 hj).1
    simp at this
    omega
  have key : ∀ t, t < l.length * 2 → cur'[t]? = (Go.Sort.flatK encU 2 d)[t]? := fun t ht => by
    have := congrArg (fun q => q[t]?) c3
    simp only [List.map_id] at this
    rw [List.getElem?_take, if_pos (by omega), Array.getElem?_toList, Array.getElem?_toList] at this
    exact this
  rw [key _ (by omega), key _ (by omega)]
  exact ⟨k0, k1⟩
end Go.Proofs.YtjpfalanoifpbaaDoor.X
end

section
set_option linter.unusedVariables false
set_option linter.unusedSimpArgs false
namespace Go.Proofs.YtjpfalanoifpbaaDoor.X
open Go.RowKit Go.Proofs.YtjpfalanoifpbaaDoorW.PrintWords Go.Proofs.YtjpfalanoifpbaaDoorW.PrintLast Go.Proofs.YtjpfalanoifpbaaDoorW.PrintMore Go.Proofs.YtjpfalanoifpbaaDoor.T
set_option maxHeartbeats 2000000 in
set_option maxRecDepth 100000 in
theorem stable_calls {w : World} {g c H : Nat} {b : Int} {l : List Ru} (hR : RowB w g c l) (hl : l.length < 20) (hne : H ≠ g) (hc : w.cell? ⟨H, 0, none⟩ = some (.int .u8 b)) :
    Calls Tryd.prog 106 #[.slice (some ⟨g, 0, none⟩) l.length c, .int .i64 l.length, .func (.func 82) #[] #[.pointer (some ⟨H, 0, none⟩)]] w fun e w' => e = .returned (.tuple #[]) ∧ RowB w' g c (T.part b l) ∧ w.grownBy w' (some g) := by
  have HS := Lib.hid (sortU_calls hR (by omega) hne hc)
  have hlI : (l.length : Int) < 20 := by omega
  have hlI2 : ¬ (20 : Int) ≤ (l.length : Int) := by omega
  have hlI3 : ¬ (20 : Int) < (l.length : Int) := by omega
  clear hR hc
  go_enter Tryd.func106, Tryd.ntmps106
  go_wp2_with fail
  refine wp_loop_rounds 1 ?_
  rw [rounds_succ]
  go_wp2_with fail
  refine HS.out.mono ?_
  rintro e w1 ⟨rfl, hr1, hg1⟩
  have HR1 := Lib.hid (And.intro hr1 hg1)
  clear hr1 hg1 HS
  go_wp2_with fail
  refine wp_loop_rounds 1 ?_
  rw [rounds_succ]
  go_wp2_with fail
  go_end0
  exact ⟨rfl, HR1.out⟩
set_option maxHeartbeats 2000000 in
set_option maxRecDepth 100000 in
theorem sorted_calls {w : World} {g c H : Nat} {b : Int} {l : List Ru} (hR : RowB w g c l) (hl : l.length < 20) (hne : H ≠ g) (hc : w.cell? ⟨H, 0, none⟩ = some (.int .u8 b)) :
    Calls Tryd.prog 81 #[.slice (some ⟨g, 0, none⟩) l.length c, .func (.func 82) #[] #[.pointer (some ⟨H, 0, none⟩)]] w fun e w' => e = .returned (.tuple #[]) ∧ RowB w' g c (T.part b l) ∧ w.grownBy w' (some g) := by
  have HS := Lib.hid (stable_calls hR hl hne hc)
  clear hR hc
  go_enter Tryd.func81, Tryd.ntmps81
  go_wp2_with fail
  refine HS.out.mono ?_
  rintro e w1 ⟨rfl, hr1, hg1⟩
  have HR1 := Lib.hid (And.intro hr1 hg1)
  clear hr1 hg1 HS
  go_wp2_with fail
  go_end0
  exact ⟨rfl, HR1.out⟩
end Go.Proofs.YtjpfalanoifpbaaDoor.X
end

section
set_option linter.unusedVariables false
set_option linter.unusedSimpArgs false
namespace Go.Proofs.YtjpfalanoifpbaaDoor.X
open Go.RowKit Go.Proofs.YtjpfalanoifpbaaDoorW.PrintWords Go.Proofs.YtjpfalanoifpbaaDoorW.PrintLast Go.Proofs.YtjpfalanoifpbaaDoorW.PrintMore Go.Proofs.YtjpfalanoifpbaaDoor.T
theorem below_grown {w0 w w' : World} {g : Nat} (h : Below w0.heap.size w0 w) (hg : w.grownBy w' (some g)) (hge : w0.heap.size ≤ g) : Below w0.heap.size w0 w' :=
  ⟨hg.os.trans h.os, hg.tape.trans h.tape, hg.output.trans h.output, Nat.le_trans h.size hg.size, fun k hk => (hg.block k (Nat.lt_of_lt_of_le hk h.size) (fun e => by injection e with e; omega)).trans (h.block k hk)⟩
theorem grown_cell {w w' : World} {g H i : Nat} {v : Value} (hg : w.grownBy w' (some g)) (hne : H ≠ g) (hc : w.cell? ⟨H, i, none⟩ = some v) : w'.cell? ⟨H, i, none⟩ = some v := by
  have hlt := World.block_lt_of_cell? _ _ hc
  have := hg.block H hlt (fun e => by injection e with e; exact hne e)
  unfold World.cell? at hc ⊢
  simp only at hc ⊢
  rw [this]
  exact hc
theorem rules_ok {L : Nat → Int} {R : Nat → ByteArray} {n : Nat} (hg : Gr L R n) {r : Ru} (h : r ∈ rulesL L R n) : isP r.1 = true ∧ okR r.2 ∧ r.2.size ≤ 4 := by
  obtain ⟨j, hj⟩ := List.getElem?_of_mem h
  obtain ⟨hjn, rfl⟩ := rulesL_get L R hj
  exact ⟨(hg.ok j hjn).1, (hg.ok j hjn).2, hg.sz j hjn⟩
def p1 (u : Nat) (r : Ru) : Bool := !(inS u r.1 && allU u r.2)
def p2 (e : Nat) (r : Ru) : Bool := !inS e r.1
theorem kept_useful {L : Nat → Int} {R : Nat → ByteArray} {n : Nat} (hg : Gr L R n) : keptR (p1 (usefulN L R n)) (rulesL L R n) = keepU (usefulN L R n) (rulesL L R n) := by
  unfold keptR keepU
  apply List.filter_congr
  intro r hr
  obtain ⟨j, hj⟩ := List.getElem?_of_mem hr
  obtain ⟨hjn, rfl⟩ := rulesL_get L R hj
  unfold p1 inS
  rw [Bool.not_not, (hg.ok j hjn).1, Bool.true_and]
  cases ha : allU (usefulN L R n) (R j) with
  | false => simp only [ha, Bool.and_false]
  | true => simp only [ha, useful_closed hg.ok hjn ha, Bool.and_true]
theorem kept_reached {e : Nat} {K : List Ru} (h : ∀ r ∈ K, isP r.1 = true) : keptR (p2 e) K = keepR e K := by
  unfold keptR keepR
  apply List.filter_congr
  intro r hr
  unfold p2 inS
  rw [Bool.not_not, h r hr, Bool.true_and]
theorem pred1 {w : World} {g GU u : Nat} {l : List Ru} (hu : u < 32) (hl : ∀ r ∈ l, okR r.2) (hne : GU ≠ g) (hc : w.cell? ⟨GU, 0, none⟩ = some (.int .i64 u)) : PredR 76 #[.pointer (some ⟨GU, 0, none⟩)] w g (p1 u) l :=
  fun W r hr hW => trim1_calls r.1 r.2 u GU W hu (hl r hr) (grown_cell hW hne hc)
theorem pred2 {w : World} {g GU u : Nat} {l : List Ru} (hu : u < 32) (hne : GU ≠ g) (hc : w.cell? ⟨GU, 0, none⟩ = some (.int .i64 u)) : PredR 80 #[.pointer (some ⟨GU, 0, none⟩)] w g (p2 u) l :=
  fun W r hr hW => trim2_calls r.1 r.2 u GU W hu (grown_cell hW hne hc)
def lB (e : Nat) (s : ByteArray) (j : Nat) : Nat := e ||| bitsTo s j
theorem lB_lt {e : Nat} (h : e < 32) (s : ByteArray) (j : Nat) : lB e s j < 32 := or_lt h (bitsTo_lt j)
theorem lB_succ (e : Nat) (s : ByteArray) (j : Nat) : lB e s (j + 1) = if isP (ch s j) = true then lB e s j ||| 2 ^ pn (ch s j) else lB e s j := by
  unfold lB
  rw [bitsTo]
  split
  · rw [Nat.or_assoc]
  · rfl
structure Tq (w0 : World) (g c GB H8 : Nat) (l0 : Int) (K : List Ru) (e : Nat) (w : World) : Prop where
  row : RowB w g c K
  beg : w.cell? ⟨GB, 0, none⟩ = some (.int .u8 l0)
  re : w.cell? ⟨H8, 0, none⟩ = some (.int .i64 e)
  fz : w.frozen? ⟨H8, 0, none⟩ = false
  bl : Below w0.heap.size w0 w
  ng : g ≠ H8
  nb : GB ≠ H8
  ge : w0.heap.size ≤ H8
theorem Tq.later {w0 w w' : World} {g c GB H8 e : Nat} {l0 : Int} {K : List Ru} (h : Tq w0 g c GB H8 l0 K e w) (hb : Below w.heap.size w w') : Tq w0 g c GB H8 l0 K e w' := by
  have hlt := World.block_lt_of_cell? _ _ h.re
  refine ⟨h.row.later hb, (hb.cell (p := ⟨GB, 0, none⟩) (World.block_lt_of_cell? _ _ h.beg)).trans h.beg, (hb.cell (p := ⟨H8, 0, none⟩) hlt).trans h.re, ?_, h.bl.trans (hb.mono h.bl.size), h.ng, h.nb, h.ge⟩
  have := hb.block H8 hlt
  have hf := h.fz
  unfold World.frozen? at hf ⊢
  simp only at hf ⊢
  rw [this]
  exact hf
theorem Tq.put {w0 w : World} {g c GB H8 e : Nat} {l0 : Int} {K : List Ru} (h : Tq w0 g c GB H8 l0 K e w) (e' : Nat) : Tq w0 g c GB H8 l0 K e' (w.setCell ⟨H8, 0, none⟩ (.int .i64 e')) := by
  refine ⟨?_, (cell_set_other _ h.nb).trans h.beg, World.cell?_setCell_same' _ _ _ (by rw [h.re]; rfl), by rw [World.frozen?_setCell]; exact h.fz, h.bl.setCell (p := ⟨H8, 0, none⟩) h.ge _, h.ng, h.nb, h.ge⟩
  obtain ⟨cur, h1, h2⟩ := h.row.blk
  exact ⟨⟨cur, (Below.heap_setCell w ⟨H8, 0, none⟩ _ g h.ng).trans h1, h2⟩, h.row.le⟩
set_option maxHeartbeats 16000000 in
set_option maxRecDepth 100000 in
theorem Trim_yes (A : Option Addr) (n c : Nat) (L : Nat → Int) (R : Nat → ByteArray) (w : World) (hA : Sr w A n c L R) (hg : Gram L R n) (hu : (usefulN L R n).testBit (pn (L 0)) = true) :
    Calls Tryd.prog 37 #[.slice A n c] w fun e w' => (∃ g c', e = .returned (.tuple #[.slice (some ⟨g, 0, none⟩) (trimL (usefulN L R n) (L 0) (rulesL L R n)).length c', .int .i64 0]) ∧ w.heap.size ≤ g ∧ RowB w' g c' (trimL (usefulN L R n) (L 0) (rulesL L R n))) ∧ Below w.heap.size w w' := by
  have h8 := hg.1.2
  have hn1 := hg.1.1
  have HA := Lib.hid hA
  have HG := Lib.hid hg.gr
  have HV := Lib.hid fun (w : World) (h : Sr w A n c L R) => valid_calls A n c L R w h (by omega) (fun k hk => Nat.le_trans (hg.2 k hk).sz (by decide)) true (by simp [hg])
  obtain ⟨b, off, rfl, hnc, hP⟩ := hA.open hn1
  have HP := Lib.hid hP
  obtain ⟨X, hX⟩ : ∃ X, trimL (usefulN L R n) (L 0) (rulesL L R n) = X := ⟨_, rfl⟩
  rw [hX]
  have hKU := kept_useful hg.gr
  have h32 := useful_lt hg.gr.ok 5
  have hl0 := (hg.gr.ok 0 hn1).1
  have HUC := Lib.hid fun (w : World) (h : Sr w (some ⟨b, off, none⟩) n c L R) => useful_calls _ n c L R w h hg.gr
  have HROK := Lib.hid fun (r : Ru) (h : r ∈ rulesL L R n) => rules_ok hg.gr h
  have HLEN := Lib.hid (rulesL_len L R n)
  obtain ⟨u, hue⟩ : ∃ u, usefulN L R n = u := ⟨_, rfl⟩
  have h32u : u < 32 := by rw [← hue]; exact h32
  rw [hue] at HUC hu hX hKU
  obtain ⟨l0, hl0e⟩ : ∃ l0, L 0 = l0 := ⟨_, rfl⟩
  rw [hl0e] at hl0 hu hX
  have HX := Lib.hid hX
  have HKU := Lib.hid hKU
  have HL0 := Lib.hid hl0e
  clear hA hP hg h32 hue hl0e hX hKU
  have hcn : 0 < c := by omega
  go_enter Tryd.func37, Tryd.ntmps37
  go_wp2_with fail
  refine (HV.out w HA.out).mono ?_
  rintro e w1 ⟨rfl, hb1⟩
  have HB1 := Lib.hid hb1
  clear hb1
  go_wp2_with fail
  refine (HUC.out w1 (HA.out.later HB1.out)).mono ?_
  rintro e w2 ⟨rfl, hb2⟩
  have HB2 := Lib.hid (HB1.out.trans (hb2.mono HB1.out.size))
  clear hb2 HB1 HV HUC
  go_upto_region 5 with fail
  have hba := below_one (w := w2) (.cells #[.int .i64 u] 3)
  have hca : (w2.alloc (.cells #[.int .i64 u] 3)).cell? ⟨w2.heap.size, 0, none⟩ = some (.int .i64 u) := by simp
  have HB3 := Lib.hid (HB2.out.trans (hba.mono HB2.out.size))
  have HGE := Lib.hid HB2.out.size
  generalize w2.alloc (.cells #[.int .i64 u] 3) = w3 at hca HB3 ⊢
  generalize w2.heap.size = GU at hca HGE ⊢
  have c0 := (HP.out.later HB3.out).c0 0 hn1
  rw [HL0.out] at c0
  simp only [Nat.zero_mul, Nat.add_zero] at c0
  clear hba HB2
  go_upto_region 6 with fail
  have hbb := below_one (w := w3) (.cells #[.int .u8 l0] 5)
  have hcb : (w3.alloc (.cells #[.int .u8 l0] 5)).cell? ⟨w3.heap.size, 0, none⟩ = some (.int .u8 l0) := by simp
  have hca2 := (hbb.cell (p := ⟨GU, 0, none⟩) (World.block_lt_of_cell? _ _ hca)).trans hca
  have HGB := Lib.hid HB3.out.size
  have HB4 := Lib.hid (HB3.out.trans (hbb.mono HB3.out.size))
  generalize w3.alloc (.cells #[.int .u8 l0] 5) = w4 at hcb hca2 HB4 ⊢
  generalize w3.heap.size = GB at hcb HGB ⊢
  clear hbb hca c0 HB3
  go_wp2_with fail
  refine (has_calls u l0 w4 h32u).mono ?_
  rintro r w5 ⟨rfl, rfl⟩
  rw [hl0, hu]
  have HLT := Lib.hid (And.intro (World.block_lt_of_cell? _ _ hca2) (World.block_lt_of_cell? _ _ hcb))
  have HCC := Lib.hid (And.intro hca2 hcb)
  clear hca2 hcb
  go_wp2_with fail
  refine (clone_calls b off n c L R w5 (HP.out.later HB4.out) hn1 (by omega)).mono ?_
  rintro e w6 ⟨⟨g, cc, rfl, hge, hr6⟩, hb6⟩
  have HR6 := Lib.hid hr6
  have HB6 := Lib.hid (HB4.out.trans (hb6.mono HB4.out.size))
  have HC6 := Lib.hid (And.intro ((hb6.cell (p := ⟨GU, 0, none⟩) HLT.out.1).trans HCC.out.1) ((hb6.cell (p := ⟨GB, 0, none⟩) HLT.out.2).trans HCC.out.2))
  have HNE : Hid (GU ≠ g ∧ GB ≠ g ∧ w.heap.size ≤ g) := Lib.hid ⟨by have := HLT.out.1; omega, by have := HLT.out.2; omega, Nat.le_trans HB4.out.size hge⟩
  clear hr6 hb6 hge HCC HLT HB4
  go_wp2_with fail
  have hd := delF_calls (f := 76) (lb := #[.pointer (some ⟨GU, 0, none⟩)]) (fun args w => enters_ Tryd.func76 (by kernel_rfl) rfl args w) HR6.out (pred1 h32u (fun r hr => (HROK.out r hr).2.1) HNE.out.1 HC6.out.1) (by rw [HLEN.out]; omega)
  rw [HLEN.out, HKU.out] at hd
  refine hd.mono ?_
  clear hd
  rintro e w7 ⟨rfl, hr7, hg7⟩
  have HC7 := Lib.hid (And.intro (grown_cell hg7 HNE.out.1 HC6.out.1) (grown_cell hg7 HNE.out.2.1 HC6.out.2))
  have HB7 := Lib.hid (below_grown HB6.out hg7 HNE.out.2.2)
  obtain ⟨K, hK⟩ : ∃ K, keepU u (rulesL L R n) = K := ⟨_, rfl⟩
  have HKOK : Hid (∀ r ∈ K, isP r.1 = true ∧ okR r.2 ∧ r.2.size ≤ 4) := Lib.hid (fun r hr => by
    rw [← hK] at hr
    exact HROK.out r (List.mem_filter.1 hr).1)
  have hKL : K.length ≤ 8 := by
    rw [← hK]
    have := List.length_filter_le (fun r : Ru => allU u r.2) (rulesL L R n)
    rw [HLEN.out] at this
    exact Nat.le_trans this h8
  have HX7 : Hid (T.part l0 (keepR (rch l0 K) K) = X) := Lib.hid (by rw [← HX.out, ← hK]; rfl)
  have hkc := hr7.le
  rw [hK] at hr7 hkc ⊢
  have HR7 := Lib.hid hr7
  clear hr7 hg7 HR6 HB6 HC6 hK HX HKU HROK HLEN
  have c6 := HC7.out.2
  obtain ⟨p, rfl⟩ : ∃ p : Nat, l0 = (p : Int) + 65 := ⟨(l0 - 65).toNat, by have := isP_iff.1 hl0; omega⟩
  have hp4 : p ≤ 4 := by have := isP_iff.1 hl0; omega
  have e2 := u8_part hp4
  have hps := pow_small hp4
  go_upto_region 10 with fail
  have hba := below_one (w := w7) (.cells #[.int .i64 ((2 : Int) ^ p)] 3)
  have h8c : (w7.alloc (.cells #[.int .i64 ((2 : Int) ^ p)] 3)).cell? ⟨w7.heap.size, 0, none⟩ = some (.int .i64 ((2 : Int) ^ p)) := by simp
  have h8f : (w7.alloc (.cells #[.int .i64 ((2 : Int) ^ p)] 3)).frozen? ⟨w7.heap.size, 0, none⟩ = false := by simp
  have HQ : Hid (Tq w g cc GB w7.heap.size ((p : Int) + 65) K (2 ^ p) (w7.alloc (.cells #[.int .i64 ((2 : Int) ^ p)] 3))) := Lib.hid ⟨HR7.out.later hba, (hba.cell (p := ⟨GB, 0, none⟩) (World.block_lt_of_cell? _ _ c6)).trans c6, by rw [h8c]; simp, h8f, HB7.out.trans (hba.mono HB7.out.size), Nat.ne_of_lt HR7.out.lt, Nat.ne_of_lt (World.block_lt_of_cell? _ _ c6), HB7.out.size⟩
  have HG8 := Lib.hid (And.intro HNE.out.2.1 HNE.out.2.2)
  generalize w7.alloc (.cells #[.int .i64 ((2 : Int) ^ p)] 3) = w8 at HQ ⊢
  generalize w7.heap.size = H8 at HQ ⊢
  have hpn : pn ((p : Int) + 65) = p := by unfold pn; omega
  have HPB := Lib.hid (pp_lt hl0)
  rw [hpn] at HPB
  have HXR : Hid (T.part ((p : Int) + 65) (keepR (rep (rTo K) 5 (2 ^ p)) K) = X) := Lib.hid (by rw [← HX7.out]; unfold rch; rw [hpn])
  clear hba h8c h8f HC7 HB7 HR7 c6 HX7 HL0 hps hu hl0 hpn HNE HA HP HG h32u e2
  go_wp2_with fail
  go_loopw [34] (fun i wr => ∃ m : Nat, m ≤ 5 ∧ i = .int .i64 m ∧ Hid (Tq w g cc GB H8 ((p : Int) + 65) K (rep (rTo K) m (2 ^ p)) wr)) (fun i _ => 5 - (intOf i).toNat)
  case atStart => exact ⟨0, by omega, rfl, HQ⟩
  case round =>
    clear HQ
    obtain ⟨m, hm, rfl, HQ⟩ := hrel
    obtain ⟨e0, he0⟩ : ∃ e0, rep (rTo K) m (2 ^ p) = e0 := ⟨_, rfl⟩
    have hel : e0 < 32 := by rw [← he0]; exact rep_lt (fun e h => rTo_lt K h) m HPB.out
    rw [he0] at HQ
    have HE0 := Lib.hid he0
    clear he0
    by_cases hlt : m < 5
    · have hltI : (m : Int) < 5 := by omega
      go_wp2_with fail
      go_loopw [38] (fun i wr => ∃ k : Nat, k ≤ K.length ∧ i = .int .i64 k ∧ Hid (Tq w g cc GB H8 ((p : Int) + 65) K ((K.take k).foldl rStep e0) wr)) (fun i _ => K.length - (intOf i).toNat)
      case atStart => exact ⟨0, by omega, rfl, HQ⟩
      case round =>
        clear HQ
        obtain ⟨k, hk, rfl, HQ⟩ := hrel
        obtain ⟨e1, he1⟩ : ∃ e1, (K.take k).foldl rStep e0 = e1 := ⟨_, rfl⟩
        have he1l : e1 < 32 := by rw [← he1]; exact foldl_lt (fun e r h => rStep_lt h r) _ hel
        rw [he1] at HQ
        have HE1 := Lib.hid he1
        clear he1
        by_cases hkn : k < K.length
        · have hkI : (k : Int) < (K.length : Int) := by omega
          obtain ⟨⟨l, s⟩, hr⟩ : ∃ r, K[k]? = some r := ⟨_, List.getElem?_eq_getElem hkn⟩
          have c0 := HQ.out.row.c0 hr
          have c1 := HQ.out.row.c1 hr
          simp only at c0 c1
          have hrk := HKOK.out _ (List.mem_of_getElem? hr)
          have hsz : s.size ≤ 4 := hrk.2.2
          have hlp : isP l = true := hrk.1
          have HS1 : Hid ((K.take (k + 1)).foldl rStep e0 = rStep e1 (l, s)) := Lib.hid (by rw [take_succ_of hr, List.foldl_append, HE1.out]; rfl)
          have HEND : Hid (k + 1 ≤ K.length ∧ K.length - (intOf (.int .i64 ((k : Int) + 1))).toNat < K.length - (intOf (.int .i64 (k : Int))).toNat) := Lib.hid ⟨by omega, by simp [intOf]; omega⟩
          have hkcc : k < cc := by omega
          clear hr hrk
          go_upto_region 15 with fail
          have hbA := below_one (w := wr) (.cells #[.int .u8 l, .string s] 60)
          obtain ⟨d0, d1⟩ := rule_new wr 60 l s
          have HQA := Lib.hid (HQ.out.later hbA)
          have re1 := HQA.out.re
          generalize wr.alloc (.cells #[.int .u8 l, .string s] 60) = wa at d0 d1 HQA re1 ⊢
          generalize wr.heap.size = G at d0 d1 ⊢
          clear hbA c0 c1 HQ
          go_wp2_with fail
          refine (has_calls e1 l wa he1l).mono ?_
          rintro r wb ⟨rfl, rfl⟩
          rw [hlp, Bool.true_and]
          cases ht : e1.testBit (pn l) with
          | false =>
            have HS2 : Hid (rStep e1 (l, s) = e1) := Lib.hid (by unfold rStep; rw [if_neg (by simp only [ht]; decide)])
            clear ht
            go_wp2_with fail
            refine ⟨⟨k + 1, HEND.out.1, by go_num, by rw [HS1.out, HS2.out]; exact HQA⟩, HEND.out.2⟩
          | true =>
            have HS2 : Hid (rStep e1 (l, s) = lB e1 s s.size) := Lib.hid (by unfold rStep lB bitsOf; rw [if_pos ht])
            clear ht
            have hcv := fun (w : World) => Lib.run_convert_string_bytes (P := Tryd.prog) w 9 74 5 s Tryd.underlying9 Tryd.underlying74 Tryd.underlying5
            go_wp2_with fail
            have HGT := Lib.hid (World.block_lt_of_cell? _ _ HQA.out.re)
            obtain ⟨hby, hbB, -⟩ := bytes_world wb s
            have HNT : Hid (wb.heap.size ≠ H8) := Lib.hid (by have := HGT.out; simp only at this; omega)
            have HQB : Hid (Tq w g cc GB H8 ((p : Int) + 65) K (lB e1 s 0) (Lib.bytesWorld wb 5 s)) := Lib.hid (by
              have := HQA.out.later hbB
              rw [show lB e1 s 0 = e1 from Nat.or_zero _]
              exact this)
            have HY := Lib.hid hby
            generalize Lib.bytesWorld wb 5 s = wc at HQB HY ⊢
            generalize wb.heap.size = TT at HNT HY ⊢
            clear hby hbB hcv HGT d0 d1 re1 HQA
            go_loopw [50] (fun i wr => ∃ j : Nat, j ≤ s.size ∧ i = .int .i64 j ∧ Hid (Tq w g cc GB H8 ((p : Int) + 65) K (lB e1 s j) wr) ∧ Hid (∀ i, i < s.size → wr.cell? ⟨TT, i, none⟩ = some (.int .u8 (ch s i)))) (fun i _ => s.size - (intOf i).toNat)
            case atStart => exact ⟨0, by omega, rfl, HQB, HY⟩
            case round =>
              clear HQB HY
              obtain ⟨j, hj, rfl, HQ, HY⟩ := hrel
              obtain ⟨q, hq⟩ : ∃ q, lB e1 s j = q := ⟨_, rfl⟩
              have hql : q < 32 := by rw [← hq]; exact lB_lt he1l _ _
              have hsu := lB_succ e1 s j
              rw [hq] at HQ hsu
              by_cases hjs : j < s.size
              · have hjI : (j : Int) < (s.size : Int) := by omega
                have hbt := HY.out j hjs
                obtain ⟨x, hx⟩ : ∃ x, ch s j = x := ⟨_, rfl⟩
                rw [hx] at hbt hsu
                have HSU := Lib.hid hsu
                have HEN2 : Hid (j + 1 ≤ s.size ∧ s.size - (intOf (.int .i64 ((j : Int) + 1))).toNat < s.size - (intOf (.int .i64 (j : Int))).toNat) := Lib.hid ⟨by omega, by simp [intOf]; omega⟩
                clear hq hx hsu
                go_wp2_with fail
                refine (isPart_calls x _).mono ?_
                rintro r w6 ⟨rfl, rfl⟩
                cases hp : isP x with
                | false =>
                  have HS3 := Lib.hid (HSU.out.trans (if_neg (by rw [hp]; decide)))
                  clear hp
                  go_wp2_with fail
                  refine ⟨⟨j + 1, HEN2.out.1, by go_num, by rw [HS3.out]; exact HQ, HY⟩, HEN2.out.2⟩
                | true =>
                  have HS3 := Lib.hid (HSU.out.trans (if_pos hp))
                  have hx5 := isP_iff.1 hp
                  obtain ⟨y, rfl⟩ : ∃ y : Nat, x = (y : Int) + 65 := ⟨(x - 65).toNat, by omega⟩
                  have hy4 : y ≤ 4 := by omega
                  have ey := u8_part hy4
                  have hor := or_pow hql hy4
                  rw [show pn ((y : Int) + 65) = y by unfold pn; omega] at HS3
                  have re2 := HQ.out.re
                  have rf2 := HQ.out.fz
                  have HQ3 := Lib.hid (HQ.out.put (q ||| 2 ^ y))
                  have HY3 := Lib.hid (bytes_set HY.out HNT.out 0 (.int .i64 (q ||| 2 ^ y : Nat)))
                  clear hp HQ HY
                  go_wp2_with fail
                  refine ⟨⟨j + 1, HEN2.out.1, by go_num, by rw [HS3.out]; exact HQ3, HY3⟩, HEN2.out.2⟩
              · obtain rfl : j = s.size := by omega
                have hjI : ¬ (s.size : Int) < (s.size : Int) := by omega
                go_wp2_with fail
                refine ⟨⟨k + 1, HEND.out.1, by go_num, by rw [HS1.out, HS2.out, hq]; exact HQ⟩, HEND.out.2⟩
        · obtain rfl : k = K.length := by omega
          have hkI : ¬ (K.length : Int) < (K.length : Int) := by omega
          have HFU : Hid (K.foldl rStep e0 = e1) := Lib.hid (by
            have := HE1.out
            rw [List.take_length] at this
            exact this)
          go_wp2_with fail
          refine ⟨⟨m + 1, by omega, by go_num, by rw [rep, HE0.out]; unfold rTo; rw [HFU.out]; exact HQ⟩, by simp [intOf]; omega⟩
    · have hm5 : m = 5 := by omega
      have HE5 : Hid (T.part ((p : Int) + 65) (keepR e0 K) = X) := Lib.hid (by rw [← HXR.out, ← HE0.out, hm5])
      have hltI : ¬ (m : Int) < 5 := by omega
      clear hm5
      go_wp2_with fail
      have hd := delF_calls (f := 80) (lb := #[.pointer (some ⟨H8, 0, none⟩)]) (fun args w => enters_ Tryd.func80 (by kernel_rfl) rfl args w) HQ.out.row (pred2 hel (Ne.symm HQ.out.ng) HQ.out.re) (by omega)
      rw [kept_reached (fun r hr => (HKOK.out r hr).1)] at hd
      refine hd.mono ?_
      clear hd
      rintro e w9 ⟨rfl, hr9, hg9⟩
      obtain ⟨K2, hK2⟩ : ∃ K2, keepR e0 K = K2 := ⟨_, rfl⟩
      have hKL2 : K2.length ≤ 8 := by
        rw [← hK2]
        exact Nat.le_trans (List.length_filter_le (fun r : Ru => e0.testBit (pn r.1)) K) hKL
      rw [hK2] at hr9 HE5 ⊢
      have HR9 := Lib.hid hr9
      have HC9 := Lib.hid (grown_cell hg9 HG8.out.1 HQ.out.beg)
      have HB9 := Lib.hid (below_grown HQ.out.bl hg9 HG8.out.2)
      clear hr9 hg9 hK2 HQ
      go_wp2_with fail
      refine (sorted_calls HR9.out (by omega) HG8.out.1 HC9.out).mono ?_
      rintro e w10 ⟨rfl, hr10, hg10⟩
      rw [HE5.out] at hr10
      have HLX : Hid (K2.length = X.length) := Lib.hid (by rw [← HE5.out, part_length])
      have HR10 := Lib.hid hr10
      have HB10 := Lib.hid (below_grown HB9.out hg10 HG8.out.2)
      clear hr10 hg10 HR9 HB9 HC9
      go_wp2
      go_ret2
      refine ⟨⟨g, cc, ?_, HG8.out.2, HR10.out⟩, HB10.out⟩
      rw [HLX.out]
      rfl
end Go.Proofs.YtjpfalanoifpbaaDoor.X
end

section
set_option linter.unusedVariables false
set_option linter.unusedSimpArgs false
namespace Go.Proofs.YtjpfalanoifpbaaDoor.X
open Go.RowKit Go.Proofs.YtjpfalanoifpbaaDoorW.PrintWords Go.Proofs.YtjpfalanoifpbaaDoorW.PrintLast Go.Proofs.YtjpfalanoifpbaaDoorW.PrintMore Go.Proofs.YtjpfalanoifpbaaDoor.T
theorem rulesL_self (l : List Ru) : rulesL (lL l) (lR l) l.length = l := by
  apply List.ext_getElem?
  intro i
  by_cases hi : i < l.length
  · have h : (rulesL (lL l) (lR l) l.length)[i]? = some (lL l i, lR l i) := by
      unfold rulesL
      rw [List.getElem?_map, List.getElem?_range hi]
      rfl
    rw [h, List.getElem?_eq_getElem hi]
    unfold lL lR
    simp [List.getElem?_eq_getElem hi]
  · rw [List.getElem?_eq_none (by rw [rulesL_len]; omega), List.getElem?_eq_none (by omega)]
theorem trimL_le (u : Nat) (b : Int) (l : List Ru) : (trimL u b l).length ≤ l.length := by
  unfold trimL
  rw [part_length]
  exact Nat.le_trans (List.length_filter_le _ _) (List.length_filter_le _ _)
theorem rowB_sr {w : World} {g c : Nat} {l : List Ru} (h : RowB w g c l) : Sr w (some ⟨g, 0, none⟩) l.length c (lL l) (lR l) := by
  refine .inr ⟨g, 0, rfl, h.le, ⟨fun i hi => ?_, fun i hi => ?_⟩⟩
  · have := h.c0 (List.getElem?_eq_getElem hi)
    rw [Nat.zero_add, this]
    unfold lL
    simp [List.getElem?_eq_getElem hi]
  · have := h.c1 (List.getElem?_eq_getElem hi)
    rw [Nat.zero_add, this]
    unfold lR
    simp [List.getElem?_eq_getElem hi]
set_option maxHeartbeats 8000000 in
set_option maxRecDepth 100000 in
theorem Trim_none (A : Option Addr) (n c : Nat) (L : Nat → Int) (R : Nat → ByteArray) (w : World) (hA : Sr w A n c L R) (hg : Gram L R n) (hu : (usefulN L R n).testBit (pn (L 0)) = false) :
    Calls Tryd.prog 37 #[.slice A n c] w fun e w' => e = .returned (.tuple #[.slice none 0 0, .int .i64 4]) ∧ Below w.heap.size w w' := by
  have h8 := hg.1.2
  have hn1 := hg.1.1
  have HA := Lib.hid hA
  have HV := Lib.hid fun (w : World) (h : Sr w A n c L R) => valid_calls A n c L R w h (by omega) (fun k hk => Nat.le_trans (hg.2 k hk).sz (by decide)) true (by simp [hg])
  obtain ⟨b, off, rfl, hnc, hP⟩ := hA.open hn1
  have HP := Lib.hid hP
  have h32 := useful_lt hg.gr.ok 5
  have hl0 := (hg.gr.ok 0 hn1).1
  have HUC := Lib.hid fun (w : World) (h : Sr w (some ⟨b, off, none⟩) n c L R) => useful_calls _ n c L R w h hg.gr
  obtain ⟨u, hue⟩ : ∃ u, usefulN L R n = u := ⟨_, rfl⟩
  have h32u : u < 32 := by rw [← hue]; exact h32
  rw [hue] at HUC hu
  obtain ⟨l0, hl0e⟩ : ∃ l0, L 0 = l0 := ⟨_, rfl⟩
  rw [hl0e] at hl0 hu
  have HL0 := Lib.hid hl0e
  clear hA hP hg h32 hue hl0e
  have hcn : 0 < c := by omega
  go_enter Tryd.func37, Tryd.ntmps37
  go_wp2_with fail
  refine (HV.out w HA.out).mono ?_
  rintro e w1 ⟨rfl, hb1⟩
  have HB1 := Lib.hid hb1
  clear hb1
  go_wp2_with fail
  refine (HUC.out w1 (HA.out.later HB1.out)).mono ?_
  rintro e w2 ⟨rfl, hb2⟩
  have HB2 := Lib.hid (HB1.out.trans (hb2.mono HB1.out.size))
  clear hb2 HB1 HV HUC
  go_upto_region 5 with fail
  have hba := below_one (w := w2) (.cells #[.int .i64 u] 3)
  have hca : (w2.alloc (.cells #[.int .i64 u] 3)).cell? ⟨w2.heap.size, 0, none⟩ = some (.int .i64 u) := by simp
  have HB3 := Lib.hid (HB2.out.trans (hba.mono HB2.out.size))
  generalize w2.alloc (.cells #[.int .i64 u] 3) = w3 at hca HB3 ⊢
  generalize w2.heap.size = GU at hca ⊢
  have c0 := (HP.out.later HB3.out).c0 0 hn1
  rw [HL0.out] at c0
  simp only [Nat.zero_mul, Nat.add_zero] at c0
  clear hba HB2
  go_upto_region 6 with fail
  have hbb := below_one (w := w3) (.cells #[.int .u8 l0] 5)
  have hcb : (w3.alloc (.cells #[.int .u8 l0] 5)).cell? ⟨w3.heap.size, 0, none⟩ = some (.int .u8 l0) := by simp
  have hca2 := (hbb.cell (p := ⟨GU, 0, none⟩) (World.block_lt_of_cell? _ _ hca)).trans hca
  have HB4 := Lib.hid (HB3.out.trans (hbb.mono HB3.out.size))
  generalize w3.alloc (.cells #[.int .u8 l0] 5) = w4 at hcb hca2 HB4 ⊢
  generalize w3.heap.size = GB at hcb ⊢
  clear hbb hca c0 HB3
  go_wp2_with fail
  refine (has_calls u l0 w4 h32u).mono ?_
  rintro r w5 ⟨rfl, rfl⟩
  rw [hu, Bool.and_false]
  clear hca2 hcb
  go_wp2
  go_ret2
  exact ⟨rfl, HB4.out⟩
set_option maxHeartbeats 8000000 in
set_option maxRecDepth 100000 in
theorem Trim_no (A : Option Addr) (n c : Nat) (L : Nat → Int) (R : Nat → ByteArray) (w : World) (hA : Sr w A n c L R) (hn : n ≤ 1000) (hsz : ∀ k, k < n → (R k).size ≤ 1000) (hg : ¬ Gram L R n) :
    Calls Tryd.prog 37 #[.slice A n c] w fun e w' => e = .returned (.tuple #[.slice none 0 0, .int .i64 2]) ∧ Below w.heap.size w w' := by
  have HA := Lib.hid hA
  have HV := Lib.hid fun (w : World) (h : Sr w A n c L R) => valid_calls A n c L R w h hn hsz false (by simp [hg])
  clear hA hg hsz
  go_enter Tryd.func37, Tryd.ntmps37
  go_wp2_with fail
  refine (HV.out w HA.out).mono ?_
  rintro e w1 ⟨rfl, hb1⟩
  have HB := Lib.hid hb1
  clear hb1
  go_wp2
  go_ret2
  exact ⟨rfl, HB.out⟩
end Go.Proofs.YtjpfalanoifpbaaDoor.X
end

section
set_option linter.unusedVariables false
set_option linter.unusedSimpArgs false
namespace Go.Proofs.YtjpfalanoifpbaaDoor.X
open Go.RowKit Go.Proofs.YtjpfalanoifpbaaDoorW.PrintWords Go.Proofs.YtjpfalanoifpbaaDoorW.PrintLast Go.Proofs.YtjpfalanoifpbaaDoorW.PrintMore Go.Proofs.YtjpfalanoifpbaaDoor.T
theorem sameR_eq {a b : Int} {s t : ByteArray} : sameR a b s t = true ↔ (a, s) = (b, t) := by
  unfold sameR
  simp
theorem rules_nodup {L : Nat → Int} {R : Nat → ByteArray} {n : Nat} (hg : Gram L R n) : (rulesL L R n).Nodup := by
  unfold List.Nodup
  rw [List.pairwise_iff_getElem]
  intro i j hi hj hij e
  have hj2 := hj
  rw [rulesL_len] at hj2
  have h := (hg.2 j hj2).new i hij
  have key : ∀ k (hk : k < (rulesL L R n).length), (rulesL L R n)[k] = (L k, R k) := fun k hk => by simp [rulesL]
  rw [key, key] at e
  have := sameR_eq.2 e.symm
  rw [h] at this
  cases this
theorem part_nodup {b : Int} {l : List Ru} (h : l.Nodup) : (T.part b l).Nodup := by
  unfold T.part
  rw [List.nodup_append]
  refine ⟨List.Pairwise.filter _ h, List.Pairwise.filter _ h, fun a ha c hc e => ?_⟩
  subst e
  rw [List.mem_filter] at ha hc
  rw [ha.2] at hc
  simp at hc
theorem trim_nodup {u : Nat} {b : Int} {l : List Ru} (h : l.Nodup) : (trimL u b l).Nodup := by
  unfold trimL
  exact part_nodup (List.Pairwise.filter _ (List.Pairwise.filter _ h))
theorem ok_rules {L : Nat → Int} {R : Nat → ByteArray} {n : Nat} (hg : Gram L R n) : Okl (rulesL L R n) := fun r hr => ⟨(rules_ok hg.gr hr).1, (rules_ok hg.gr hr).2.1⟩
theorem us_rules {L : Nat → Int} {R : Nat → ByteArray} {n : Nat} : usefulN L R n = us (rulesL L R n) := useful_us L R n
theorem gram_list {l : List Ru} (h1 : 1 ≤ l.length) (h8 : l.length ≤ 8) (hok : ∀ r ∈ l, isP r.1 = true ∧ okR r.2 ∧ r.2.size ≤ 4) (hn : l.Nodup) : Gram (lL l) (lR l) l.length := by
  have key : ∀ k (hk : k < l.length), (lL l k, lR l k) = l[k] := fun k hk => by
    unfold lL lR
    simp [List.getElem?_eq_getElem hk]
  refine ⟨⟨h1, h8⟩, fun k hk => ?_⟩
  have hr := hok l[k] (List.getElem_mem hk)
  rw [← key k hk] at hr
  refine ⟨hr.1, hr.2.2, hr.2.1, fun j hj => ?_⟩
  cases q : sameR (lL l k) (lL l j) (lR l k) (lR l j) with
  | false => rfl
  | true =>
    have e := sameR_eq.1 q
    rw [key k hk, key j (by omega)] at e
    unfold List.Nodup at hn
    rw [List.pairwise_iff_getElem] at hn
    exact absurd e.symm (hn j k (by omega) hk hj)
section
variable {L : Nat → Int} {R : Nat → ByteArray} {n : Nat}
def trX (L : Nat → Int) (R : Nat → ByteArray) (n : Nat) : List Ru := trimL (usefulN L R n) (L 0) (rulesL L R n)
theorem trX_le : (trX L R n).length ≤ n := by
  have := trimL_le (usefulN L R n) (L 0) (rulesL L R n)
  rw [rulesL_len] at this
  exact this
theorem trX_us (hg : Gram L R n) : trX L R n = trimL (us (rulesL L R n)) (L 0) (rulesL L R n) := by
  unfold trX
  rw [us_rules]
theorem trX_first (hg : Gram L R n) (hu : (usefulN L R n).testBit (pn (L 0)) = true) : ∃ s m, trX L R n = (L 0, s) :: m := by
  rw [trX_us hg]
  rw [us_rules] at hu
  exact trim_first (hg.gr.ok 0 hg.1.1).1 (ok_rules hg) hu
theorem trX_gram (hg : Gram L R n) (hu : (usefulN L R n).testBit (pn (L 0)) = true) : Gram (lL (trX L R n)) (lR (trX L R n)) (trX L R n).length := by
  obtain ⟨s, m, e⟩ := trX_first hg hu
  refine gram_list (by rw [e]; simp) (Nat.le_trans trX_le hg.1.2) (fun r hr => rules_ok hg.gr (trim_mem.1 hr).1) (trim_nodup (rules_nodup hg))
theorem trX_zero (hg : Gram L R n) (hu : (usefulN L R n).testBit (pn (L 0)) = true) : lL (trX L R n) 0 = L 0 := by
  obtain ⟨s, m, e⟩ := trX_first hg hu
  rw [e]
  rfl
theorem trX_useful (hg : Gram L R n) (hu : (usefulN L R n).testBit (pn (L 0)) = true) : (usefulN (lL (trX L R n)) (lR (trX L R n)) (trX L R n).length).testBit (pn (lL (trX L R n) 0)) = true := by
  rw [trX_zero hg hu, us_rules, rulesL_self, trX_us hg]
  rw [us_rules] at hu
  exact us_trim (hg.gr.ok 0 hg.1.1).1 (ok_rules hg) _ hu (rch_beg _ _)
theorem trX_again (hg : Gram L R n) (hu : (usefulN L R n).testBit (pn (L 0)) = true) : trX (lL (trX L R n)) (lR (trX L R n)) (trX L R n).length = trX L R n := by
  rw [show trX (lL (trX L R n)) (lR (trX L R n)) (trX L R n).length = trimL (usefulN (lL (trX L R n)) (lR (trX L R n)) (trX L R n).length) (lL (trX L R n) 0) (rulesL (lL (trX L R n)) (lR (trX L R n)) (trX L R n).length) from rfl]
  rw [trX_zero hg hu, us_rules, rulesL_self, trX_us hg]
  exact trim_again (hg.gr.ok 0 hg.1.1).1 (ok_rules hg)
theorem trX_trees (hg : Gram L R n) (hu : (usefulN L R n).testBit (pn (L 0)) = true) (M : Nat) (s : ByteArray) : treesN M (lL (trX L R n)) (lR (trX L R n)) (trX L R n).length s = treesN M L R n s := by
  unfold treesN
  rw [trX_zero hg hu, A_list, A_list]
  rw [show gl (lL (trX L R n)) (lR (trX L R n)) (trX L R n).length = trX L R n from rulesL_self _, show gl L R n = rulesL L R n from rfl, trX_us hg]
  rw [← trim_counts (hg.gr.ok 0 hg.1.1).1 (ok_rules hg) 600 _ _ _ (rch_beg _ _)]
theorem none_trees (hg : Gram L R n) (hu : (usefulN L R n).testBit (pn (L 0)) = false) (M : Nat) (s : ByteArray) : treesN M L R n s = 0 := by
  unfold treesN
  rw [A_list, show gl L R n = rulesL L R n from rfl]
  rw [us_rules] at hu
  rw [AL_none (ok_rules hg) hu, Nat.zero_min]
end
end Go.Proofs.YtjpfalanoifpbaaDoor.X
end

section
set_option linter.unusedVariables false
set_option linter.unusedSimpArgs false
namespace Go.Proofs.YtjpfalanoifpbaaDoor.X
open Go.RowKit Go.Proofs.YtjpfalanoifpbaaDoorW.PrintWords Go.Proofs.YtjpfalanoifpbaaDoorW.PrintLast Go.Proofs.YtjpfalanoifpbaaDoorW.PrintMore Go.Proofs.YtjpfalanoifpbaaDoor.T
set_option maxHeartbeats 8000000 in
set_option maxRecDepth 100000 in
theorem eqTrim_same {A1 A2 : Option Addr} {n c1 c2 : Nat} {l : List Ru} {w : World} (h1 : Sr w A1 n c1 (lL l) (lR l)) (h2 : Sr w A2 n c2 (lL l) (lR l)) (hn : n ≤ 1000) :
    Calls Tryd.prog 43 #[.slice A1 n c1, .slice A2 n c2] w fun e w' => e = .returned (.bool true) ∧ Below w.heap.size w w' := by
  have H1 := Lib.hid h1
  have H2 := Lib.hid h2
  clear h1 h2
  go_enter Tryd.func43, Tryd.ntmps43
  go_wp2_with fail
  have HB := Lib.hid (Below.refl w.heap.size w)
  go_loopw [13] (fun i wr => ∃ x : Nat, x ≤ n ∧ i = .int .i64 x ∧ Hid (Below w.heap.size w wr)) (fun i _ => n - (intOf i).toNat)
  case atStart => exact ⟨0, by omega, rfl, HB⟩
  case round =>
    clear HB
    obtain ⟨x, hx, rfl, HB⟩ := hrel
    by_cases hxl : x < n
    · have hxI : (x : Int) < (n : Int) := by omega
      obtain ⟨b1, o1, e1, hn1, hP1⟩ := H1.out.open (by omega)
      obtain ⟨b2, o2, e2, hn2, hP2⟩ := H2.out.open (by omega)
      subst e1 e2
      have f0 := (hP1.later HB.out).c0 x hxl
      have f1 := (hP1.later HB.out).c1 x hxl
      have g0 := (hP2.later HB.out).c0 x hxl
      have g1 := (hP2.later HB.out).c1 x hxl
      obtain ⟨a, ha⟩ : ∃ a, lL l x = a := ⟨_, rfl⟩
      obtain ⟨s, hs⟩ : ∃ s, lR l x = s := ⟨_, rfl⟩
      rw [ha] at f0 g0
      rw [hs] at f1 g1
      have hx1 : x < c1 := by omega
      have hx2 : x < c2 := by omega
      have hm60 : Tryd.prog.eqGuardType Tryd.prog.depth 60 = false := by kernel_rfl
      have he : ∀ w, (Op.equalIn 10000 60 (.agg #[.int .u8 a, .string s]) (.agg #[.int .u8 a, .string s])).run Tryd.prog w = .ok true w := fun w => by
        rw [rule_eq]
        unfold sameR
        simp
      clear ha hs hP1 hP2
      go_wp2_with fail
      go_quiet (fail)
      have hbq := pw_below_drewN (Below.refl wr.heap.size wr) nq
      have HB3 := Lib.hid (HB.out.trans (hbq.mono HB.out.size))
      clear hbq f0 f1 g0 g1
      generalize wr.drewN nq = w3 at HB3 ⊢
      go_wp2_with fail
      refine ⟨⟨x + 1, by omega, by go_num, HB3⟩, by simp [intOf]; omega⟩
    · obtain rfl : x = n := by omega
      go_wp2
      go_ret
      exact ⟨rfl, HB.out⟩
theorem cloneX_calls {X : List Ru} (g c : Nat) (w : World) (h : RowB w g c X) (h0 : 0 < X.length) (hn : X.length ≤ 1000) :
    Calls Tryd.prog 42 #[.slice (some ⟨g, 0, none⟩) X.length c] w fun e w' => (∃ g1 c1, e = .returned (.slice (some ⟨g1, 0, none⟩) X.length c1) ∧ w.heap.size ≤ g1 ∧ RowB w' g1 c1 X) ∧ Below w.heap.size w w' := by
  obtain ⟨b, off, he, -, hP⟩ := (rowB_sr h).open h0
  injection he with he
  injection he with e1 e2
  subst e1 e2
  have := clone_calls g 0 X.length c (lL X) (lR X) w hP h0 hn
  rw [rulesL_self] at this
  exact this
set_option maxHeartbeats 8000000 in
set_option maxRecDepth 100000 in
theorem Trimmed_nog (A : Option Addr) (n c : Nat) (L : Nat → Int) (R : Nat → ByteArray) (s : ByteArray) (w : World) (hA : Sr w A n c L R) (hn : n ≤ 9223372036854775807) (hR : ∀ k, k < n → (R k).size ≤ 9223372036854775807) (hz : s.size ≤ 140737488351232) (hg : ¬ Gram L R n) :
    Calls Tryd.prog 8 #[.slice A n c, .string s] w fun e w' => e = .returned (.bool true) ∧ Below w.heap.size w w' := by
  have HO := Lib.hid (fun (w : World) (h : Sr w A n c L R) => Of_calls A n c L R w h hn hR)
  have HG := Lib.hid (fun (w : World) (h : Sr w A n c L R) => Grammar_calls A n c L R w h hn false (by simp [hg]))
  have hng : ¬ Gram L (fun k => cut12 (R k)) (mnN n 11) := fun q => hg (cut_gram q)
  have h11 := mnN_le n 11
  have HT := Lib.hid (fun (A' : Option Addr) (c' : Nat) (w : World) h => Trim_no A' (mnN n 11) c' L (fun k => cut12 (R k)) w h (by omega) (fun k _ => cut12_1000 _) hng)
  have HTR := Lib.hid (fun (A' : Option Addr) (c' : Nat) (w : World) h => Trees_no A' (mnN n 11) c' L (fun k => cut12 (R k)) (cut12 s) w h (by omega) (fun k _ => cut12_1000 _) (Nat.le_trans (cut12_1000 s) (by decide)) (fun q => hng q.1))
  have HX := Lib.hid (fun w => text_calls s (by omega) w)
  have HA := Lib.hid hA
  clear hA hR hg hng h11
  generalize cut12 s = s2 at HTR HX
  generalize mnN n 11 = m at HO HT HTR
  go_enter Tryd.func8, Tryd.ntmps8
  go_wp2_with fail
  refine (HO.out w HA.out).mono ?_
  rintro e w1 ⟨⟨A1, c1, rfl, hS1⟩, hb1⟩
  have HB1 := Lib.hid hb1
  have S1 := Lib.hid hS1
  clear hb1 hS1
  go_wp2_with fail
  refine (HT.out A1 c1 w1 S1.out).mono ?_
  rintro e w2 ⟨rfl, hb2⟩
  have HB2 := Lib.hid (HB1.out.trans (hb2.mono HB1.out.size))
  have S2 := Lib.hid (S1.out.later hb2)
  clear hb2 HB1 S1
  clear S2
  go_wp2_with fail
  refine (HO.out w2 (HA.out.later HB2.out)).mono ?_
  rintro e w3 ⟨⟨A3, c3, rfl, hS3⟩, hb3⟩
  have HB3 := Lib.hid (HB2.out.trans (hb3.mono HB2.out.size))
  have S3 := Lib.hid hS3
  clear hb3 HB2 hS3
  go_wp2_with fail
  refine (HX.out w3).mono ?_
  rintro e wx ⟨rfl, hwx⟩
  rw [hwx]
  clear hwx wx
  go_wp2_with fail
  refine (HTR.out A3 c3 w3 S3.out).mono ?_
  rintro e w4 ⟨rfl, hb4⟩
  have HB4 := Lib.hid (HB3.out.trans (hb4.mono HB3.out.size))
  have S4 := Lib.hid (S3.out.later hb4)
  clear hb4 HB3 S3
  clear S4
  go_wp2_with fail
  refine (HG.out w4 (HA.out.later HB4.out)).mono ?_
  rintro e w5 ⟨rfl, hb5⟩
  have HB5 := Lib.hid (HB4.out.trans (hb5.mono HB4.out.size))
  clear hb5 HB4
  go_wp2_with fail
  refine (awake_calls w5).mono ?_
  rintro e w6 ⟨rfl, hb6⟩
  have HB6 := Lib.hid (HB5.out.trans (hb6.mono HB5.out.size))
  clear hb6 HB5
  go_wp2
  go_ret
  exact ⟨rfl, HB6.out⟩
set_option maxHeartbeats 8000000 in
set_option maxRecDepth 100000 in
theorem Trimmed_nos_none (A : Option Addr) (n c : Nat) (L : Nat → Int) (R : Nat → ByteArray) (s : ByteArray) (w : World) (hA : Sr w A n c L R) (hn : n ≤ 9223372036854775807) (hR : ∀ k, k < n → (R k).size ≤ 9223372036854775807) (hz : s.size ≤ 140737488351232) (hg : Gram L R n) (hs : ¬ Str s) (hu : (usefulN L R n).testBit (pn (L 0)) = false) :
    Calls Tryd.prog 8 #[.slice A n c, .string s] w fun e w' => e = .returned (.bool true) ∧ Below w.heap.size w w' := by
  have h4 : ∀ k, k < n → (R k).size ≤ 1000 := fun k hk => Nat.le_trans (hg.2 k hk).sz (by decide)
  have hn8 := hg.1.2
  have HO := Lib.hid (fun (w : World) (h : Sr w A n c L R) => Of_yes A n c L R w h hn hR hg)
  have HG := Lib.hid (fun (w : World) (h : Sr w A n c L R) => Grammar_calls A n c L R w h hn true (by simp [hg]))
  have HT := Lib.hid (fun (A' : Option Addr) (c' : Nat) (w : World) h => Trim_none A' n c' L R w h hg hu)
  have HTR := Lib.hid (fun (A' : Option Addr) (c' : Nat) (w : World) h => Trees_no A' n c' L R (cut12 s) w h (by omega) h4 (Nat.le_trans (cut12_1000 s) (by decide)) (fun q => hs (cut_str q.2)))
  have HX := Lib.hid (fun w => text_calls s (by omega) w)
  have HRS := Lib.hid (fun w => rString_calls s (by omega) w false ⟨fun h => (by cases h), fun h => absurd h hs⟩)
  have HA := Lib.hid hA
  clear hA hR hg hs h4 hu
  generalize cut12 s = s2 at HTR HX
  go_enter Tryd.func8, Tryd.ntmps8
  go_wp2_with fail
  refine (HO.out w HA.out).mono ?_
  rintro e w1 ⟨⟨A1, c1, rfl, hS1⟩, hb1⟩
  have HB1 := Lib.hid hb1
  have S1 := Lib.hid hS1
  clear hb1 hS1
  go_wp2_with fail
  refine (HT.out A1 c1 w1 S1.out).mono ?_
  rintro e w2 ⟨rfl, hb2⟩
  have HB2 := Lib.hid (HB1.out.trans (hb2.mono HB1.out.size))
  have S2 := Lib.hid (S1.out.later hb2)
  clear hb2 HB1 S1
  clear S2
  go_wp2_with fail
  refine (HO.out w2 (HA.out.later HB2.out)).mono ?_
  rintro e w3 ⟨⟨A3, c3, rfl, hS3⟩, hb3⟩
  have HB3 := Lib.hid (HB2.out.trans (hb3.mono HB2.out.size))
  have S3 := Lib.hid hS3
  clear hb3 HB2 hS3
  go_wp2_with fail
  refine (HX.out w3).mono ?_
  rintro e wx ⟨rfl, hwx⟩
  rw [hwx]
  clear hwx wx
  go_wp2_with fail
  refine (HTR.out A3 c3 w3 S3.out).mono ?_
  rintro e w4 ⟨rfl, hb4⟩
  have HB4 := Lib.hid (HB3.out.trans (hb4.mono HB3.out.size))
  have S4 := Lib.hid (S3.out.later hb4)
  clear hb4 HB3 S3
  clear S4
  go_wp2_with fail
  refine (HG.out w4 (HA.out.later HB4.out)).mono ?_
  rintro e w5 ⟨rfl, hb5⟩
  have HB5 := Lib.hid (HB4.out.trans (hb5.mono HB4.out.size))
  clear hb5 HB4
  go_wp2_with fail
  refine (HRS.out w5).mono ?_
  rintro e w6 ⟨rfl, hb6⟩
  have HB6 := Lib.hid (HB5.out.trans (hb6.mono HB5.out.size))
  clear hb6 HB5
  go_wp2_with fail
  refine (awake_calls w6).mono ?_
  rintro e w7 ⟨rfl, hb7⟩
  have HB7 := Lib.hid (HB6.out.trans (hb7.mono HB6.out.size))
  clear hb7 HB6
  go_wp2
  go_ret
  exact ⟨rfl, HB7.out⟩
set_option maxHeartbeats 8000000 in
set_option maxRecDepth 100000 in
theorem Trimmed_nos_yes (A : Option Addr) (n c : Nat) (L : Nat → Int) (R : Nat → ByteArray) (s : ByteArray) (w : World) (hA : Sr w A n c L R) (hn : n ≤ 9223372036854775807) (hR : ∀ k, k < n → (R k).size ≤ 9223372036854775807) (hz : s.size ≤ 140737488351232) (hg : Gram L R n) (hs : ¬ Str s) (hu : (usefulN L R n).testBit (pn (L 0)) = true) :
    Calls Tryd.prog 8 #[.slice A n c, .string s] w fun e w' => e = .returned (.bool true) ∧ Below w.heap.size w w' := by
  have h4 : ∀ k, k < n → (R k).size ≤ 1000 := fun k hk => Nat.le_trans (hg.2 k hk).sz (by decide)
  have hn8 := hg.1.2
  have HO := Lib.hid (fun (w : World) (h : Sr w A n c L R) => Of_yes A n c L R w h hn hR hg)
  have HG := Lib.hid (fun (w : World) (h : Sr w A n c L R) => Grammar_calls A n c L R w h hn true (by simp [hg]))
  have HT := Lib.hid (fun (A' : Option Addr) (c' : Nat) (w : World) h => Trim_yes A' n c' L R w h hg hu)
  have HTR := Lib.hid (fun (A' : Option Addr) (c' : Nat) (w : World) h => Trees_no A' n c' L R (cut12 s) w h (by omega) h4 (Nat.le_trans (cut12_1000 s) (by decide)) (fun q => hs (cut_str q.2)))
  have HX := Lib.hid (fun w => text_calls s (by omega) w)
  have HRS := Lib.hid (fun w => rString_calls s (by omega) w false ⟨fun h => (by cases h), fun h => absurd h hs⟩)
  have HA := Lib.hid hA
  clear hA hR hg hs h4 hu
  generalize cut12 s = s2 at HTR HX
  go_enter Tryd.func8, Tryd.ntmps8
  go_wp2_with fail
  refine (HO.out w HA.out).mono ?_
  rintro e w1 ⟨⟨A1, c1, rfl, hS1⟩, hb1⟩
  have HB1 := Lib.hid hb1
  have S1 := Lib.hid hS1
  clear hb1 hS1
  go_wp2_with fail
  refine (HT.out A1 c1 w1 S1.out).mono ?_
  rintro e w2 ⟨⟨g, cc, rfl, -, -⟩, hb2⟩
  have HB2 := Lib.hid (HB1.out.trans (hb2.mono HB1.out.size))
  have S2 := Lib.hid (S1.out.later hb2)
  clear hb2 HB1 S1
  clear S2
  go_wp2_with fail
  refine (HO.out w2 (HA.out.later HB2.out)).mono ?_
  rintro e w3 ⟨⟨A3, c3, rfl, hS3⟩, hb3⟩
  have HB3 := Lib.hid (HB2.out.trans (hb3.mono HB2.out.size))
  have S3 := Lib.hid hS3
  clear hb3 HB2 hS3
  go_wp2_with fail
  refine (HX.out w3).mono ?_
  rintro e wx ⟨rfl, hwx⟩
  rw [hwx]
  clear hwx wx
  go_wp2_with fail
  refine (HTR.out A3 c3 w3 S3.out).mono ?_
  rintro e w4 ⟨rfl, hb4⟩
  have HB4 := Lib.hid (HB3.out.trans (hb4.mono HB3.out.size))
  have S4 := Lib.hid (S3.out.later hb4)
  clear hb4 HB3 S3
  clear S4
  go_wp2_with fail
  refine (HG.out w4 (HA.out.later HB4.out)).mono ?_
  rintro e w5 ⟨rfl, hb5⟩
  have HB5 := Lib.hid (HB4.out.trans (hb5.mono HB4.out.size))
  clear hb5 HB4
  go_wp2_with fail
  refine (HRS.out w5).mono ?_
  rintro e w6 ⟨rfl, hb6⟩
  have HB6 := Lib.hid (HB5.out.trans (hb6.mono HB5.out.size))
  clear hb6 HB5
  go_wp2_with fail
  refine (awake_calls w6).mono ?_
  rintro e w7 ⟨rfl, hb7⟩
  have HB7 := Lib.hid (HB6.out.trans (hb7.mono HB6.out.size))
  clear hb7 HB6
  go_wp2
  go_ret
  exact ⟨rfl, HB7.out⟩
set_option maxHeartbeats 8000000 in
set_option maxRecDepth 100000 in
theorem Trimmed_none (A : Option Addr) (n c : Nat) (L : Nat → Int) (R : Nat → ByteArray) (s : ByteArray) (w : World) (hA : Sr w A n c L R) (hn : n ≤ 9223372036854775807) (hR : ∀ k, k < n → (R k).size ≤ 9223372036854775807) (hz : s.size ≤ 140737488351232) (hg : Gram L R n) (hs : Str s) (hu : (usefulN L R n).testBit (pn (L 0)) = false) :
    Calls Tryd.prog 8 #[.slice A n c, .string s] w fun e w' => e = .returned (.bool true) ∧ Below w.heap.size w w' := by
  have hs8 := hs.1
  have HO := Lib.hid (fun (w : World) (h : Sr w A n c L R) => Of_yes A n c L R w h hn hR hg)
  have HG := Lib.hid (fun (w : World) (h : Sr w A n c L R) => Grammar_calls A n c L R w h hn true (by simp [hg]))
  have HTR := Lib.hid (fun (A' : Option Addr) (c' : Nat) (w : World) h => Trees_yes A' n c' L R s w h hg hs)
  have HX := Lib.hid (fun w => text_calls s (by omega) w)
  rw [str_cut hs] at HX
  have HRS := Lib.hid (fun w => rString_calls s (by omega) w true ⟨fun _ => hs, fun _ => rfl⟩)
  have HA := Lib.hid hA
  have HT := Lib.hid (fun (A' : Option Addr) (c' : Nat) (w : World) h => Trim_none A' n c' L R w h hg hu)
  rw [none_trees hg hu] at HTR
  clear hA hR hg hs hu
  go_enter Tryd.func8, Tryd.ntmps8
  go_wp2_with fail
  refine (HO.out w HA.out).mono ?_
  rintro e w1 ⟨⟨A1, c1, rfl, hS1⟩, hb1⟩
  have HB1 := Lib.hid hb1
  have S1 := Lib.hid hS1
  clear hb1 hS1
  go_wp2_with fail
  refine (HT.out A1 c1 w1 S1.out).mono ?_
  rintro e w2 ⟨rfl, hb2⟩
  have HB2 := Lib.hid (HB1.out.trans (hb2.mono HB1.out.size))
  have S2 := Lib.hid (S1.out.later hb2)
  clear hb2 HB1 S1
  clear S2
  go_wp2_with fail
  refine (HO.out w2 (HA.out.later HB2.out)).mono ?_
  rintro e w3 ⟨⟨A3, c3, rfl, hS3⟩, hb3⟩
  have HB3 := Lib.hid (HB2.out.trans (hb3.mono HB2.out.size))
  have S3 := Lib.hid hS3
  clear hb3 HB2 hS3
  go_wp2_with fail
  refine (HX.out w3).mono ?_
  rintro e wx ⟨rfl, hwx⟩
  rw [hwx]
  clear hwx wx
  go_wp2_with fail
  refine (HTR.out A3 c3 w3 S3.out).mono ?_
  rintro e w4 ⟨rfl, hb4⟩
  have HB4 := Lib.hid (HB3.out.trans (hb4.mono HB3.out.size))
  have S4 := Lib.hid (S3.out.later hb4)
  clear hb4 HB3 S3
  clear S4
  go_wp2_with fail
  refine (HG.out w4 (HA.out.later HB4.out)).mono ?_
  rintro e w5 ⟨rfl, hb5⟩
  have HB5 := Lib.hid (HB4.out.trans (hb5.mono HB4.out.size))
  clear hb5 HB4
  go_wp2_with fail
  refine (HRS.out w5).mono ?_
  rintro e w6 ⟨rfl, hb6⟩
  have HB6 := Lib.hid (HB5.out.trans (hb6.mono HB5.out.size))
  clear hb6 HB5
  go_wp2_with fail
  refine (awake_calls w6).mono ?_
  rintro e w7 ⟨rfl, hb7⟩
  have HB7 := Lib.hid (HB6.out.trans (hb7.mono HB6.out.size))
  clear hb7 HB6
  go_wp2
  go_ret
  exact ⟨rfl, HB7.out⟩
set_option maxHeartbeats 8000000 in
set_option maxRecDepth 100000 in
theorem Trimmed_yes (A : Option Addr) (n c : Nat) (L : Nat → Int) (R : Nat → ByteArray) (s : ByteArray) (w : World) (hA : Sr w A n c L R) (hn : n ≤ 9223372036854775807) (hR : ∀ k, k < n → (R k).size ≤ 9223372036854775807) (hz : s.size ≤ 140737488351232) (hg : Gram L R n) (hs : Str s) (hu : (usefulN L R n).testBit (pn (L 0)) = true) :
    Calls Tryd.prog 8 #[.slice A n c, .string s] w fun e w' => e = .returned (.bool true) ∧ Below w.heap.size w w' := by
  have hs8 := hs.1
  have HO := Lib.hid (fun (w : World) (h : Sr w A n c L R) => Of_yes A n c L R w h hn hR hg)
  have HG := Lib.hid (fun (w : World) (h : Sr w A n c L R) => Grammar_calls A n c L R w h hn true (by simp [hg]))
  have HTR := Lib.hid (fun (A' : Option Addr) (c' : Nat) (w : World) h => Trees_yes A' n c' L R s w h hg hs)
  have HX := Lib.hid (fun w => text_calls s (by omega) w)
  rw [str_cut hs] at HX
  have HRS := Lib.hid (fun w => rString_calls s (by omega) w true ⟨fun _ => hs, fun _ => rfl⟩)
  have HA := Lib.hid hA
  have HT := Lib.hid (fun (A' : Option Addr) (c' : Nat) (w : World) h => Trim_yes A' n c' L R w h hg hu)
  have hxg := trX_gram hg hu
  have hxa := trX_again hg hu
  have hxt := trX_trees hg hu 100 s
  have HXL : Hid ((trX L R n).length ≤ n) := Lib.hid trX_le
  have HN8 : Hid (n ≤ 8) := Lib.hid hg.1.2
  have HT2 := Lib.hid (fun (A' : Option Addr) (c' : Nat) (w : World) h => Trim_yes A' (trX L R n).length c' (lL (trX L R n)) (lR (trX L R n)) w h hxg (trX_useful hg hu))
  rw [show trimL (usefulN (lL (trX L R n)) (lR (trX L R n)) (trX L R n).length) (lL (trX L R n) 0) (rulesL (lL (trX L R n)) (lR (trX L R n)) (trX L R n).length) = trX L R n from hxa] at HT2
  have HTR2 := Lib.hid (fun (A' : Option Addr) (c' : Nat) (w : World) h => Trees_yes A' (trX L R n).length c' (lL (trX L R n)) (lR (trX L R n)) s w h hxg hs)
  rw [hxt] at HTR2
  rw [show trimL (usefulN L R n) (L 0) (rulesL L R n) = trX L R n from rfl] at HT
  have HCL := Lib.hid (fun (g c' : Nat) (w : World) (h : RowB w g c' (trX L R n)) => cloneX_calls g c' w h hxg.1.1 (by have := hxg.1.2; omega))
  clear hA hR hg hs hu hxg hxa hxt
  generalize treesN 100 L R n s = N at HTR HTR2
  generalize trX L R n = X at HT HT2 HTR2 HXL HCL
  have hXn : (X.length : Int) ≤ (n : Int) := by have := HXL.out; omega
  go_enter Tryd.func8, Tryd.ntmps8
  go_wp2_with fail
  refine (HO.out w HA.out).mono ?_
  rintro e w1 ⟨⟨A1, c1, rfl, hS1⟩, hb1⟩
  have HB1 := Lib.hid hb1
  have S1 := Lib.hid hS1
  clear hb1 hS1
  go_wp2_with fail
  refine (HT.out A1 c1 w1 S1.out).mono ?_
  rintro e w2 ⟨⟨g, cc, rfl, -, hr⟩, hb2⟩
  have HB2 := Lib.hid (HB1.out.trans (hb2.mono HB1.out.size))
  have S2 := Lib.hid (S1.out.later hb2)
  have X2 := Lib.hid hr
  clear hb2 HB1 S1 hr
  clear S2
  go_wp2_with fail
  refine (HO.out w2 (HA.out.later HB2.out)).mono ?_
  rintro e w3 ⟨⟨A3, c3, rfl, hS3⟩, hb3⟩
  have HB3 := Lib.hid (HB2.out.trans (hb3.mono HB2.out.size))
  have X3 := Lib.hid (X2.out.later hb3)
  have S3 := Lib.hid hS3
  clear hb3 HB2 X2 hS3
  go_wp2_with fail
  refine (HX.out w3).mono ?_
  rintro e wx ⟨rfl, hwx⟩
  rw [hwx]
  clear hwx wx
  go_wp2_with fail
  refine (HTR.out A3 c3 w3 S3.out).mono ?_
  rintro e w4 ⟨rfl, hb4⟩
  have HB4 := Lib.hid (HB3.out.trans (hb4.mono HB3.out.size))
  have X4 := Lib.hid (X3.out.later hb4)
  have S4 := Lib.hid (S3.out.later hb4)
  clear hb4 HB3 X3 S3
  clear S4
  go_wp2_with fail
  refine (HG.out w4 (HA.out.later HB4.out)).mono ?_
  rintro e w5 ⟨rfl, hb5⟩
  have HB5 := Lib.hid (HB4.out.trans (hb5.mono HB4.out.size))
  have X5 := Lib.hid (X4.out.later hb5)
  clear hb5 HB4 X4
  go_wp2_with fail
  refine (HRS.out w5).mono ?_
  rintro e w6 ⟨rfl, hb6⟩
  have HB6 := Lib.hid (HB5.out.trans (hb6.mono HB5.out.size))
  have X6 := Lib.hid (X5.out.later hb6)
  clear hb6 HB5 X5
  go_wp2_with fail
  refine (HCL.out g cc w6 X6.out).mono ?_
  rintro e w7 ⟨⟨g1, cc1, rfl, -, hy⟩, hb7⟩
  have HB7 := Lib.hid (HB6.out.trans (hb7.mono HB6.out.size))
  have X7 := Lib.hid (X6.out.later hb7)
  have Y7 := Lib.hid hy
  clear hb7 HB6 X6 hy
  go_wp2_with fail
  refine (HT2.out _ cc1 w7 (rowB_sr Y7.out)).mono ?_
  rintro e w8 ⟨⟨g2, cc2, rfl, -, hv⟩, hb8⟩
  have HB8 := Lib.hid (HB7.out.trans (hb8.mono HB7.out.size))
  have X8 := Lib.hid (X7.out.later hb8)
  have Y8 := Lib.hid (Y7.out.later hb8)
  have V8 := Lib.hid hv
  clear hb8 HB7 X7 Y7 hv
  clear Y8
  go_wp2_with fail
  refine (HCL.out g cc w8 X8.out).mono ?_
  rintro e w9 ⟨⟨g3, cc3, rfl, -, hy⟩, hb9⟩
  have HB9 := Lib.hid (HB8.out.trans (hb9.mono HB8.out.size))
  have X9 := Lib.hid (X8.out.later hb9)
  have V9 := Lib.hid (V8.out.later hb9)
  have Y9 := Lib.hid hy
  clear hb9 HB8 X8 V8 hy
  go_wp2_with fail
  refine (HTR2.out _ cc3 w9 (rowB_sr Y9.out)).mono ?_
  rintro e w10 ⟨rfl, hb10⟩
  have HB10 := Lib.hid (HB9.out.trans (hb10.mono HB9.out.size))
  have X10 := Lib.hid (X9.out.later hb10)
  have V10 := Lib.hid (V9.out.later hb10)
  have Y10 := Lib.hid (Y9.out.later hb10)
  clear hb10 HB9 X9 V9 Y9
  clear Y10
  go_wp2_with fail
  refine (eqTrim_same (rowB_sr V10.out) (rowB_sr X10.out) (by have := HXL.out; have := HN8.out; omega)).mono ?_
  rintro e w11 ⟨rfl, hb11⟩
  have HB11 := Lib.hid (HB10.out.trans (hb11.mono HB10.out.size))
  have X11 := Lib.hid (X10.out.later hb11)
  have V11 := Lib.hid (V10.out.later hb11)
  clear hb11 HB10 X10 V10
  clear V11
  clear X11
  go_wp2_with fail
  refine (awake_calls w11).mono ?_
  rintro e w12 ⟨rfl, hb12⟩
  have HB12 := Lib.hid (HB11.out.trans (hb12.mono HB11.out.size))
  clear hb12 HB11
  go_wp2
  go_ret
  exact ⟨rfl, HB12.out⟩
theorem TablesTrimmed.calls (A : Option Addr) (n c : Nat) (L : Nat → Int) (R : Nat → ByteArray) (s : ByteArray) (w : World) (hA : Sr w A n c L R) (hR : ∀ k, k < n → (R k).size ≤ 9223372036854775807) (hn : n ≤ 9223372036854775807) (hc : c ≤ 9223372036854775807) (hz : s.size ≤ 140737488351232) :
    Calls Tryd.prog 8 #[.slice A n c, .string s] w fun e w' => e = .returned (.bool true) ∧ Below w.heap.size w w' := by
  by_cases hg : Gram L R n
  · by_cases hs : Str s
    · cases hu : (usefulN L R n).testBit (pn (L 0)) with
      | true => exact Trimmed_yes A n c L R s w hA hn hR hz hg hs hu
      | false => exact Trimmed_none A n c L R s w hA hn hR hz hg hs hu
    · cases hu : (usefulN L R n).testBit (pn (L 0)) with
      | true => exact Trimmed_nos_yes A n c L R s w hA hn hR hz hg hs hu
      | false => exact Trimmed_nos_none A n c L R s w hA hn hR hz hg hs hu
  · exact Trimmed_nog A n c L R s w hA hn hR hz hg
end Go.Proofs.YtjpfalanoifpbaaDoor.X
end
