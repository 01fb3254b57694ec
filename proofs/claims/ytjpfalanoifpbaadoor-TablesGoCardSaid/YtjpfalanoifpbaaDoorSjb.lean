/- Texts of this claim, merged by a program (wip/tools/shake.py); what nothing names is left out. -/
import Derived.WideKeyPair
import Derived.Deep.Slices
import Derived.OpenShut
import Derived.DataElems
import Derived.MapKept
import Derived.Laws.IdiomRangeMap
import Derived.KernelRfl
import Derived.Laws.StructEq
import Derived.Laws.Cover2
import Derived.Maps.RangeRun
import Derived.Shelf.SlSortCmp.InsertionK
import Derived.Shelf.SlSortCmp.WholeK
import Derived.Test.YtjpfalanoifpbaaDoorSja
section
set_option linter.unusedVariables false
set_option linter.unusedSimpArgs false
namespace Go.Proofs.YtjpfalanoifpbaaDoor.X
open Go.RowKit Go.Proofs.YtjpfalanoifpbaaDoorW.PrintWords Go.Proofs.YtjpfalanoifpbaaDoorW.PrintLast Go.Proofs.YtjpfalanoifpbaaDoorW.PrintMore Go.Proofs.YtjpfalanoifpbaaDoor.T
theorem dropWhile_nil {α : Type} (p : α → Bool) : ∀ l : List α, l.dropWhile p = [] ↔ ∀ x ∈ l, p x = true
  | [] => by simp
  | a :: l => by
    rw [List.dropWhile_cons]
    by_cases h : p a = true
    · rw [if_pos h, dropWhile_nil p l]
      simp [h]
    · rw [if_neg h]
      simp [h]
theorem dropWhile_head {α : Type} (p : α → Bool) : ∀ (l : List α) a r, l.dropWhile p = a :: r → ¬ p a = true
  | [], _, _, h => by simp at h
  | b :: l, a, r, h => by
    rw [List.dropWhile_cons] at h
    by_cases hb : p b = true
    · rw [if_pos hb] at h
      exact dropWhile_head p l a r h
    · rw [if_neg hb] at h
      injection h with h1 h2
      rw [← h1]
      exact hb
theorem trim_nil (l cs : List UInt8) : Lib.trimS l cs = [] ↔ ∀ x ∈ l, cs.contains x = true := by
  unfold Lib.trimS Lib.trimLeftS Lib.trimRightS
  rw [dropWhile_nil]
  constructor
  · intro h
    have h2 : l.reverse.dropWhile (cs.contains ·) = [] := by
      cases e : l.reverse.dropWhile (cs.contains ·) with
      | nil => rfl
      | cons a r =>
        have ha : ¬ cs.contains a = true := dropWhile_head (cs.contains ·) _ _ _ e
        exact absurd (h a (by rw [e]; simp)) ha
    rw [dropWhile_nil] at h2
    exact fun x hx => h2 x (by simpa using hx)
  · intro h x hx
    exact h x (by simpa using (List.dropWhile_sublist _).subset (List.mem_reverse.1 hx))
section
variable {P : Program} {md : Region.Mode} {ops : Array Oper} {Q : Exit → Act → World → Prop} {S : World → Prop} {ds : List Nat}
theorem off_ {i : Nat} {N : Option Tmp} {oi : Oper} {fuel : Nat} {l : Array Bool} {a : Act} {w : World} (l' : Array Bool) (hi : ops[i]? = some oi) (hN : oi.dst = N) (hc : anyB md ops l l' i = true)
    (hQ : ∀ c a w, Q (.panic c) (a.put oi.dst undef) w → Q (.panic c) a w) (hw : Region.wanted oi (yielded ops a.tmps) = false) {a' : Act} (ha : a.put N undef = a')
    (h : wpAnyLast P md ops Q S ds fuel l' a' w) : wpAnyLast P md ops Q S ds (fuel + 1) l a w := pure_ l' hi hN hc hQ (Or.inr ⟨hw, rfl⟩) ha h
end
def lettersC : List UInt8 := [65, 66, 67, 68, 69, 97, 98, 99, 100]
theorem let_iff (x : UInt8) : lettersC.contains x = true ↔ isP (x.toNat : Int) = true ∨ isD (x.toNat : Int) = true := by
  rw [isP_iff, isD_iff]
  unfold lettersC
  simp only [List.contains_iff_mem, List.mem_cons, List.not_mem_nil, or_false]
  constructor
  · rintro (h | h | h | h | h | h | h | h | h) <;> rw [h] <;> decide
  · intro h
    have key : ∀ n : Nat, n < 256 → ((65 ≤ (n : Int) ∧ (n : Int) ≤ 69) ∨ (97 ≤ (n : Int) ∧ (n : Int) ≤ 100)) → n = 65 ∨ n = 66 ∨ n = 67 ∨ n = 68 ∨ n = 69 ∨ n = 97 ∨ n = 98 ∨ n = 99 ∨ n = 100 := fun n _ _ => by omega
    have := key x.toNat x.toNat_lt h
    have hx : ∀ m : UInt8, x.toNat = m.toNat → x = m := fun m e => UInt8.toNat_inj.1 e
    rcases this with e | e | e | e | e | e | e | e | e
    · exact .inl (hx 65 e)
    · exact .inr (.inl (hx 66 e))
    · exact .inr (.inr (.inl (hx 67 e)))
    · exact .inr (.inr (.inr (.inl (hx 68 e))))
    · exact .inr (.inr (.inr (.inr (.inl (hx 69 e)))))
    · exact .inr (.inr (.inr (.inr (.inr (.inl (hx 97 e))))))
    · exact .inr (.inr (.inr (.inr (.inr (.inr (.inl (hx 98 e)))))))
    · exact .inr (.inr (.inr (.inr (.inr (.inr (.inr (.inl (hx 99 e))))))))
    · exact .inr (.inr (.inr (.inr (.inr (.inr (.inr (.inr (hx 100 e))))))))
theorem trim_ok (s : ByteArray) : Lib.trimS s.data.toList lettersC = [] ↔ okR s := by
  rw [trim_nil]
  unfold okR
  constructor
  · intro h i hi
    rw [← ch_at s i hi]
    exact (let_iff _).1 (h _ (by
      have : s[i]'hi = s.data.toList[i]'(by simpa using hi) := rfl
      rw [this]
      exact List.getElem_mem _))
  · intro h x hx
    obtain ⟨i, hi, e⟩ := List.getElem_of_mem hx
    have hs : i < s.size := by simpa using hi
    have := h i hs
    rw [← ch_at s i hs] at this
    have e2 : s[i]'hs = x := e
    rw [e2] at this
    exact (let_iff x).2 this
set_option maxHeartbeats 8000000 in
set_option maxRecDepth 100000 in
theorem valid_calls (A : Option Addr) (n c : Nat) (L : Nat → Int) (R : Nat → ByteArray) (w : World) (hA : Sr w A n c L R) (hn : n ≤ 1000) (hsz : ∀ k, k < n → (R k).size ≤ 1000) (r : Bool) (hr : r = true ↔ Gram L R n) :
    Calls Tryd.prog 58 #[.slice A n c] w fun e w' => e = .returned (.bool r) ∧ Below w.heap.size w w' := by
  have HA := Lib.hid hA
  have HR := Lib.hid hr
  have HZ := Lib.hid hsz
  clear hA hr hsz
  by_cases hn8 : 1 ≤ n ∧ n ≤ 8
  · obtain ⟨hn1, hn8⟩ := hn8
    have i1 : ¬ (n : Int) < 1 := by omega
    have i8 : ¬ (8 : Int) < n := by omega
    obtain ⟨b, off, rfl, hnc, hP⟩ := HA.out.open (by omega)
    have HP := Lib.hid hP
    clear hP
    go_enter Tryd.func58, Tryd.ntmps58
    go_wp2_with fail
    have HB := Lib.hid (Below.refl w.heap.size w)
    go_loopw [15] (fun i wr => ∃ k : Nat, k ≤ n ∧ i = .int .i64 k ∧ Hid (∀ j, j < k → RuleOk L R j) ∧ Hid (Below w.heap.size w wr)) (fun i _ => n - (intOf i).toNat)
    case atStart => exact ⟨0, by omega, rfl, Lib.hid (fun j h => by omega), HB⟩
    case round =>
      clear HB
      obtain ⟨k, hk, rfl, HK, HB⟩ := hrel
      by_cases hlt : k < n
      · have c0 := (HP.out.later HB.out).c0 k hlt
        have c1 := (HP.out.later HB.out).c1 k hlt
        have hz := HZ.out k hlt
        obtain ⟨l, hl⟩ : ∃ l, L k = l := ⟨_, rfl⟩
        obtain ⟨s, hs⟩ : ∃ s, R k = s := ⟨_, rfl⟩
        rw [hl] at c0
        rw [hs] at c1 hz
        have HLS := Lib.hid (And.intro hl hs)
        have hkc : k < c := by omega
        have hkn : k ≤ c := by omega
        have NO : Hid (¬ RuleOk L R k → r = false) := Lib.hid (fun h => by
          rw [Bool.eq_false_iff]
          exact fun q => h ((HR.out.1 q).2 k hlt))
        have HTR := Lib.hid (fun w : World => Any.strings_Trim_laid Tryd.lays160 (by kernel_rfl) s ⟨#[65, 66, 67, 68, 69, 97, 98, 99, 100]⟩ w (by omega) (by decide) (ascii_of_all (by decide)))
        clear hl hs
        go_wp2_with fail
        have hbA := below_one (w := wr) (.cells #[.int .u8 l, .string s] 60)
        obtain ⟨d0, d1⟩ := rule_new wr 60 l s
        have HBA := Lib.hid (HB.out.trans (hbA.mono HB.out.size))
        obtain ⟨w1, hw1⟩ : ∃ w1, w1 = wr.alloc (.cells #[.int .u8 l, .string s] 60) := ⟨_, rfl⟩
        rw [← hw1] at d0 d1 HBA ⊢
        have HD := Lib.hid (And.intro d0 d1)
        clear hw1 hbA c0 c1 HB
        generalize wr.heap.size = G at d0 d1 HD ⊢
        cases hp : isP l with
        | false =>
          have HRF := Lib.hid (NO.out (fun q => by have := q.p; rw [HLS.out.1, hp] at this; cases this))
          refine start_ (n := 23) (S := fun w' => w'.cell? ⟨G, 0, none⟩ = some (.int .u8 l) ∧ w'.cell? ⟨G, 1, none⟩ = some (.string s)) (ds := [21]) #[false, false, false, false, false, false, false, false, false, false, false, false, false, false, false, false, false, false, false, false, false, false, false] (by kernel_rfl) rfl rfl ⟨by simpa using d0, by simpa using d1⟩ (fun hHeld => ?_)
          refine pure_ (i := 0) (N := (some 20)) (v := ?_) (a' := ?_) #[true, false, false, false, false, false, false, false, false, false, false, false, false, false, false, false, false, false, false, false, false, false, false] rfl rfl (by kernel_rfl) (fun _ _ _ h => h) (Or.inl ⟨by rfl, ?_⟩) ?_ ?_
          rotate_left
          · intro w'; go_simp; first | done | with_reducible rfl
          rotate_left
          · simp only [Act.put, List.setIfInBounds_toArray, List.set_cons_zero, List.set_cons_succ, i64_w, i32_w]; rfl
          refine take_ (i := 1) (N := (some 21)) (v := ?_) (a' := ?_) #[true, true, false, false, false, false, false, false, false, false, false, false, false, false, false, false, false, false, false, false, false, false, false] rfl rfl (by kernel_rfl) (fun _ _ _ h => h) (Or.inl ⟨by rfl, ?_⟩) hHeld ?_ ?_
          rotate_left
          · rintro w' ⟨s0, s1⟩; go_simp; first | done | with_reducible rfl
          rotate_left
          · simp only [Act.put, List.setIfInBounds_toArray, List.set_cons_zero, List.set_cons_succ, i64_w, i32_w]; rfl
          refine one_ (i := 2) (N := (some 22)) #[true, true, true, false, false, false, false, false, false, false, false, false, false, false, false, false, false, false, false, false, false, false, false] rfl rfl (by kernel_rfl) (by decide) (fun K hK => ?_)
          refine goes_ Tryd.func79 (by kernel_rfl) rfl #[.int .u8 l] (by rfl) rfl rfl (by (try simp only [List.map_toArray, List.map_cons, List.map_nil]); first | done | rfl) ?_
          refine (isPart_calls l _).mono ?_
          rintro e w2 ⟨rfl, rfl⟩
          rw [hp]
          refine ⟨_, rfl, ?_⟩
          refine hK.out _ _ hHeld (fun hHeld => ?_)
          clear hK K
          refine norm_ (a' := ?_) ?_ ?_
          rotate_left
          · show Act.put _ (some 22) _ = _; simp only [Act.put, List.setIfInBounds_toArray, List.set_cons_zero, List.set_cons_succ, i64_w, i32_w]; rfl
          refine pure_ (i := 3) (N := (some 23)) (v := (.bool true)) (a' := ?_) #[true, true, true, true, false, false, false, false, false, false, false, false, false, false, false, false, false, false, false, false, false, false, false] rfl rfl (by kernel_rfl) (fun _ _ _ h => h) (Or.inl ⟨by rfl, ?_⟩) ?_ ?_
          · intro w'; go_simp; first | done | with_reducible rfl
          rotate_left
          · simp only [Act.put, List.setIfInBounds_toArray, List.set_cons_zero, List.set_cons_succ, i64_w, i32_w]; rfl
          refine pure_ (i := 4) (N := (some 24)) (v := ?_) (a' := ?_) #[true, true, true, true, true, false, false, false, false, false, false, false, false, false, false, false, false, false, false, false, false, false, false] rfl rfl (by kernel_rfl) (fun _ _ _ h => h) (Or.inl ⟨by rfl, ?_⟩) ?_ ?_
          rotate_left
          · intro w'; go_simp; first | done | with_reducible rfl
          rotate_left
          · simp only [Act.put, List.setIfInBounds_toArray, List.set_cons_zero, List.set_cons_succ, i64_w, i32_w]; rfl
          refine off_ (i := 5) (N := (some 25)) #[true, true, true, true, true, true, false, false, false, false, false, false, false, false, false, false, false, false, false, false, false, false, false] rfl rfl (by kernel_rfl) (fun _ _ _ h => h) (by rfl) (by simp only [Act.put, List.setIfInBounds_toArray, List.set_cons_zero, List.set_cons_succ, i64_w, i32_w]; rfl) ?_
          refine off_ (i := 6) (N := (some 26)) #[true, true, true, true, true, true, true, false, false, false, false, false, false, false, false, false, false, false, false, false, false, false, false] rfl rfl (by kernel_rfl) (fun _ _ _ h => h) (by rfl) (by simp only [Act.put, List.setIfInBounds_toArray, List.set_cons_zero, List.set_cons_succ, i64_w, i32_w]; rfl) ?_
          refine off_ (i := 7) (N := (some 27)) #[true, true, true, true, true, true, true, true, false, false, false, false, false, false, false, false, false, false, false, false, false, false, false] rfl rfl (by kernel_rfl) (fun _ _ _ h => h) (by rfl) (by simp only [Act.put, List.setIfInBounds_toArray, List.set_cons_zero, List.set_cons_succ, i64_w, i32_w]; rfl) ?_
          refine off_ (i := 8) (N := (some 28)) #[true, true, true, true, true, true, true, true, true, false, false, false, false, false, false, false, false, false, false, false, false, false, false] rfl rfl (by kernel_rfl) (fun _ _ _ h => h) (by rfl) (by simp only [Act.put, List.setIfInBounds_toArray, List.set_cons_zero, List.set_cons_succ, i64_w, i32_w]; rfl) ?_
          refine pure_ (i := 9) (N := (some 29)) (v := ?_) (a' := ?_) #[true, true, true, true, true, true, true, true, true, true, false, false, false, false, false, false, false, false, false, false, false, false, false] rfl rfl (by kernel_rfl) (fun _ _ _ h => h) (Or.inl ⟨by rfl, ?_⟩) ?_ ?_
          rotate_left
          · intro w'; go_simp; first | done | with_reducible rfl
          rotate_left
          · simp only [Act.put, List.setIfInBounds_toArray, List.set_cons_zero, List.set_cons_succ, i64_w, i32_w]; rfl
          refine pure_ (i := 10) (N := (some 30)) (v := ?_) (a' := ?_) #[true, true, true, true, true, true, true, true, true, true, true, false, false, false, false, false, false, false, false, false, false, false, false] rfl rfl (by kernel_rfl) (fun _ _ _ h => h) (Or.inl ⟨by rfl, ?_⟩) ?_ ?_
          rotate_left
          · intro w'; go_simp; first | done | with_reducible rfl
          rotate_left
          · simp only [Act.put, List.setIfInBounds_toArray, List.set_cons_zero, List.set_cons_succ, i64_w, i32_w]; rfl
          refine off_ (i := 11) (N := (some 31)) #[true, true, true, true, true, true, true, true, true, true, true, true, false, false, false, false, false, false, false, false, false, false, false] rfl rfl (by kernel_rfl) (fun _ _ _ h => h) (by rfl) (by simp only [Act.put, List.setIfInBounds_toArray, List.set_cons_zero, List.set_cons_succ, i64_w, i32_w]; rfl) ?_
          refine off_ (i := 12) (N := (some 32)) #[true, true, true, true, true, true, true, true, true, true, true, true, true, false, false, false, false, false, false, false, false, false, false] rfl rfl (by kernel_rfl) (fun _ _ _ h => h) (by rfl) (by simp only [Act.put, List.setIfInBounds_toArray, List.set_cons_zero, List.set_cons_succ, i64_w, i32_w]; rfl) ?_
          refine off_ (i := 13) (N := (some 33)) #[true, true, true, true, true, true, true, true, true, true, true, true, true, true, false, false, false, false, false, false, false, false, false] rfl rfl (by kernel_rfl) (fun _ _ _ h => h) (by rfl) (by simp only [Act.put, List.setIfInBounds_toArray, List.set_cons_zero, List.set_cons_succ, i64_w, i32_w]; rfl) ?_
          refine off_ (i := 14) (N := (some 34)) #[true, true, true, true, true, true, true, true, true, true, true, true, true, true, true, false, false, false, false, false, false, false, false] rfl rfl (by kernel_rfl) (fun _ _ _ h => h) (by rfl) (by simp only [Act.put, List.setIfInBounds_toArray, List.set_cons_zero, List.set_cons_succ, i64_w, i32_w]; rfl) ?_
          refine pure_ (i := 15) (N := (some 35)) (v := ?_) (a' := ?_) #[true, true, true, true, true, true, true, true, true, true, true, true, true, true, true, true, false, false, false, false, false, false, false] rfl rfl (by kernel_rfl) (fun _ _ _ h => h) (Or.inl ⟨by rfl, ?_⟩) ?_ ?_
          rotate_left
          · intro w'; go_simp; first | done | with_reducible rfl
          rotate_left
          · simp only [Act.put, List.setIfInBounds_toArray, List.set_cons_zero, List.set_cons_succ, i64_w, i32_w]; rfl
          refine pure_ (i := 16) (N := (some 36)) (v := ?_) (a' := ?_) #[true, true, true, true, true, true, true, true, true, true, true, true, true, true, true, true, true, false, false, false, false, false, false] rfl rfl (by kernel_rfl) (fun _ _ _ h => h) (Or.inl ⟨by rfl, ?_⟩) ?_ ?_
          rotate_left
          · intro w'; go_simp; first | done | with_reducible rfl
          rotate_left
          · simp only [Act.put, List.setIfInBounds_toArray, List.set_cons_zero, List.set_cons_succ, i64_w, i32_w]; rfl
          refine off_ (i := 17) (N := (some 37)) #[true, true, true, true, true, true, true, true, true, true, true, true, true, true, true, true, true, true, false, false, false, false, false] rfl rfl (by kernel_rfl) (fun _ _ _ h => h) (by rfl) (by simp only [Act.put, List.setIfInBounds_toArray, List.set_cons_zero, List.set_cons_succ, i64_w, i32_w]; rfl) ?_
          refine off_ (i := 18) (N := (some 38)) #[true, true, true, true, true, true, true, true, true, true, true, true, true, true, true, true, true, true, true, false, false, false, false] rfl rfl (by kernel_rfl) (fun _ _ _ h => h) (by rfl) (by simp only [Act.put, List.setIfInBounds_toArray, List.set_cons_zero, List.set_cons_succ, i64_w, i32_w]; rfl) ?_
          refine off_ (i := 19) (N := (some 39)) #[true, true, true, true, true, true, true, true, true, true, true, true, true, true, true, true, true, true, true, true, false, false, false] rfl rfl (by kernel_rfl) (fun _ _ _ h => h) (by rfl) (by simp only [Act.put, List.setIfInBounds_toArray, List.set_cons_zero, List.set_cons_succ, i64_w, i32_w]; rfl) ?_
          refine off_ (i := 20) (N := (some 40)) #[true, true, true, true, true, true, true, true, true, true, true, true, true, true, true, true, true, true, true, true, true, false, false] rfl rfl (by kernel_rfl) (fun _ _ _ h => h) (by rfl) (by simp only [Act.put, List.setIfInBounds_toArray, List.set_cons_zero, List.set_cons_succ, i64_w, i32_w]; rfl) ?_
          refine off_ (i := 21) (N := (some 41)) #[true, true, true, true, true, true, true, true, true, true, true, true, true, true, true, true, true, true, true, true, true, true, false] rfl rfl (by kernel_rfl) (fun _ _ _ h => h) (by rfl) (by simp only [Act.put, List.setIfInBounds_toArray, List.set_cons_zero, List.set_cons_succ, i64_w, i32_w]; rfl) ?_
          refine pure_ (i := 22) (N := (some 42)) (v := ?_) (a' := ?_) #[true, true, true, true, true, true, true, true, true, true, true, true, true, true, true, true, true, true, true, true, true, true, true] rfl rfl (by kernel_rfl) (fun _ _ _ h => h) (Or.inl ⟨by rfl, ?_⟩) ?_ ?_
          rotate_left
          · intro w'; go_simp; first | done | with_reducible rfl
          rotate_left
          · simp only [Act.put, List.setIfInBounds_toArray, List.set_cons_zero, List.set_cons_succ, i64_w, i32_w]; rfl
          refine done_ (by kernel_rfl) ?_
          clear hHeld d0 d1 hp
          go_wp2
          go_ret
          exact ⟨by rw [HRF.out] <;> rfl, HBA.out.drew⟩
        | true =>
          have HPP := Lib.hid hp
          by_cases h4 : s.size ≤ 4
          · have h4i : ¬ (4 : Int) < s.size := by omega
            have H4 := Lib.hid h4
            cases ht : Lib.trimS s.data.toList [65, 66, 67, 68, 69, 97, 98, 99, 100] with
            | cons x t =>
              have HRF := Lib.hid (NO.out (fun q => by
                have := (trim_ok s).2 (by have := q.ok; rw [HLS.out.2] at this; exact this)
                unfold lettersC at this
                rw [ht] at this
                cases this))
              refine start_ (n := 23) (S := fun w' => w'.cell? ⟨G, 0, none⟩ = some (.int .u8 l) ∧ w'.cell? ⟨G, 1, none⟩ = some (.string s)) (ds := [21]) #[false, false, false, false, false, false, false, false, false, false, false, false, false, false, false, false, false, false, false, false, false, false, false] (by kernel_rfl) rfl rfl ⟨by simpa using d0, by simpa using d1⟩ (fun hHeld => ?_)
              refine pure_ (i := 0) (N := (some 20)) (v := ?_) (a' := ?_) #[true, false, false, false, false, false, false, false, false, false, false, false, false, false, false, false, false, false, false, false, false, false, false] rfl rfl (by kernel_rfl) (fun _ _ _ h => h) (Or.inl ⟨by rfl, ?_⟩) ?_ ?_
              rotate_left
              · intro w'; go_simp; first | done | with_reducible rfl
              rotate_left
              · simp only [Act.put, List.setIfInBounds_toArray, List.set_cons_zero, List.set_cons_succ, i64_w, i32_w]; rfl
              refine take_ (i := 1) (N := (some 21)) (v := ?_) (a' := ?_) #[true, true, false, false, false, false, false, false, false, false, false, false, false, false, false, false, false, false, false, false, false, false, false] rfl rfl (by kernel_rfl) (fun _ _ _ h => h) (Or.inl ⟨by rfl, ?_⟩) hHeld ?_ ?_
              rotate_left
              · rintro w' ⟨s0, s1⟩; go_simp; first | done | with_reducible rfl
              rotate_left
              · simp only [Act.put, List.setIfInBounds_toArray, List.set_cons_zero, List.set_cons_succ, i64_w, i32_w]; rfl
              refine one_ (i := 2) (N := (some 22)) #[true, true, true, false, false, false, false, false, false, false, false, false, false, false, false, false, false, false, false, false, false, false, false] rfl rfl (by kernel_rfl) (by decide) (fun K hK => ?_)
              refine goes_ Tryd.func79 (by kernel_rfl) rfl #[.int .u8 l] (by rfl) rfl rfl (by (try simp only [List.map_toArray, List.map_cons, List.map_nil]); first | done | rfl) ?_
              refine (isPart_calls l _).mono ?_
              rintro e w2 ⟨rfl, rfl⟩
              rw [hp]
              refine ⟨_, rfl, ?_⟩
              refine hK.out _ _ hHeld (fun hHeld => ?_)
              clear hK K
              refine norm_ (a' := ?_) ?_ ?_
              rotate_left
              · show Act.put _ (some 22) _ = _; simp only [Act.put, List.setIfInBounds_toArray, List.set_cons_zero, List.set_cons_succ, i64_w, i32_w]; rfl
              refine pure_ (i := 3) (N := (some 23)) (v := (.bool false)) (a' := ?_) #[true, true, true, true, false, false, false, false, false, false, false, false, false, false, false, false, false, false, false, false, false, false, false] rfl rfl (by kernel_rfl) (fun _ _ _ h => h) (Or.inl ⟨by rfl, ?_⟩) ?_ ?_
              · intro w'; go_simp; first | done | with_reducible rfl
              rotate_left
              · simp only [Act.put, List.setIfInBounds_toArray, List.set_cons_zero, List.set_cons_succ, i64_w, i32_w]; rfl
              refine pure_ (i := 4) (N := (some 24)) (v := ?_) (a' := ?_) #[true, true, true, true, true, false, false, false, false, false, false, false, false, false, false, false, false, false, false, false, false, false, false] rfl rfl (by kernel_rfl) (fun _ _ _ h => h) (Or.inl ⟨by rfl, ?_⟩) ?_ ?_
              rotate_left
              · intro w'; go_simp; first | done | with_reducible rfl
              rotate_left
              · simp only [Act.put, List.setIfInBounds_toArray, List.set_cons_zero, List.set_cons_succ, i64_w, i32_w]; rfl
              refine pure_ (i := 5) (N := (some 25)) (v := ?_) (a' := ?_) #[true, true, true, true, true, true, false, false, false, false, false, false, false, false, false, false, false, false, false, false, false, false, false] rfl rfl (by kernel_rfl) (fun _ _ _ h => h) (Or.inl ⟨by rfl, ?_⟩) ?_ ?_
              rotate_left
              · intro w'; go_simp; first | done | with_reducible rfl
              rotate_left
              · simp only [Act.put, List.setIfInBounds_toArray, List.set_cons_zero, List.set_cons_succ, i64_w, i32_w]; rfl
              refine take_ (i := 6) (N := (some 26)) (v := ?_) (a' := ?_) #[true, true, true, true, true, true, true, false, false, false, false, false, false, false, false, false, false, false, false, false, false, false, false] rfl rfl (by kernel_rfl) (fun _ _ _ h => h) (Or.inl ⟨by rfl, ?_⟩) hHeld ?_ ?_
              rotate_left
              · rintro w' ⟨s0, s1⟩; go_simp; first | done | with_reducible rfl
              rotate_left
              · simp only [Act.put, List.setIfInBounds_toArray, List.set_cons_zero, List.set_cons_succ, i64_w, i32_w]; rfl
              refine pure_ (i := 7) (N := (some 27)) (v := ?_) (a' := ?_) #[true, true, true, true, true, true, true, true, false, false, false, false, false, false, false, false, false, false, false, false, false, false, false] rfl rfl (by kernel_rfl) (fun _ _ _ h => h) (Or.inl ⟨by rfl, ?_⟩) ?_ ?_
              rotate_left
              · intro w'; go_simp; first | done | with_reducible rfl
              rotate_left
              · simp only [Act.put, List.setIfInBounds_toArray, List.set_cons_zero, List.set_cons_succ, i64_w, i32_w]; rfl
              refine pure_ (i := 8) (N := (some 28)) (v := (.bool false)) (a' := ?_) #[true, true, true, true, true, true, true, true, true, false, false, false, false, false, false, false, false, false, false, false, false, false, false] rfl rfl (by kernel_rfl) (fun _ _ _ h => h) (Or.inl ⟨by rfl, ?_⟩) ?_ ?_
              · intro w'; go_simp; first | done | with_reducible rfl
              rotate_left
              · simp only [Act.put, List.setIfInBounds_toArray, List.set_cons_zero, List.set_cons_succ, i64_w, i32_w]; rfl
              refine pure_ (i := 9) (N := (some 29)) (v := ?_) (a' := ?_) #[true, true, true, true, true, true, true, true, true, true, false, false, false, false, false, false, false, false, false, false, false, false, false] rfl rfl (by kernel_rfl) (fun _ _ _ h => h) (Or.inl ⟨by rfl, ?_⟩) ?_ ?_
              rotate_left
              · intro w'; go_simp; first | done | with_reducible rfl
              rotate_left
              · simp only [Act.put, List.setIfInBounds_toArray, List.set_cons_zero, List.set_cons_succ, i64_w, i32_w]; rfl
              refine pure_ (i := 10) (N := (some 30)) (v := ?_) (a' := ?_) #[true, true, true, true, true, true, true, true, true, true, true, false, false, false, false, false, false, false, false, false, false, false, false] rfl rfl (by kernel_rfl) (fun _ _ _ h => h) (Or.inl ⟨by rfl, ?_⟩) ?_ ?_
              rotate_left
              · intro w'; go_simp; first | done | with_reducible rfl
              rotate_left
              · simp only [Act.put, List.setIfInBounds_toArray, List.set_cons_zero, List.set_cons_succ, i64_w, i32_w]; rfl
              refine pure_ (i := 11) (N := (some 31)) (v := ?_) (a' := ?_) #[true, true, true, true, true, true, true, true, true, true, true, true, false, false, false, false, false, false, false, false, false, false, false] rfl rfl (by kernel_rfl) (fun _ _ _ h => h) (Or.inl ⟨by rfl, ?_⟩) ?_ ?_
              rotate_left
              · intro w'; go_simp; first | done | with_reducible rfl
              rotate_left
              · simp only [Act.put, List.setIfInBounds_toArray, List.set_cons_zero, List.set_cons_succ, i64_w, i32_w]; rfl
              refine take_ (i := 12) (N := (some 32)) (v := ?_) (a' := ?_) #[true, true, true, true, true, true, true, true, true, true, true, true, true, false, false, false, false, false, false, false, false, false, false] rfl rfl (by kernel_rfl) (fun _ _ _ h => h) (Or.inl ⟨by rfl, ?_⟩) hHeld ?_ ?_
              rotate_left
              · rintro w' ⟨s0, s1⟩; go_simp; first | done | with_reducible rfl
              rotate_left
              · simp only [Act.put, List.setIfInBounds_toArray, List.set_cons_zero, List.set_cons_succ, i64_w, i32_w]; rfl
              refine one_ (i := 13) (N := (some 33)) #[true, true, true, true, true, true, true, true, true, true, true, true, true, true, false, false, false, false, false, false, false, false, false] rfl rfl (by kernel_rfl) (by decide) (fun K hK => ?_)
              refine goes_ Tryd.func93 (by kernel_rfl) rfl #[.string s, .string ⟨#[65, 66, 67, 68, 69, 97, 98, 99, 100]⟩] (by rfl) rfl rfl (by (try simp only [List.map_toArray, List.map_cons, List.map_nil]); first | done | rfl) ?_
              refine (HTR.out _).mono ?_
              rintro e w3 ⟨rfl, hb3⟩
              have HB3 := Lib.hid (HBA.out.drew.trans (hb3.mono HBA.out.drew.size))
              have d2 := (hb3.cell (p := ⟨G, 0, none⟩) (World.block_lt_of_cell? _ _ hHeld.1)).trans hHeld.1
              have d3 := (hb3.cell (p := ⟨G, 1, none⟩) (World.block_lt_of_cell? _ _ hHeld.2)).trans hHeld.2
              rw [ht]
              refine ⟨_, rfl, ?_⟩
              refine hK.out _ _ ⟨d2, d3⟩ (fun hHeld => ?_)
              clear hK K
              refine norm_ (a' := ?_) ?_ ?_
              rotate_left
              · show Act.put _ (some 33) _ = _; simp only [Act.put, List.setIfInBounds_toArray, List.set_cons_zero, List.set_cons_succ, i64_w, i32_w]; rfl
              refine pure_ (i := 14) (N := (some 34)) (v := (.bool true)) (a' := ?_) #[true, true, true, true, true, true, true, true, true, true, true, true, true, true, true, false, false, false, false, false, false, false, false] rfl rfl (by kernel_rfl) (fun _ _ _ h => h) (Or.inl ⟨by rfl, ?_⟩) ?_ ?_
              · intro w'; go_simp; first | done | with_reducible rfl
              rotate_left
              · simp only [Act.put, List.setIfInBounds_toArray, List.set_cons_zero, List.set_cons_succ, i64_w, i32_w]; rfl
              refine pure_ (i := 15) (N := (some 35)) (v := ?_) (a' := ?_) #[true, true, true, true, true, true, true, true, true, true, true, true, true, true, true, true, false, false, false, false, false, false, false] rfl rfl (by kernel_rfl) (fun _ _ _ h => h) (Or.inl ⟨by rfl, ?_⟩) ?_ ?_
              rotate_left
              · intro w'; go_simp; first | done | with_reducible rfl
              rotate_left
              · simp only [Act.put, List.setIfInBounds_toArray, List.set_cons_zero, List.set_cons_succ, i64_w, i32_w]; rfl
              refine pure_ (i := 16) (N := (some 36)) (v := ?_) (a' := ?_) #[true, true, true, true, true, true, true, true, true, true, true, true, true, true, true, true, true, false, false, false, false, false, false] rfl rfl (by kernel_rfl) (fun _ _ _ h => h) (Or.inl ⟨by rfl, ?_⟩) ?_ ?_
              rotate_left
              · intro w'; go_simp; first | done | with_reducible rfl
              rotate_left
              · simp only [Act.put, List.setIfInBounds_toArray, List.set_cons_zero, List.set_cons_succ, i64_w, i32_w]; rfl
              refine off_ (i := 17) (N := (some 37)) #[true, true, true, true, true, true, true, true, true, true, true, true, true, true, true, true, true, true, false, false, false, false, false] rfl rfl (by kernel_rfl) (fun _ _ _ h => h) (by rfl) (by simp only [Act.put, List.setIfInBounds_toArray, List.set_cons_zero, List.set_cons_succ, i64_w, i32_w]; rfl) ?_
              refine off_ (i := 18) (N := (some 38)) #[true, true, true, true, true, true, true, true, true, true, true, true, true, true, true, true, true, true, true, false, false, false, false] rfl rfl (by kernel_rfl) (fun _ _ _ h => h) (by rfl) (by simp only [Act.put, List.setIfInBounds_toArray, List.set_cons_zero, List.set_cons_succ, i64_w, i32_w]; rfl) ?_
              refine off_ (i := 19) (N := (some 39)) #[true, true, true, true, true, true, true, true, true, true, true, true, true, true, true, true, true, true, true, true, false, false, false] rfl rfl (by kernel_rfl) (fun _ _ _ h => h) (by rfl) (by simp only [Act.put, List.setIfInBounds_toArray, List.set_cons_zero, List.set_cons_succ, i64_w, i32_w]; rfl) ?_
              refine off_ (i := 20) (N := (some 40)) #[true, true, true, true, true, true, true, true, true, true, true, true, true, true, true, true, true, true, true, true, true, false, false] rfl rfl (by kernel_rfl) (fun _ _ _ h => h) (by rfl) (by simp only [Act.put, List.setIfInBounds_toArray, List.set_cons_zero, List.set_cons_succ, i64_w, i32_w]; rfl) ?_
              refine off_ (i := 21) (N := (some 41)) #[true, true, true, true, true, true, true, true, true, true, true, true, true, true, true, true, true, true, true, true, true, true, false] rfl rfl (by kernel_rfl) (fun _ _ _ h => h) (by rfl) (by simp only [Act.put, List.setIfInBounds_toArray, List.set_cons_zero, List.set_cons_succ, i64_w, i32_w]; rfl) ?_
              refine pure_ (i := 22) (N := (some 42)) (v := ?_) (a' := ?_) #[true, true, true, true, true, true, true, true, true, true, true, true, true, true, true, true, true, true, true, true, true, true, true] rfl rfl (by kernel_rfl) (fun _ _ _ h => h) (Or.inl ⟨by rfl, ?_⟩) ?_ ?_
              rotate_left
              · intro w'; go_simp; first | done | with_reducible rfl
              rotate_left
              · simp only [Act.put, List.setIfInBounds_toArray, List.set_cons_zero, List.set_cons_succ, i64_w, i32_w]; rfl
              refine done_ (by kernel_rfl) ?_
              clear hHeld d0 d1 d2 d3 hp ht
              go_wp2
              go_ret
              exact ⟨by rw [HRF.out] <;> rfl, HB3.out⟩
            | nil =>
              have HOK : Hid (okR s) := Lib.hid ((trim_ok s).1 ht)
              obtain ⟨g, hg⟩ : ∃ g : Bool, g = true ↔ ∃ j, j < k ∧ sameR l (L j) s (R j) = true := by
                by_cases q : ∃ j, j < k ∧ sameR l (L j) s (R j) = true
                · exact ⟨true, ⟨fun _ => q, fun _ => rfl⟩⟩
                · exact ⟨false, ⟨fun h => (by cases h), fun h => absurd h q⟩⟩
              have HGG := Lib.hid hg
              clear hg
              refine start_ (n := 23) (S := fun w' => w'.cell? ⟨G, 0, none⟩ = some (.int .u8 l) ∧ w'.cell? ⟨G, 1, none⟩ = some (.string s)) (ds := [21]) #[false, false, false, false, false, false, false, false, false, false, false, false, false, false, false, false, false, false, false, false, false, false, false] (by kernel_rfl) rfl rfl ⟨by simpa using d0, by simpa using d1⟩ (fun hHeld => ?_)
              refine pure_ (i := 0) (N := (some 20)) (v := ?_) (a' := ?_) #[true, false, false, false, false, false, false, false, false, false, false, false, false, false, false, false, false, false, false, false, false, false, false] rfl rfl (by kernel_rfl) (fun _ _ _ h => h) (Or.inl ⟨by rfl, ?_⟩) ?_ ?_
              rotate_left
              · intro w'; go_simp; first | done | with_reducible rfl
              rotate_left
              · simp only [Act.put, List.setIfInBounds_toArray, List.set_cons_zero, List.set_cons_succ, i64_w, i32_w]; rfl
              refine take_ (i := 1) (N := (some 21)) (v := ?_) (a' := ?_) #[true, true, false, false, false, false, false, false, false, false, false, false, false, false, false, false, false, false, false, false, false, false, false] rfl rfl (by kernel_rfl) (fun _ _ _ h => h) (Or.inl ⟨by rfl, ?_⟩) hHeld ?_ ?_
              rotate_left
              · rintro w' ⟨s0, s1⟩; go_simp; first | done | with_reducible rfl
              rotate_left
              · simp only [Act.put, List.setIfInBounds_toArray, List.set_cons_zero, List.set_cons_succ, i64_w, i32_w]; rfl
              refine one_ (i := 2) (N := (some 22)) #[true, true, true, false, false, false, false, false, false, false, false, false, false, false, false, false, false, false, false, false, false, false, false] rfl rfl (by kernel_rfl) (by decide) (fun K hK => ?_)
              refine goes_ Tryd.func79 (by kernel_rfl) rfl #[.int .u8 l] (by rfl) rfl rfl (by (try simp only [List.map_toArray, List.map_cons, List.map_nil]); first | done | rfl) ?_
              refine (isPart_calls l _).mono ?_
              rintro e w2 ⟨rfl, rfl⟩
              rw [hp]
              refine ⟨_, rfl, ?_⟩
              refine hK.out _ _ hHeld (fun hHeld => ?_)
              clear hK K
              refine norm_ (a' := ?_) ?_ ?_
              rotate_left
              · show Act.put _ (some 22) _ = _; simp only [Act.put, List.setIfInBounds_toArray, List.set_cons_zero, List.set_cons_succ, i64_w, i32_w]; rfl
              refine pure_ (i := 3) (N := (some 23)) (v := (.bool false)) (a' := ?_) #[true, true, true, true, false, false, false, false, false, false, false, false, false, false, false, false, false, false, false, false, false, false, false] rfl rfl (by kernel_rfl) (fun _ _ _ h => h) (Or.inl ⟨by rfl, ?_⟩) ?_ ?_
              · intro w'; go_simp; first | done | with_reducible rfl
              rotate_left
              · simp only [Act.put, List.setIfInBounds_toArray, List.set_cons_zero, List.set_cons_succ, i64_w, i32_w]; rfl
              refine pure_ (i := 4) (N := (some 24)) (v := ?_) (a' := ?_) #[true, true, true, true, true, false, false, false, false, false, false, false, false, false, false, false, false, false, false, false, false, false, false] rfl rfl (by kernel_rfl) (fun _ _ _ h => h) (Or.inl ⟨by rfl, ?_⟩) ?_ ?_
              rotate_left
              · intro w'; go_simp; first | done | with_reducible rfl
              rotate_left
              · simp only [Act.put, List.setIfInBounds_toArray, List.set_cons_zero, List.set_cons_succ, i64_w, i32_w]; rfl
              refine pure_ (i := 5) (N := (some 25)) (v := ?_) (a' := ?_) #[true, true, true, true, true, true, false, false, false, false, false, false, false, false, false, false, false, false, false, false, false, false, false] rfl rfl (by kernel_rfl) (fun _ _ _ h => h) (Or.inl ⟨by rfl, ?_⟩) ?_ ?_
              rotate_left
              · intro w'; go_simp; first | done | with_reducible rfl
              rotate_left
              · simp only [Act.put, List.setIfInBounds_toArray, List.set_cons_zero, List.set_cons_succ, i64_w, i32_w]; rfl
              refine take_ (i := 6) (N := (some 26)) (v := ?_) (a' := ?_) #[true, true, true, true, true, true, true, false, false, false, false, false, false, false, false, false, false, false, false, false, false, false, false] rfl rfl (by kernel_rfl) (fun _ _ _ h => h) (Or.inl ⟨by rfl, ?_⟩) hHeld ?_ ?_
              rotate_left
              · rintro w' ⟨s0, s1⟩; go_simp; first | done | with_reducible rfl
              rotate_left
              · simp only [Act.put, List.setIfInBounds_toArray, List.set_cons_zero, List.set_cons_succ, i64_w, i32_w]; rfl
              refine pure_ (i := 7) (N := (some 27)) (v := ?_) (a' := ?_) #[true, true, true, true, true, true, true, true, false, false, false, false, false, false, false, false, false, false, false, false, false, false, false] rfl rfl (by kernel_rfl) (fun _ _ _ h => h) (Or.inl ⟨by rfl, ?_⟩) ?_ ?_
              rotate_left
              · intro w'; go_simp; first | done | with_reducible rfl
              rotate_left
              · simp only [Act.put, List.setIfInBounds_toArray, List.set_cons_zero, List.set_cons_succ, i64_w, i32_w]; rfl
              refine pure_ (i := 8) (N := (some 28)) (v := (.bool false)) (a' := ?_) #[true, true, true, true, true, true, true, true, true, false, false, false, false, false, false, false, false, false, false, false, false, false, false] rfl rfl (by kernel_rfl) (fun _ _ _ h => h) (Or.inl ⟨by rfl, ?_⟩) ?_ ?_
              · intro w'; go_simp; first | done | with_reducible rfl
              rotate_left
              · simp only [Act.put, List.setIfInBounds_toArray, List.set_cons_zero, List.set_cons_succ, i64_w, i32_w]; rfl
              refine pure_ (i := 9) (N := (some 29)) (v := ?_) (a' := ?_) #[true, true, true, true, true, true, true, true, true, true, false, false, false, false, false, false, false, false, false, false, false, false, false] rfl rfl (by kernel_rfl) (fun _ _ _ h => h) (Or.inl ⟨by rfl, ?_⟩) ?_ ?_
              rotate_left
              · intro w'; go_simp; first | done | with_reducible rfl
              rotate_left
              · simp only [Act.put, List.setIfInBounds_toArray, List.set_cons_zero, List.set_cons_succ, i64_w, i32_w]; rfl
              refine pure_ (i := 10) (N := (some 30)) (v := ?_) (a' := ?_) #[true, true, true, true, true, true, true, true, true, true, true, false, false, false, false, false, false, false, false, false, false, false, false] rfl rfl (by kernel_rfl) (fun _ _ _ h => h) (Or.inl ⟨by rfl, ?_⟩) ?_ ?_
              rotate_left
              · intro w'; go_simp; first | done | with_reducible rfl
              rotate_left
              · simp only [Act.put, List.setIfInBounds_toArray, List.set_cons_zero, List.set_cons_succ, i64_w, i32_w]; rfl
              refine pure_ (i := 11) (N := (some 31)) (v := ?_) (a' := ?_) #[true, true, true, true, true, true, true, true, true, true, true, true, false, false, false, false, false, false, false, false, false, false, false] rfl rfl (by kernel_rfl) (fun _ _ _ h => h) (Or.inl ⟨by rfl, ?_⟩) ?_ ?_
              rotate_left
              · intro w'; go_simp; first | done | with_reducible rfl
              rotate_left
              · simp only [Act.put, List.setIfInBounds_toArray, List.set_cons_zero, List.set_cons_succ, i64_w, i32_w]; rfl
              refine take_ (i := 12) (N := (some 32)) (v := ?_) (a' := ?_) #[true, true, true, true, true, true, true, true, true, true, true, true, true, false, false, false, false, false, false, false, false, false, false] rfl rfl (by kernel_rfl) (fun _ _ _ h => h) (Or.inl ⟨by rfl, ?_⟩) hHeld ?_ ?_
              rotate_left
              · rintro w' ⟨s0, s1⟩; go_simp; first | done | with_reducible rfl
              rotate_left
              · simp only [Act.put, List.setIfInBounds_toArray, List.set_cons_zero, List.set_cons_succ, i64_w, i32_w]; rfl
              refine one_ (i := 13) (N := (some 33)) #[true, true, true, true, true, true, true, true, true, true, true, true, true, true, false, false, false, false, false, false, false, false, false] rfl rfl (by kernel_rfl) (by decide) (fun K hK => ?_)
              refine goes_ Tryd.func93 (by kernel_rfl) rfl #[.string s, .string ⟨#[65, 66, 67, 68, 69, 97, 98, 99, 100]⟩] (by rfl) rfl rfl (by (try simp only [List.map_toArray, List.map_cons, List.map_nil]); first | done | rfl) ?_
              refine (HTR.out _).mono ?_
              rintro e w3 ⟨rfl, hb3⟩
              have HB3 := Lib.hid (HBA.out.drew.trans (hb3.mono HBA.out.drew.size))
              have d2 := (hb3.cell (p := ⟨G, 0, none⟩) (World.block_lt_of_cell? _ _ hHeld.1)).trans hHeld.1
              have d3 := (hb3.cell (p := ⟨G, 1, none⟩) (World.block_lt_of_cell? _ _ hHeld.2)).trans hHeld.2
              rw [ht]
              refine ⟨_, rfl, ?_⟩
              refine hK.out _ _ ⟨d2, d3⟩ (fun hHeld => ?_)
              clear hK K
              refine norm_ (a' := ?_) ?_ ?_
              rotate_left
              · show Act.put _ (some 33) _ = _; simp only [Act.put, List.setIfInBounds_toArray, List.set_cons_zero, List.set_cons_succ, i64_w, i32_w]; rfl
              refine pure_ (i := 14) (N := (some 34)) (v := (.bool false)) (a' := ?_) #[true, true, true, true, true, true, true, true, true, true, true, true, true, true, true, false, false, false, false, false, false, false, false] rfl rfl (by kernel_rfl) (fun _ _ _ h => h) (Or.inl ⟨by rfl, ?_⟩) ?_ ?_
              · intro w'; go_simp; first | done | with_reducible rfl
              rotate_left
              · simp only [Act.put, List.setIfInBounds_toArray, List.set_cons_zero, List.set_cons_succ, i64_w, i32_w]; rfl
              refine pure_ (i := 15) (N := (some 35)) (v := ?_) (a' := ?_) #[true, true, true, true, true, true, true, true, true, true, true, true, true, true, true, true, false, false, false, false, false, false, false] rfl rfl (by kernel_rfl) (fun _ _ _ h => h) (Or.inl ⟨by rfl, ?_⟩) ?_ ?_
              rotate_left
              · intro w'; go_simp; first | done | with_reducible rfl
              rotate_left
              · simp only [Act.put, List.setIfInBounds_toArray, List.set_cons_zero, List.set_cons_succ, i64_w, i32_w]; rfl
              refine pure_ (i := 16) (N := (some 36)) (v := ?_) (a' := ?_) #[true, true, true, true, true, true, true, true, true, true, true, true, true, true, true, true, true, false, false, false, false, false, false] rfl rfl (by kernel_rfl) (fun _ _ _ h => h) (Or.inl ⟨by rfl, ?_⟩) ?_ ?_
              rotate_left
              · intro w'; go_simp; first | done | with_reducible rfl
              rotate_left
              · simp only [Act.put, List.setIfInBounds_toArray, List.set_cons_zero, List.set_cons_succ, i64_w, i32_w]; rfl
              refine pure_ (i := 17) (N := (some 37)) (v := ?_) (a' := ?_) #[true, true, true, true, true, true, true, true, true, true, true, true, true, true, true, true, true, true, false, false, false, false, false] rfl rfl (by kernel_rfl) (fun _ _ _ h => h) (Or.inl ⟨by rfl, ?_⟩) ?_ ?_
              rotate_left
              · intro w'; go_simp; first | done | with_reducible rfl
              rotate_left
              · simp only [Act.put, List.setIfInBounds_toArray, List.set_cons_zero, List.set_cons_succ, i64_w, i32_w]; rfl
              refine pure_ (i := 18) (N := (some 38)) (v := ?_) (a' := ?_) #[true, true, true, true, true, true, true, true, true, true, true, true, true, true, true, true, true, true, true, false, false, false, false] rfl rfl (by kernel_rfl) (fun _ _ _ h => h) (Or.inl ⟨by rfl, ?_⟩) ?_ ?_
              rotate_left
              · intro w'; go_simp; first | done | with_reducible rfl
              rotate_left
              · simp only [Act.put, List.setIfInBounds_toArray, List.set_cons_zero, List.set_cons_succ, i64_w, i32_w]; rfl
              refine pure_ (i := 19) (N := (some 39)) (v := ?_) (a' := ?_) #[true, true, true, true, true, true, true, true, true, true, true, true, true, true, true, true, true, true, true, true, false, false, false] rfl rfl (by kernel_rfl) (fun _ _ _ h => h) (Or.inl ⟨by rfl, ?_⟩) ?_ ?_
              rotate_left
              · intro w'; go_simp; first | done | with_reducible rfl
              rotate_left
              · simp only [Act.put, List.setIfInBounds_toArray, List.set_cons_zero, List.set_cons_succ, i64_w, i32_w]; rfl
              refine take_ (i := 20) (N := (some 40)) (v := ?_) (a' := ?_) #[true, true, true, true, true, true, true, true, true, true, true, true, true, true, true, true, true, true, true, true, true, false, false] rfl rfl (by kernel_rfl) (fun _ _ _ h => h) (Or.inl ⟨by rfl, ?_⟩) hHeld ?_ ?_
              rotate_left
              · rintro w' ⟨s0, s1⟩; go_simp; first | done | with_reducible rfl
              rotate_left
              · simp only [Act.put, List.setIfInBounds_toArray, List.set_cons_zero, List.set_cons_succ, i64_w, i32_w]; rfl
              refine last_ (i := 21) (N := (some 41)) #[true, true, true, true, true, true, true, true, true, true, true, true, true, true, true, true, true, true, true, true, true, true, false] rfl rfl (by kernel_rfl) (by decide) (fun K hK => ?_)
              refine goes_ Tryd.func94 (by kernel_rfl) rfl #[.slice (some ⟨b, off, none⟩) k c, .agg #[.int .u8 l, .string s]] (by rfl) rfl rfl (by (try simp only [List.map_toArray, List.map_cons, List.map_nil]); first | done | rfl) ?_
              refine (contains_calls (some ⟨b, off, none⟩) k c L R l s _ (.inr ⟨b, off, rfl, hkn, ⟨fun i hi => (HP.out.later HB3.out).c0 i (by omega), fun i hi => (HP.out.later HB3.out).c1 i (by omega)⟩⟩) (by omega) g HGG.out).mono ?_
              rintro e w4 ⟨rfl, hb4⟩
              have HB4 := Lib.hid (HB3.out.trans (hb4.mono HB3.out.size))
              clear hb4 hb3
              refine ⟨_, rfl, ?_⟩
              refine hK.out _ _ ?_
              clear hK K
              refine norm_ (a' := ?_) ?_ ?_
              rotate_left
              · show Act.put _ (some 41) _ = _; simp only [Act.put, List.setIfInBounds_toArray, List.set_cons_zero, List.set_cons_succ, i64_w, i32_w]; rfl
              refine pure_ (i := 22) (N := (some 42)) (v := ?_) (a' := ?_) #[true, true, true, true, true, true, true, true, true, true, true, true, true, true, true, true, true, true, true, true, true, true, true] rfl rfl (by kernel_rfl) (fun _ _ _ h => h) (Or.inl ⟨by rfl, ?_⟩) ?_ ?_
              rotate_left
              · intro w'; go_simp; first | done | with_reducible rfl
              rotate_left
              · simp only [Act.put, List.setIfInBounds_toArray, List.set_cons_zero, List.set_cons_succ, i64_w, i32_w]; rfl
              refine done_ (by kernel_rfl) ?_
              clear hHeld d0 d1 d2 d3 hp ht
              cases g with
              | true =>
                have HRF := Lib.hid (NO.out (fun q => by
                  obtain ⟨j, h1, h2⟩ := HGG.out.1 rfl
                  have := q.new j h1
                  rw [HLS.out.1, HLS.out.2, h2] at this
                  cases this))
                go_wp2
                go_ret
                exact ⟨by rw [HRF.out] <;> rfl, HB4.out⟩
              | false =>
                have HRO : Hid (RuleOk L R k) := Lib.hid ⟨by rw [HLS.out.1]; exact HPP.out, by rw [HLS.out.2]; exact H4.out, by rw [HLS.out.2]; exact HOK.out, fun j hj => by
                  rw [HLS.out.1, HLS.out.2, Bool.eq_false_iff]
                  intro q
                  have := HGG.out.2 ⟨j, hj, q⟩
                  cases this⟩
                go_wp2_with fail
                refine ⟨⟨k + 1, by omega, by go_num, Lib.hid (fun m hm => ?_), HB4⟩, by simp [intOf]; omega⟩
                by_cases e : m = k
                · rw [e]
                  exact HRO.out
                · exact HK.out m (by omega)
          · have h4i : (4 : Int) < s.size := by omega
            have HRF := Lib.hid (NO.out (fun q => by have := q.sz; rw [HLS.out.2] at this; exact h4 this))
            refine start_ (n := 23) (S := fun w' => w'.cell? ⟨G, 0, none⟩ = some (.int .u8 l) ∧ w'.cell? ⟨G, 1, none⟩ = some (.string s)) (ds := [21]) #[false, false, false, false, false, false, false, false, false, false, false, false, false, false, false, false, false, false, false, false, false, false, false] (by kernel_rfl) rfl rfl ⟨by simpa using d0, by simpa using d1⟩ (fun hHeld => ?_)
            refine pure_ (i := 0) (N := (some 20)) (v := ?_) (a' := ?_) #[true, false, false, false, false, false, false, false, false, false, false, false, false, false, false, false, false, false, false, false, false, false, false] rfl rfl (by kernel_rfl) (fun _ _ _ h => h) (Or.inl ⟨by rfl, ?_⟩) ?_ ?_
            rotate_left
            · intro w'; go_simp; first | done | with_reducible rfl
            rotate_left
            · simp only [Act.put, List.setIfInBounds_toArray, List.set_cons_zero, List.set_cons_succ, i64_w, i32_w]; rfl
            refine take_ (i := 1) (N := (some 21)) (v := ?_) (a' := ?_) #[true, true, false, false, false, false, false, false, false, false, false, false, false, false, false, false, false, false, false, false, false, false, false] rfl rfl (by kernel_rfl) (fun _ _ _ h => h) (Or.inl ⟨by rfl, ?_⟩) hHeld ?_ ?_
            rotate_left
            · rintro w' ⟨s0, s1⟩; go_simp; first | done | with_reducible rfl
            rotate_left
            · simp only [Act.put, List.setIfInBounds_toArray, List.set_cons_zero, List.set_cons_succ, i64_w, i32_w]; rfl
            refine one_ (i := 2) (N := (some 22)) #[true, true, true, false, false, false, false, false, false, false, false, false, false, false, false, false, false, false, false, false, false, false, false] rfl rfl (by kernel_rfl) (by decide) (fun K hK => ?_)
            refine goes_ Tryd.func79 (by kernel_rfl) rfl #[.int .u8 l] (by rfl) rfl rfl (by (try simp only [List.map_toArray, List.map_cons, List.map_nil]); first | done | rfl) ?_
            refine (isPart_calls l _).mono ?_
            rintro e w2 ⟨rfl, rfl⟩
            rw [hp]
            refine ⟨_, rfl, ?_⟩
            refine hK.out _ _ hHeld (fun hHeld => ?_)
            clear hK K
            refine norm_ (a' := ?_) ?_ ?_
            rotate_left
            · show Act.put _ (some 22) _ = _; simp only [Act.put, List.setIfInBounds_toArray, List.set_cons_zero, List.set_cons_succ, i64_w, i32_w]; rfl
            refine pure_ (i := 3) (N := (some 23)) (v := (.bool false)) (a' := ?_) #[true, true, true, true, false, false, false, false, false, false, false, false, false, false, false, false, false, false, false, false, false, false, false] rfl rfl (by kernel_rfl) (fun _ _ _ h => h) (Or.inl ⟨by rfl, ?_⟩) ?_ ?_
            · intro w'; go_simp; first | done | with_reducible rfl
            rotate_left
            · simp only [Act.put, List.setIfInBounds_toArray, List.set_cons_zero, List.set_cons_succ, i64_w, i32_w]; rfl
            refine pure_ (i := 4) (N := (some 24)) (v := ?_) (a' := ?_) #[true, true, true, true, true, false, false, false, false, false, false, false, false, false, false, false, false, false, false, false, false, false, false] rfl rfl (by kernel_rfl) (fun _ _ _ h => h) (Or.inl ⟨by rfl, ?_⟩) ?_ ?_
            rotate_left
            · intro w'; go_simp; first | done | with_reducible rfl
            rotate_left
            · simp only [Act.put, List.setIfInBounds_toArray, List.set_cons_zero, List.set_cons_succ, i64_w, i32_w]; rfl
            refine pure_ (i := 5) (N := (some 25)) (v := ?_) (a' := ?_) #[true, true, true, true, true, true, false, false, false, false, false, false, false, false, false, false, false, false, false, false, false, false, false] rfl rfl (by kernel_rfl) (fun _ _ _ h => h) (Or.inl ⟨by rfl, ?_⟩) ?_ ?_
            rotate_left
            · intro w'; go_simp; first | done | with_reducible rfl
            rotate_left
            · simp only [Act.put, List.setIfInBounds_toArray, List.set_cons_zero, List.set_cons_succ, i64_w, i32_w]; rfl
            refine take_ (i := 6) (N := (some 26)) (v := ?_) (a' := ?_) #[true, true, true, true, true, true, true, false, false, false, false, false, false, false, false, false, false, false, false, false, false, false, false] rfl rfl (by kernel_rfl) (fun _ _ _ h => h) (Or.inl ⟨by rfl, ?_⟩) hHeld ?_ ?_
            rotate_left
            · rintro w' ⟨s0, s1⟩; go_simp; first | done | with_reducible rfl
            rotate_left
            · simp only [Act.put, List.setIfInBounds_toArray, List.set_cons_zero, List.set_cons_succ, i64_w, i32_w]; rfl
            refine pure_ (i := 7) (N := (some 27)) (v := ?_) (a' := ?_) #[true, true, true, true, true, true, true, true, false, false, false, false, false, false, false, false, false, false, false, false, false, false, false] rfl rfl (by kernel_rfl) (fun _ _ _ h => h) (Or.inl ⟨by rfl, ?_⟩) ?_ ?_
            rotate_left
            · intro w'; go_simp; first | done | with_reducible rfl
            rotate_left
            · simp only [Act.put, List.setIfInBounds_toArray, List.set_cons_zero, List.set_cons_succ, i64_w, i32_w]; rfl
            refine pure_ (i := 8) (N := (some 28)) (v := (.bool true)) (a' := ?_) #[true, true, true, true, true, true, true, true, true, false, false, false, false, false, false, false, false, false, false, false, false, false, false] rfl rfl (by kernel_rfl) (fun _ _ _ h => h) (Or.inl ⟨by rfl, ?_⟩) ?_ ?_
            · intro w'; go_simp; first | done | with_reducible rfl
            rotate_left
            · simp only [Act.put, List.setIfInBounds_toArray, List.set_cons_zero, List.set_cons_succ, i64_w, i32_w]; rfl
            refine pure_ (i := 9) (N := (some 29)) (v := ?_) (a' := ?_) #[true, true, true, true, true, true, true, true, true, true, false, false, false, false, false, false, false, false, false, false, false, false, false] rfl rfl (by kernel_rfl) (fun _ _ _ h => h) (Or.inl ⟨by rfl, ?_⟩) ?_ ?_
            rotate_left
            · intro w'; go_simp; first | done | with_reducible rfl
            rotate_left
            · simp only [Act.put, List.setIfInBounds_toArray, List.set_cons_zero, List.set_cons_succ, i64_w, i32_w]; rfl
            refine pure_ (i := 10) (N := (some 30)) (v := ?_) (a' := ?_) #[true, true, true, true, true, true, true, true, true, true, true, false, false, false, false, false, false, false, false, false, false, false, false] rfl rfl (by kernel_rfl) (fun _ _ _ h => h) (Or.inl ⟨by rfl, ?_⟩) ?_ ?_
            rotate_left
            · intro w'; go_simp; first | done | with_reducible rfl
            rotate_left
            · simp only [Act.put, List.setIfInBounds_toArray, List.set_cons_zero, List.set_cons_succ, i64_w, i32_w]; rfl
            refine off_ (i := 11) (N := (some 31)) #[true, true, true, true, true, true, true, true, true, true, true, true, false, false, false, false, false, false, false, false, false, false, false] rfl rfl (by kernel_rfl) (fun _ _ _ h => h) (by rfl) (by simp only [Act.put, List.setIfInBounds_toArray, List.set_cons_zero, List.set_cons_succ, i64_w, i32_w]; rfl) ?_
            refine off_ (i := 12) (N := (some 32)) #[true, true, true, true, true, true, true, true, true, true, true, true, true, false, false, false, false, false, false, false, false, false, false] rfl rfl (by kernel_rfl) (fun _ _ _ h => h) (by rfl) (by simp only [Act.put, List.setIfInBounds_toArray, List.set_cons_zero, List.set_cons_succ, i64_w, i32_w]; rfl) ?_
            refine off_ (i := 13) (N := (some 33)) #[true, true, true, true, true, true, true, true, true, true, true, true, true, true, false, false, false, false, false, false, false, false, false] rfl rfl (by kernel_rfl) (fun _ _ _ h => h) (by rfl) (by simp only [Act.put, List.setIfInBounds_toArray, List.set_cons_zero, List.set_cons_succ, i64_w, i32_w]; rfl) ?_
            refine off_ (i := 14) (N := (some 34)) #[true, true, true, true, true, true, true, true, true, true, true, true, true, true, true, false, false, false, false, false, false, false, false] rfl rfl (by kernel_rfl) (fun _ _ _ h => h) (by rfl) (by simp only [Act.put, List.setIfInBounds_toArray, List.set_cons_zero, List.set_cons_succ, i64_w, i32_w]; rfl) ?_
            refine pure_ (i := 15) (N := (some 35)) (v := ?_) (a' := ?_) #[true, true, true, true, true, true, true, true, true, true, true, true, true, true, true, true, false, false, false, false, false, false, false] rfl rfl (by kernel_rfl) (fun _ _ _ h => h) (Or.inl ⟨by rfl, ?_⟩) ?_ ?_
            rotate_left
            · intro w'; go_simp; first | done | with_reducible rfl
            rotate_left
            · simp only [Act.put, List.setIfInBounds_toArray, List.set_cons_zero, List.set_cons_succ, i64_w, i32_w]; rfl
            refine pure_ (i := 16) (N := (some 36)) (v := ?_) (a' := ?_) #[true, true, true, true, true, true, true, true, true, true, true, true, true, true, true, true, true, false, false, false, false, false, false] rfl rfl (by kernel_rfl) (fun _ _ _ h => h) (Or.inl ⟨by rfl, ?_⟩) ?_ ?_
            rotate_left
            · intro w'; go_simp; first | done | with_reducible rfl
            rotate_left
            · simp only [Act.put, List.setIfInBounds_toArray, List.set_cons_zero, List.set_cons_succ, i64_w, i32_w]; rfl
            refine off_ (i := 17) (N := (some 37)) #[true, true, true, true, true, true, true, true, true, true, true, true, true, true, true, true, true, true, false, false, false, false, false] rfl rfl (by kernel_rfl) (fun _ _ _ h => h) (by rfl) (by simp only [Act.put, List.setIfInBounds_toArray, List.set_cons_zero, List.set_cons_succ, i64_w, i32_w]; rfl) ?_
            refine off_ (i := 18) (N := (some 38)) #[true, true, true, true, true, true, true, true, true, true, true, true, true, true, true, true, true, true, true, false, false, false, false] rfl rfl (by kernel_rfl) (fun _ _ _ h => h) (by rfl) (by simp only [Act.put, List.setIfInBounds_toArray, List.set_cons_zero, List.set_cons_succ, i64_w, i32_w]; rfl) ?_
            refine off_ (i := 19) (N := (some 39)) #[true, true, true, true, true, true, true, true, true, true, true, true, true, true, true, true, true, true, true, true, false, false, false] rfl rfl (by kernel_rfl) (fun _ _ _ h => h) (by rfl) (by simp only [Act.put, List.setIfInBounds_toArray, List.set_cons_zero, List.set_cons_succ, i64_w, i32_w]; rfl) ?_
            refine off_ (i := 20) (N := (some 40)) #[true, true, true, true, true, true, true, true, true, true, true, true, true, true, true, true, true, true, true, true, true, false, false] rfl rfl (by kernel_rfl) (fun _ _ _ h => h) (by rfl) (by simp only [Act.put, List.setIfInBounds_toArray, List.set_cons_zero, List.set_cons_succ, i64_w, i32_w]; rfl) ?_
            refine off_ (i := 21) (N := (some 41)) #[true, true, true, true, true, true, true, true, true, true, true, true, true, true, true, true, true, true, true, true, true, true, false] rfl rfl (by kernel_rfl) (fun _ _ _ h => h) (by rfl) (by simp only [Act.put, List.setIfInBounds_toArray, List.set_cons_zero, List.set_cons_succ, i64_w, i32_w]; rfl) ?_
            refine pure_ (i := 22) (N := (some 42)) (v := ?_) (a' := ?_) #[true, true, true, true, true, true, true, true, true, true, true, true, true, true, true, true, true, true, true, true, true, true, true] rfl rfl (by kernel_rfl) (fun _ _ _ h => h) (Or.inl ⟨by rfl, ?_⟩) ?_ ?_
            rotate_left
            · intro w'; go_simp; first | done | with_reducible rfl
            rotate_left
            · simp only [Act.put, List.setIfInBounds_toArray, List.set_cons_zero, List.set_cons_succ, i64_w, i32_w]; rfl
            refine done_ (by kernel_rfl) ?_
            clear hHeld d0 d1 hp
            go_wp2
            go_ret
            exact ⟨by rw [HRF.out] <;> rfl, HBA.out.drew⟩
      · obtain rfl : k = n := by omega
        have HRT := Lib.hid (HR.out.2 ⟨⟨hn1, hn8⟩, HK.out⟩)
        go_wp2
        go_ret
        exact ⟨by rw [HRT.out] <;> rfl, HB.out⟩
  · have HRF : Hid (r = false) := Lib.hid (by rw [Bool.eq_false_iff]; exact fun q => hn8 (HR.out.1 q).1)
    by_cases h1 : 1 ≤ n
    · have i1 : ¬ (n : Int) < 1 := by omega
      have i8 : (8 : Int) < n := by omega
      go_enter Tryd.func58, Tryd.ntmps58
      go_wp2
      go_ret
      exact ⟨by rw [HRF.out] <;> rfl, Below.refl _ _⟩
    · have i1 : (n : Int) < 1 := by omega
      go_enter Tryd.func58, Tryd.ntmps58
      go_wp2
      go_ret
      exact ⟨by rw [HRF.out] <;> rfl, Below.refl _ _⟩
end Go.Proofs.YtjpfalanoifpbaaDoor.X
end

section
set_option linter.unusedVariables false
set_option linter.unusedSimpArgs false
namespace Go.Proofs.YtjpfalanoifpbaaDoor.X
open Go.RowKit Go.Proofs.YtjpfalanoifpbaaDoorW.PrintWords Go.Proofs.YtjpfalanoifpbaaDoorW.PrintLast Go.Proofs.YtjpfalanoifpbaaDoorW.PrintMore Go.Proofs.YtjpfalanoifpbaaDoor.T
def mnN (a b : Nat) : Nat := if a ≤ b then a else b
def cut12 (s : ByteArray) : ByteArray := s.extract 0 (mnN s.size 12)
theorem cut12_size (s : ByteArray) : (cut12 s).size = mnN s.size 12 := by
  unfold cut12 mnN
  rw [ByteArray.size_extract]
  split <;> omega
theorem cut12_self {s : ByteArray} (h : s.size ≤ 12) : cut12 s = s := by
  unfold cut12 mnN
  rw [if_pos h]
  exact ByteArray.extract_zero_size
theorem text_calls (s : ByteArray) (hs : s.size ≤ 9223372036854775807) (w : World) : Calls Tryd.prog 27 #[.string s] w fun e w' => e = .returned (.string (cut12 s)) ∧ w' = w := by
  have hm : min (s.size : Int) 12 = (mnN s.size 12 : Nat) := by unfold mnN; split <;> omega
  have hmn : mnN s.size 12 ≤ s.size := by unfold mnN; split <;> omega
  unfold cut12
  generalize mnN s.size 12 = m at hm hmn ⊢
  go_enter Tryd.func27, Tryd.ntmps27
  go_wp2
  go_ret
  exact ⟨rfl, rfl⟩
def flatR (L : Nat → Int) (R : Nat → ByteArray) : Nat → List Value
  | 0 => []
  | k + 1 => flatR L R k ++ [.int .u8 (L k), .string (R k)]
theorem flatR_length (L : Nat → Int) (R : Nat → ByteArray) : ∀ k, (flatR L R k).length = k * 2
  | 0 => rfl
  | k + 1 => by rw [flatR, List.length_append, flatR_length L R k]; simp; omega
theorem flatR_get (L : Nat → Int) (R : Nat → ByteArray) : ∀ k i, i < k → (flatR L R k)[i * 2]? = some (.int .u8 (L i)) ∧ (flatR L R k)[i * 2 + 1]? = some (.string (R i))
  | 0, i, h => by omega
  | k + 1, i, h => by
    have hl := flatR_length L R k
    rw [flatR]
    by_cases e : i = k
    · subst e
      rw [List.getElem?_append_right (by omega), List.getElem?_append_right (by omega), hl]
      simp
    · rw [List.getElem?_append_left (by omega), List.getElem?_append_left (by omega)]
      exact flatR_get L R k i (by omega)
theorem Sr.of_own {w : World} {base e n : Nat} {v : Value} {L : Nat → Int} {R : Nat → ByteArray} (h : w.ownsRow base e 2 v n (flatR L R n)) : ∃ A c, v = .slice A n c ∧ Sr w A n c L R := by
  obtain ⟨_, ⟨rfl, rfl⟩ | ⟨g, cap, cur, rfl, hg, hb, hn, _, hs, ht⟩⟩ := h
  · exact ⟨none, 0, rfl, .inl rfl⟩
  · refine ⟨_, cap, rfl, .inr ⟨g, 0, rfl, hn, ?_⟩⟩
    have key : ∀ j u, (flatR L R n)[j]? = some u → j < n * 2 → w.cell? ⟨g, 0 + j, none⟩ = some u := fun j u hu hj => by
      rw [← ht, List.getElem?_take, if_pos hj] at hu
      have hu' : cur[j]? = some u := by simpa using hu
      rw [Nat.zero_add]
      unfold World.cell?
      simp only [hb]
      simpa using hu'
    exact ⟨fun i hi => key _ _ (flatR_get L R n i hi).1 (by omega), fun i hi => by rw [Nat.add_assoc]; exact key _ _ (flatR_get L R n i hi).2 (by omega)⟩
theorem info60 : (Tryd.prog.info? 60).map (fun i => (i.zero, i.size, i.bytes)) = some (some (.agg #[.int .u8 0, .string ByteArray.empty]), 2, 24) := by kernel_rfl
theorem two_new (w : World) (t : TypeId) (u v : Value) : ∀ (j : Nat) z, ([u, v] : List Value)[j]? = some z → (w.alloc (.cells #[u, v] t)).cell? ((⟨w.heap.size, 0, none⟩ : Addr).add j) = some z := fun j z hz => by
  have hj : j = 0 ∨ j = 1 := by
    have := (List.getElem?_eq_some_iff.1 hz).1
    simp at this
    omega
  rcases hj with rfl | rfl
  · simp at hz
    simp [Addr.add, hz]
  · simp at hz
    simp [Addr.add, hz]
theorem own_growS {B : Nat} {u w w1 : World} {e sz n : Nat} {v : Value} {xs : List Value} (hb : Below B u w) (hs : w.ownsRow u.heap.size e sz v n xs) (hg : w.grownBy w1 v.ownBlock) (hB : B = u.heap.size := by rfl) : Below B u w1 := by
  subst hB
  refine hb.grown hg hb.size fun k hk => ?_
  obtain ⟨_, ⟨h, _⟩ | ⟨g, cap, cur, h, h2, _⟩⟩ := hs
  · rw [h] at hk
    simp [Value.ownBlock] at hk
  · rw [h] at hk
    simp [Value.ownBlock] at hk
    omega
theorem value_step {P : Program} {ops : Array Oper} {oi : Oper} {N : Option Tmp} {a : Act} {Q : Exit → Act → World → Prop} {K : Act → World → Prop} {W w1 : World} {v : Value} (hw : Region.wanted oi (yielded ops a.tmps) = true) (hN : oi.dst = N)
    (hrun : (execOp a.eval oi).run P W = .ok (.value v) w1) (h : K (a.put N v) w1) :
    if Region.wanted oi (yielded ops a.tmps) = true then Oper.wp P oi a W K Q else K (a.put N undef) W := by
  subst hN
  rw [if_pos hw]
  unfold Oper.wp
  rw [hrun]
  exact h
theorem append_step {P : Program} {ops : Array Oper} {oi : Oper} {N : Option Tmp} {a : Act} {Q : Exit → Act → World → Prop} {K : Act → World → Prop} {W : World} (hw : Region.wanted oi (yielded ops a.tmps) = true) (hN : oi.dst = N)
    (s x : Operand) (t : TypeId) (ho : oi.op = .call { callee := .builtin .append, args := #[s, x], argTypes := #[t, t] })
    (base : Nat) (e : TypeId) (i : TypeInfo) (z : Value) (size bytes : Nat) (ht : P.underlying t = some (.slice e)) (hi : P.info? e = some i) (hz : i.zero = some z)
    (hsize : i.size = size) (hby : i.bytes = bytes) (hzs : z.cells.size = size) (hsz : 0 < size)
    (v : Value) (n : Nat) (xs : List Value) (hs : a.eval s = v) (hown : W.ownsRow base e size v n xs)
    (ad : Addr) (m c : Nat) (news : List Value) (hx : a.eval x = .slice (some ad) m c) (hl : news.length = m * size) (hnews : ∀ j u, news[j]? = some u → W.cell? (ad.add j) = some u) (h1 : ∀ u ∈ news, u.oneCell' = true)
    (h63 : n + m ≤ maxLen) (hbytes : (n + m) * bytes ≤ 140737488355328) (hbase : base ≤ W.heap.size)
    (h : ∀ v' w', w'.ownsRow base e size v' (n + m) (xs ++ news) → W.grownBy w' v.ownBlock → K (a.put N v') w') :
    if Region.wanted oi (yielded ops a.tmps) = true then Oper.wp P oi a W K Q else K (a.put N undef) W := by
  obtain ⟨v', w', hr, h2, h3, _, _⟩ := run_append_own_at (P := P) W base t oi.type e i z size bytes ht hi hz hsize hby hzs hsz v n xs hown ad m c news hl hnews h1 h63 hbytes hbase
  refine value_step hw hN ?_ (h v' w' h2 h3)
  unfold execOp
  simp only [ho, resolve, invoke, builtin, Sem.run_bind, Sem.run_pure, Result.andThen_ok, List.map_toArray, List.map_cons, List.map_nil, hs, hx, hr]
set_option maxHeartbeats 8000000 in
set_option maxRecDepth 100000 in
theorem Of_calls (A : Option Addr) (n c : Nat) (L : Nat → Int) (R : Nat → ByteArray) (w : World) (hA : Sr w A n c L R) (hn : n ≤ 9223372036854775807) (hR : ∀ k, k < n → (R k).size ≤ 9223372036854775807) :
    Calls Tryd.prog 18 #[.slice A n c] w fun e w' => (∃ A' c', e = .returned (.slice A' (mnN n 11) c') ∧ Sr w' A' (mnN n 11) c' L (fun k => cut12 (R k))) ∧ Below w.heap.size w w' := by
  have HA := Lib.hid hA
  have HZ := Lib.hid hR
  clear hA hR
  go_enter Tryd.func18, Tryd.ntmps18
  go_wp2_with fail
  have HB := Lib.hid (Below.refl w.heap.size w)
  have HO : Hid (w.ownsRow w.heap.size 60 2 (.slice none 0 0) (mnN 0 11) (flatR L (fun k => cut12 (R k)) (mnN 0 11))) := Lib.hid (World.ownsRow_nil w w.heap.size 60 2)
  go_loopw [8, 3] (fun i v wr => ∃ k : Nat, k ≤ n ∧ i = .int .i64 k ∧ Hid (wr.ownsRow w.heap.size 60 2 v (mnN k 11) (flatR L (fun k => cut12 (R k)) (mnN k 11))) ∧ Hid (Below w.heap.size w wr)) (fun i _ _ => n - (intOf i).toNat)
  case atStart => exact ⟨0, by omega, rfl, HO, HB⟩
  case round =>
    clear HO HB
    obtain ⟨k, hk, rfl, HO, HB⟩ := hrel
    by_cases hlt : k < n
    · obtain ⟨b, off, rfl, hnc, hP⟩ := HA.out.open (by omega)
      have HP := Lib.hid hP
      have c0 := (hP.later HB.out).c0 k hlt
      have c1 := (hP.later HB.out).c1 k hlt
      have hz := HZ.out k hlt
      obtain ⟨l, hl⟩ : ∃ l, L k = l := ⟨_, rfl⟩
      obtain ⟨s, hs⟩ : ∃ s, R k = s := ⟨_, rfl⟩
      rw [hl] at c0
      rw [hs] at c1 hz
      have HLS := Lib.hid (And.intro hl hs)
      have hkc : k < c := by omega
      clear hl hs hP
      by_cases h11 : k < 11
      · have h11' : (k : Int) < 11 := by omega
        have hm1 : mnN k 11 = k := by unfold mnN; rw [if_pos (by omega)]
        have hm2 : mnN (k + 1) 11 = k + 1 := by unfold mnN; rw [if_pos (by omega)]
        rw [hm1] at HO
        have HM := Lib.hid hm2
        clear hm1 hm2
        go_wp2_with fail
        have hbA := below_one (w := wr) (.cells #[.int .u8 l, .string s] 44)
        obtain ⟨d0, d1⟩ := rule_new wr 44 l s
        have HBA := Lib.hid (HB.out.trans (hbA.mono HB.out.size))
        have HOA := Lib.hid (pw_own_below HO.out hbA)
        obtain ⟨w1, hw1⟩ : ∃ w1, w1 = wr.alloc (.cells #[.int .u8 l, .string s] 44) := ⟨_, rfl⟩
        rw [← hw1] at d0 d1 HBA HOA ⊢
        clear hw1 hbA c0 c1 HB HO
        generalize wr.heap.size = G at d0 d1 ⊢
        refine start_ (n := 10) (S := fun w' => w'.cell? ⟨G, 0, none⟩ = some (.int .u8 l) ∧ w'.cell? ⟨G, 1, none⟩ = some (.string s)) (ds := [7,8]) #[false, false, false, false, false, false, false, false, false, false] (by kernel_rfl) rfl rfl ⟨by simpa using d0, by simpa using d1⟩ (fun hHeld => ?_)
        refine pure_ (i := 0) (N := (some 15)) (v := ?_) (a' := ?_) #[true, false, false, false, false, false, false, false, false, false] rfl rfl (by kernel_rfl) (fun _ _ _ h => h) (Or.inl ⟨by rfl, ?_⟩) ?_ ?_
        rotate_left
        · intro w'; go_simp; first | done | with_reducible rfl
        rotate_left
        · simp only [Act.put, List.setIfInBounds_toArray, List.set_cons_zero, List.set_cons_succ, i64_w, i32_w]; rfl
        refine pure_ (i := 1) (N := (some 16)) (v := ?_) (a' := ?_) #[true, true, false, false, false, false, false, false, false, false] rfl rfl (by kernel_rfl) (fun _ _ _ h => h) (Or.inl ⟨by rfl, ?_⟩) ?_ ?_
        rotate_left
        · intro w'; go_simp; first | done | with_reducible rfl
        rotate_left
        · simp only [Act.put, List.setIfInBounds_toArray, List.set_cons_zero, List.set_cons_succ, i64_w, i32_w]; rfl
        refine take_ (i := 2) (N := (some 17)) (v := ?_) (a' := ?_) #[true, true, true, false, false, false, false, false, false, false] rfl rfl (by kernel_rfl) (fun _ _ _ h => h) (Or.inl ⟨by rfl, ?_⟩) hHeld ?_ ?_
        rotate_left
        · rintro w' ⟨s0, s1⟩; go_simp; first | done | with_reducible rfl
        rotate_left
        · simp only [Act.put, List.setIfInBounds_toArray, List.set_cons_zero, List.set_cons_succ, i64_w, i32_w]; rfl
        refine pure_ (i := 3) (N := (some 18)) (v := ?_) (a' := ?_) #[true, true, true, true, false, false, false, false, false, false] rfl rfl (by kernel_rfl) (fun _ _ _ h => h) (Or.inl ⟨by rfl, ?_⟩) ?_ ?_
        rotate_left
        · intro w'; go_simp; first | done | with_reducible rfl
        rotate_left
        · simp only [Act.put, List.setIfInBounds_toArray, List.set_cons_zero, List.set_cons_succ, i64_w, i32_w]; rfl
        refine take_ (i := 4) (N := (some 19)) (v := ?_) (a' := ?_) #[true, true, true, true, true, false, false, false, false, false] rfl rfl (by kernel_rfl) (fun _ _ _ h => h) (Or.inl ⟨by rfl, ?_⟩) hHeld ?_ ?_
        rotate_left
        · rintro w' ⟨s0, s1⟩; go_simp; first | done | with_reducible rfl
        rotate_left
        · simp only [Act.put, List.setIfInBounds_toArray, List.set_cons_zero, List.set_cons_succ, i64_w, i32_w]; rfl
        refine one_ (i := 5) (N := (some 20)) #[true, true, true, true, true, true, false, false, false, false] rfl rfl (by kernel_rfl) (by decide) (fun K hK => ?_)
        refine goes_ Tryd.func27 (by kernel_rfl) rfl #[.string s] (by rfl) rfl rfl (by (try simp only [List.map_toArray, List.map_cons, List.map_nil]); first | done | rfl) ?_
        refine (text_calls s hz _).mono ?_
        rintro e w2 ⟨rfl, rfl⟩
        refine ⟨_, rfl, ?_⟩
        refine hK.out _ _ hHeld (fun hHeld => ?_)
        clear hK K
        refine norm_ (a' := ?_) ?_ ?_
        rotate_left
        · show Act.put _ (some 20) _ = _; simp only [Act.put, List.setIfInBounds_toArray, List.set_cons_zero, List.set_cons_succ, i64_w, i32_w]; rfl
        refine pure_ (i := 6) (N := (some 21)) (v := ?_) (a' := ?_) #[true, true, true, true, true, true, true, false, false, false] rfl rfl (by kernel_rfl) (fun _ _ _ h => h) (Or.inl ⟨by rfl, ?_⟩) ?_ ?_
        rotate_left
        · intro w'; go_simp; first | done | with_reducible rfl
        rotate_left
        · simp only [Act.put, List.setIfInBounds_toArray, List.set_cons_zero, List.set_cons_succ, i64_w, i32_w]; rfl
        refine last_ (i := 7) (N := (some 22)) #[true, true, true, true, true, true, true, true, false, false] rfl rfl (by kernel_rfl) (by decide) (fun K hK => ?_)
        obtain ⟨wd, hwd⟩ : ∃ wd, wd = w1.drew := ⟨_, rfl⟩
        have HBD : Hid (Below w.heap.size w wd) := Lib.hid (by rw [hwd]; exact HBA.out.drew)
        have HOD : Hid (wd.ownsRow w.heap.size 60 2 u3 k (flatR L (fun k => cut12 (R k)) k)) := Lib.hid (by rw [hwd]; exact pw_own_below HOA.out (Below.refl _ w1).drew)
        first | rw [← hwd] | skip
        clear d0 d1 hHeld
        refine value_step (v := .slice (some ⟨wd.heap.size, 0, none⟩) 1 1) (w1 := wd.alloc (.cells #[.int .u8 l, .string (cut12 s)] 60)) (by rfl) rfl (by go_simp) ?_
        refine hK.out _ _ ?_
        clear hK K
        refine norm_ (a' := ?_) ?_ ?_
        rotate_left
        · show Act.put _ (some 22) _ = _; simp only [Act.put, List.setIfInBounds_toArray, List.set_cons_zero, List.set_cons_succ, i64_w, i32_w]; rfl
        have hbE := below_one (w := wd) (.cells #[.int .u8 l, .string (cut12 s)] 60)
        have HBE := Lib.hid (HBD.out.trans (hbE.mono HBD.out.size))
        have HOE := Lib.hid (pw_own_below HOD.out hbE)
        obtain ⟨i0, hi0, hz0, hz1, hz2⟩ := info_parts info60
        refine last_ (i := 8) (N := (some 23)) #[true, true, true, true, true, true, true, true, true, false] rfl rfl (by kernel_rfl) (by decide) (fun K hK => ?_)
        refine append_step (by rfl) rfl (.tmp 15) (.tmp 22) 27 rfl w.heap.size 60 i0 _ 2 24 Tryd.underlying27 hi0 hz0 hz1 hz2 rfl (by decide) u3 _ _ rfl HOE.out ⟨wd.heap.size, 0, none⟩ 1 1 [.int .u8 l, .string (cut12 s)] rfl rfl (two_new _ _ _ _) (by simp [Value.oneCell']) (by unfold maxLen; omega) (by omega) HBE.out.size ?_
        intro v1 w8 hown1 hgrow1
        have HO8 := Lib.hid hown1
        have HB8 := Lib.hid (own_growS HBE.out HOE.out hgrow1)
        clear hown1 hgrow1 hi0 hz0 hz1 hz2 hbE
        refine hK.out _ _ ?_
        clear hK K
        refine norm_ (a' := ?_) ?_ ?_
        rotate_left
        · show Act.put _ (some 23) _ = _; simp only [Act.put, List.setIfInBounds_toArray, List.set_cons_zero, List.set_cons_succ, i64_w, i32_w]; rfl
        refine pure_ (i := 9) (N := (some 3)) (v := ?_) (a' := ?_) #[true, true, true, true, true, true, true, true, true, true] rfl rfl (by kernel_rfl) (fun _ _ _ h => h) (Or.inl ⟨by rfl, ?_⟩) ?_ ?_
        rotate_left
        · intro w'; go_simp; first | done | with_reducible rfl
        rotate_left
        · simp only [Act.put, List.setIfInBounds_toArray, List.set_cons_zero, List.set_cons_succ, i64_w, i32_w]; rfl
        refine done_ (by kernel_rfl) ?_
        go_wp2_with fail
        refine ⟨⟨k + 1, by omega, by go_num, ?_, HB8⟩, by simp [intOf]; omega⟩
        rw [HM.out, flatR, HLS.out.1, HLS.out.2]
        exact HO8
      · have h11' : ¬ (k : Int) < 11 := by omega
        have hm1 : mnN (k + 1) 11 = mnN k 11 := by unfold mnN; rw [if_neg (by omega)]; split <;> omega
        have HM := Lib.hid hm1
        clear hm1
        go_wp2_with fail
        have hbA := below_one (w := wr) (.cells #[.int .u8 l, .string s] 44)
        have HBA := Lib.hid (HB.out.trans (hbA.mono HB.out.size))
        have HOA := Lib.hid (pw_own_below HO.out hbA)
        refine ⟨⟨k + 1, by omega, by go_num, ?_, HBA⟩, by simp [intOf]; omega⟩
        rw [HM.out]
        exact HOA
    · obtain rfl : k = n := by omega
      obtain ⟨A', c', rfl, hS⟩ := Sr.of_own HO.out
      have HS := Lib.hid hS
      clear hS HO
      go_wp2
      go_ret
      exact ⟨⟨A', c', rfl, HS.out⟩, HB.out⟩
end Go.Proofs.YtjpfalanoifpbaaDoor.X
end

section
set_option linter.unusedVariables false
set_option linter.unusedSimpArgs false
namespace Go.Proofs.YtjpfalanoifpbaaDoor.X
open Go.RowKit Go.Proofs.YtjpfalanoifpbaaDoorW.PrintWords Go.Proofs.YtjpfalanoifpbaaDoorW.PrintLast Go.Proofs.YtjpfalanoifpbaaDoorW.PrintMore Go.Proofs.YtjpfalanoifpbaaDoor.T
theorem five_load {w : World} {g : Nat} {F : Nat → Nat} {t : TypeId} (h : w.heap[g]? = some (.cells (cells5 F) t (0, 0))) : w.cell? ⟨g, 0, none⟩ = some (.int .i64 (F 0)) ∧ w.cell? ⟨g, 1, none⟩ = some (.int .i64 (F 1)) ∧ w.cell? ⟨g, 2, none⟩ = some (.int .i64 (F 2)) ∧ w.cell? ⟨g, 3, none⟩ = some (.int .i64 (F 3)) ∧ w.cell? ⟨g, 4, none⟩ = some (.int .i64 (F 4)) :=
  ⟨five_at h (by decide), five_at h (by decide), five_at h (by decide), five_at h (by decide), five_at h (by decide)⟩
set_option maxHeartbeats 8000000 in
set_option maxRecDepth 100000 in
theorem First_yes (A : Option Addr) (n c : Nat) (L : Nat → Int) (R : Nat → ByteArray) (w : World) (hA : Sr w A n c L R) (hg : Gram L R n) :
    Calls Tryd.prog 17 #[.slice A n c] w fun e w' => e = .returned (.tuple #[agg5 (firstN L R n), .int .i64 0]) ∧ Below w.heap.size w w' := by
  have HA := Lib.hid hA
  have HG := Lib.hid hg
  have h8 := hg.1.2
  have h4 : ∀ k, k < n → (R k).size ≤ 1000 := fun k hk => Nat.le_trans (hg.2 k hk).sz (by decide)
  have HV := Lib.hid fun (w : World) (h : Sr w A n c L R) => valid_calls A n c L R w h (by omega) h4 true (by simp [hg])
  clear hA hg h4
  go_enter Tryd.func17, Tryd.ntmps17
  go_wp2_with fail
  have hbA := below_one (w := w) (.cells (cells5 fun _ => 0) 23)
  have hkA := blk_new w (.cells (cells5 fun _ => 0) 23)
  obtain ⟨w0, hw0⟩ : ∃ w0, w0 = w.alloc (.cells (cells5 fun _ => 0) 23) := ⟨_, rfl⟩
  rw [← hw0] at hbA hkA
  unfold cells5 at hw0
  rw [show ((0 : Nat) : Int) = 0 from rfl] at hw0
  rw [← hw0]
  refine (HV.out w0 (HA.out.later hbA)).mono ?_
  rintro e w1 ⟨rfl, hb1⟩
  have hb := hbA.trans (hb1.mono hbA.size)
  have hk1 := (hb1.block _ (Array.getElem?_eq_some_iff.1 hkA).1).trans hkA
  have HB := Lib.hid hb
  have HK := Lib.hid hk1
  clear hb hk1 hb1 hbA hkA hw0
  go_wp2_with fail
  refine (first_calls A n c L R w1 (HA.out.later HB.out) HG.out.gr).mono ?_
  rintro e w2 ⟨rfl, hb2⟩
  have HB2 := Lib.hid (HB.out.trans (hb2.mono HB.out.size))
  have HK2 := Lib.hid ((hb2.block _ (Array.getElem?_eq_some_iff.1 HK.out).1).trans HK.out)
  clear hb2 HB HK
  obtain ⟨F, hFF⟩ : ∃ F, firstN L R n = F := ⟨_, rfl⟩
  rw [hFF]
  have HFF := Lib.hid hFF
  clear hFF
  unfold agg5
  have HLO : Hid (w.heap.size ≤ w.heap.size) := Lib.hid (Nat.le_refl _)
  obtain ⟨x0, x1, x2, x3, x4⟩ := five_load HK2.out
  have z0 := blk_frozen HK2.out 0
  have z1 := blk_frozen HK2.out 1
  have z2 := blk_frozen HK2.out 2
  have z3 := blk_frozen HK2.out 3
  have z4 := blk_frozen HK2.out 4
  go_wp2
  have n1 := five_fill (F := F) HK2.out
  have n2 := fill_below (F := F) HB2.out HLO.out
  unfold fill5 at n1 n2
  clear x0 x1 x2 x3 x4 z0 z1 z2 z3 z4
  generalize ((((w2.setCell ⟨w.heap.size, 0, none⟩ (.int .i64 (F 0))).setCell ⟨w.heap.size, 1, none⟩ (.int .i64 (F 1))).setCell ⟨w.heap.size, 2, none⟩ (.int .i64 (F 2))).setCell ⟨w.heap.size, 3, none⟩ (.int .i64 (F 3))).setCell ⟨w.heap.size, 4, none⟩ (.int .i64 (F 4)) = W5 at n1 n2 ⊢
  obtain ⟨x0, x1, x2, x3, x4⟩ := five_load n1
  exact bodyPost_ret (v := .tuple #[agg5 F, .int .i64 0]) (by simp [results, Tryd.f17, go_sem, agg5, x0, x1, x2, x3, x4]) rfl ⟨by rw [HFF.out], n2⟩
end Go.Proofs.YtjpfalanoifpbaaDoor.X
end

section
set_option linter.unusedVariables false
set_option linter.unusedSimpArgs false
namespace Go.Proofs.YtjpfalanoifpbaaDoor.X
open Go.RowKit Go.Proofs.YtjpfalanoifpbaaDoorW.PrintWords Go.Proofs.YtjpfalanoifpbaaDoorW.PrintLast Go.Proofs.YtjpfalanoifpbaaDoorW.PrintMore Go.Proofs.YtjpfalanoifpbaaDoor.T
def sB : ByteArray := ⟨#[98]⟩
theorem sB_ch : ch sB 0 = 98 := by decide
theorem sB_size : sB.size = 1 := rfl
theorem beg_B (F : Nat → Nat) (E : Nat) : beg F E sB 0 0 = (2, false) := by
  rw [beg, if_pos (by decide), sB_ch, if_neg (by decide)]
  rfl
theorem first_B : firstN (fun _ => 65) (fun _ => sB) 1 = fun j => if j = 0 then 2 else 0 := by
  have hT : ∀ E F, fTo (fun _ => 65) (fun _ => sB) E F 1 = upd F 0 2 := fun E F => by
    rw [fTo, fTo, beg_B]
    rfl
  have key : ∀ E m, rep (fun F => fTo (fun _ => 65) (fun _ => sB) E F 1) (m + 1) (fun _ => 0) = fun j => if j = 0 then 2 else 0 := by
    intro E m
    induction m with
    | zero =>
      rw [rep, rep, hT]
      funext j
      unfold upd
      split <;> simp_all
    | succ m ih =>
      rw [rep, ih, hT]
      funext j
      unfold upd
      split <;> simp_all
  exact key _ 24
theorem five_eq23 (a b c d e : Int) (w : World) : (Op.equalIn 10000 23 (.agg #[.int .i64 a, .int .i64 b, .int .i64 c, .int .i64 d, .int .i64 e]) (.agg #[.int .i64 a, .int .i64 b, .int .i64 c, .int .i64 d, .int .i64 e])).run Tryd.prog w = .ok true w := by
  have u3 := Tryd.underlying3
  have a3 := Tryd.isAgg3
  have z3 := Tryd.sizeOf3
  rw [show (10000 : Nat) = 9999 + 1 from rfl, Op.equalIn]
  simp only [Sem.run_bind, run_underlying Tryd.underlying23, Result.andThen_ok]
  simp only [Std.Legacy.Range.forIn_eq_forIn_range', Std.Legacy.Range.size, Nat.sub_zero, Nat.add_sub_cancel, Nat.div_one, List.range'_succ, List.range'_zero, List.forIn_cons, List.forIn_nil]
  go_simp
theorem gram_B : Gram (fun _ => 65) (fun _ => sB) 1 := by
  refine ⟨by omega, fun k hk => ⟨by decide, by rw [sB_size]; omega, fun i hi => ?_, fun j hj => by omega⟩⟩
  rw [sB_size] at hi
  obtain rfl : i = 0 := by omega
  exact .inr (by decide)
set_option maxHeartbeats 4000000 in
set_option maxRecDepth 100000 in
theorem awake_calls (w : World) : Calls Tryd.prog 22 #[] w fun e w' => e = .returned (.bool true) ∧ Below w.heap.size w w' := by
  go_enter Tryd.func22, Tryd.ntmps22
  go_wp2_with fail
  have hbA := below_one (w := w) (.cells #[.int .u8 65, .string sB] 60)
  obtain ⟨d0, d1⟩ := rule_new w 60 65 sB
  obtain ⟨w0, hw0⟩ : ∃ w0, w0 = w.alloc (.cells #[.int .u8 65, .string sB] 60) := ⟨_, rfl⟩
  rw [← hw0] at hbA d0 d1
  unfold sB at hw0
  rw [← hw0]
  have hS : Sr w0 (some ⟨w.heap.size, 0, none⟩) 1 1 (fun _ => 65) (fun _ => sB) := .inr ⟨w.heap.size, 0, rfl, Nat.le_refl _, fun i hi => by
    obtain rfl : i = 0 := by omega
    exact d0, fun i hi => by
    obtain rfl : i = 0 := by omega
    exact d1⟩
  refine (First_yes _ 1 1 _ _ w0 hS gram_B).mono ?_
  rintro e w1 ⟨rfl, hb1⟩
  have HB := Lib.hid (hbA.trans (hb1.mono hbA.size))
  rw [first_B]
  clear hw0 hb1 hbA d0 d1 hS
  unfold agg5
  have h23 : Tryd.prog.eqGuardType Tryd.prog.depth 23 = false := by kernel_rfl
  have q23 := five_eq23 2 0 0 0 0
  go_wp2
  have hbA := below_one (w := w1) (.cells (cells5 fun j => if j = 0 then 2 else 0) 23)
  simp [cells5] at hbA
  have HB2 := Lib.hid (HB.out.trans (hbA.mono HB.out.size))
  go_ret
  exact ⟨rfl, HB2.out⟩
end Go.Proofs.YtjpfalanoifpbaaDoor.X
end

section
set_option linter.unusedVariables false
set_option linter.unusedSimpArgs false
namespace Go.Proofs.YtjpfalanoifpbaaDoor.X
open Go.RowKit Go.Proofs.YtjpfalanoifpbaaDoorW.PrintWords Go.Proofs.YtjpfalanoifpbaaDoorW.PrintLast Go.Proofs.YtjpfalanoifpbaaDoorW.PrintMore Go.Proofs.YtjpfalanoifpbaaDoor.T
theorem Sr.congr {w : World} {A : Option Addr} {n c : Nat} {L : Nat → Int} {R R' : Nat → ByteArray} (h : Sr w A n c L R') (hR : ∀ k, k < n → R' k = R k) : Sr w A n c L R := by
  rcases h with h | ⟨b, off, h1, h2, h3⟩
  · exact .inl h
  · exact .inr ⟨b, off, h1, h2, h3.c0, fun i hi => by rw [← hR i hi]; exact h3.c1 i hi⟩
theorem Gram.congr {n : Nat} {L : Nat → Int} {R R' : Nat → ByteArray} (h : Gram L R' n) (hR : ∀ k, k < n → R' k = R k) : Gram L R n := by
  refine ⟨h.1, fun k hk => ?_⟩
  have q := h.2 k hk
  refine ⟨q.p, by rw [← hR k hk]; exact q.sz, by rw [← hR k hk]; exact q.ok, fun j hj => ?_⟩
  rw [← hR k hk, ← hR j (by omega)]
  exact q.new j hj
theorem mnN_le (a b : Nat) : mnN a b ≤ a ∧ mnN a b ≤ b := by unfold mnN; split <;> omega
theorem cut_gram {n : Nat} {L : Nat → Int} {R : Nat → ByteArray} (h : Gram L (fun k => cut12 (R k)) (mnN n 11)) : Gram L R n := by
  have h8 := h.1
  have hn : mnN n 11 = n := by unfold mnN at h8 ⊢; split <;> simp_all <;> omega
  rw [hn] at h
  refine h.congr fun k hk => cut12_self ?_
  have := (h.2 k hk).sz
  simp only [cut12_size] at this
  unfold mnN at this
  split at this <;> omega
theorem gram_cut {n : Nat} {L : Nat → Int} {R : Nat → ByteArray} (h : Gram L R n) : mnN n 11 = n ∧ ∀ k, k < n → cut12 (R k) = R k := by
  have h8 := h.1
  refine ⟨by unfold mnN; split <;> omega, fun k hk => cut12_self (Nat.le_trans (h.2 k hk).sz (by decide))⟩
theorem Of_yes (A : Option Addr) (n c : Nat) (L : Nat → Int) (R : Nat → ByteArray) (w : World) (hA : Sr w A n c L R) (hn : n ≤ 9223372036854775807) (hR : ∀ k, k < n → (R k).size ≤ 9223372036854775807) (hg : Gram L R n) :
    Calls Tryd.prog 18 #[.slice A n c] w fun e w' => (∃ A' c', e = .returned (.slice A' n c') ∧ Sr w' A' n c' L R) ∧ Below w.heap.size w w' := by
  refine (Of_calls A n c L R w hA hn hR).mono ?_
  obtain ⟨h1, h2⟩ := gram_cut hg
  rintro e w1 ⟨⟨A', c', rfl, hS⟩, hb⟩
  rw [h1] at hS ⊢
  exact ⟨⟨A', c', rfl, hS.congr h2⟩, hb⟩
end Go.Proofs.YtjpfalanoifpbaaDoor.X
end

section
set_option linter.unusedVariables false
namespace Go.Proofs.YtjpfalanoifpbaaDoor.X
open Go.RowKit Go.WideShapes Go.WideMaps Go.Deep Go.ChangeShapes Go.Proofs.YtjpfalanoifpbaaDoorW.PrintWords Go.Proofs.YtjpfalanoifpbaaDoorW.PrintLast Go.Proofs.YtjpfalanoifpbaaDoorW.PrintMore Go.Proofs.YtjpfalanoifpbaaDoor.T
theorem cells44 : Tryd.prog.cellsOf 44 = 2 := by kernel_rfl
theorem cells5_ : Tryd.prog.cellsOf 5 = 1 := by kernel_rfl
theorem cells9_ : Tryd.prog.cellsOf 9 = 1 := by kernel_rfl
set_option maxRecDepth 10000 in
theorem rule_trod {H : Type} {enc : TypeId × Value → H} {w : World} {base : Nat} {sp : Nat → Bool} {held : Bool} {fuel : Nat} {cs : List Value} {x : DataW H × List MemPlace} (h : DataW.trod enc Tryd.prog w base sp held fuel 44 cs = some x) : ∃ (a : Int) (s : ByteArray), cs = [.int .u8 a, .string s] ∧ s.size ≤ 9223372036854775807 := by
  obtain ⟨y0, y1, m, _, hl, h0, h1⟩ := trod_struct2 Tryd.underlying44 h
  rw [cells44] at hl
  match cs, hl with
  | [c0, c1], _ =>
    dsimp only at h0 h1
    rw [cells5_] at h0
    rw [cells9_] at h1
    obtain ⟨a, e0, _⟩ := DataW.trod_int Tryd.underlying5 h0
    obtain ⟨s, e1, _, hs⟩ := DataW.trod_string Tryd.underlying9 h1
    simp at e0 e1
    unfold maxLen at hs
    exact ⟨a, s, by rw [e0, e1], by omega⟩
theorem open_rls {H : Type} {enc : TypeId × Value → H} {w : World} {base : Nat} {held : Bool} {fuel : Nat} {A : Option Addr} {n c : Nat} {x : DataW H × List MemPlace} (h : DataW.trod enc Tryd.prog w base (fun _ => true) held fuel 22 [.slice A n c] = some x) :
    (∃ L R, Sr w A n c L R ∧ ∀ k, k < n → (R k).size ≤ 9223372036854775807) ∧ n ≤ 9223372036854775807 ∧ c ≤ 9223372036854775807 := by
  rcases open_slice Tryd.underlying22 h with ⟨hcs, _⟩ | ⟨a, len, cap, m, k, D, Pl, hcs, _, hl, hm, hmm, _, hx⟩
  · simp at hcs
    obtain ⟨rfl, rfl, rfl⟩ := hcs
    exact ⟨⟨fun _ => 0, fun _ => ByteArray.empty, .inl rfl, fun k hk => by omega⟩, by decide, by decide⟩
  · simp at hcs
    obtain ⟨rfl, rfl, rfl⟩ := hcs
    unfold maxLen at hm
    refine ⟨?_, by omega, by omega⟩
    rcases Nat.eq_zero_or_pos n with h0 | h0
    · exact ⟨fun _ => 0, fun _ => ByteArray.empty, .inl h0, fun k hk => by omega⟩
    · have hnm : n ≤ m := by rw [hmm]; simpa using hl
      obtain ⟨f, hf⟩ := choose_lt (α := Int × ByteArray) (n := n) (p := fun i q => w.cell? (a.add (i * 2)) = some (.int .u8 q.1) ∧ w.cell? (a.add (i * 2 + 1)) = some (.string q.2) ∧ q.2.size ≤ 9223372036854775807) (fun i hi => by
        obtain ⟨cs', h1, h2⟩ := hx i (by omega)
        obtain ⟨p, q, rfl, hq⟩ := rule_trod h2
        rw [cells44] at h1
        obtain ⟨_, _, h3⟩ := World.cells?_some h1
        refine ⟨(p, q), ?_, ?_, hq⟩
        · have := h3 0 (by decide)
          rw [Addr.add_add] at this
          simpa using this
        · have := h3 1 (by decide)
          rw [Addr.add_add] at this
          simpa using this)
      have hsp : a.spot = none := by
        have := (hf 0 h0).1
        rw [show a.add (0 * 2) = a by simp [Addr.add]] at this
        exact World.cell?_spot this
      have ha : ∀ j, a.add j = ⟨a.block, a.off + j, none⟩ := fun j => by
        unfold Addr.add
        by_cases hj : j = 0
        · subst hj
          rw [if_pos rfl, ← hsp]
          simp
        · rw [if_neg hj]
      refine ⟨fun i => (f i).1, fun i => (f i).2, .inr ⟨a.block, a.off, ?_, hl, fun i hi => ?_, fun i hi => ?_⟩, fun i hi => (hf i hi).2.2⟩
      · rw [← hsp]
      · rw [← ha]; exact (hf i hi).1
      · rw [Nat.add_assoc, ← ha]; exact (hf i hi).2.1
theorem open_rlsT {H : Type} {enc : TypeId × Value → H} {w : World} {base : Nat} {held : Bool} {A : Option Addr} {n c : Nat} {d : DataW H} {pl : List MemPlace} (h : DataW.Trod enc Tryd.prog w base (fun _ => true) held 22 (.slice A n c) d pl) :
    (∃ L R, Sr w A n c L R ∧ ∀ k, k < n → (R k).size ≤ 9223372036854775807) ∧ n ≤ 9223372036854775807 ∧ c ≤ 9223372036854775807 := by
  obtain ⟨m, hm⟩ := h
  exact open_rls hm
end Go.Proofs.YtjpfalanoifpbaaDoor.X
end

section
set_option linter.unusedVariables false
set_option linter.unusedSimpArgs false
set_option linter.unusedSectionVars false
namespace Go.Proofs.YtjpfalanoifpbaaDoor.X
open Go.RowKit Go.Proofs.YtjpfalanoifpbaaDoorW.PrintWords Go.Proofs.YtjpfalanoifpbaaDoorW.PrintLast Go.Proofs.YtjpfalanoifpbaaDoorW.PrintMore
section
variable {α β : Type} [DecidableEq α]
def findL (l : List (α × β)) (k : α) : Option β := match l with
  | [] => none
  | p :: r => if p.1 = k then some p.2 else findL r k
def putL (l : List (α × β)) (k : α) (v : β) : List (α × β) := match l with
  | [] => [(k, v)]
  | p :: r => if p.1 = k then (k, v) :: r else p :: putL r k v
theorem findL_putL (l : List (α × β)) (k k' : α) (v : β) : findL (putL l k v) k' = if k = k' then some v else findL l k' := by
  induction l with
  | nil => simp [putL, findL]
  | cons p r ih =>
    unfold putL
    split
    · rename_i h
      subst h
      unfold findL
      simp only
      split <;> rfl
    · rename_i h
      unfold findL
      split
      · rename_i h2
        subst h2
        rw [if_neg (fun e => h e.symm)]
      · exact ih
structure KeyOk (P : Program) (K : TypeId) (enc : α → Value) : Prop where
  inj : ∀ a b, enc a = enc b → a = b
  check : ∀ b k w, (Instr.checkKey b 10000 K (enc k)).run P w = .ok () w
  find : ∀ (k : α) (es : List MapEntry) (l : List α) w, es.map (·.key) = l.map enc → (Instr.findKey K (enc k) es).run P w = .ok ((es[l.findIdx (· = k)]?).map fun e => (l.findIdx (· = k), e.val)) w
  stays : ∀ k w, (Instr.keyThatStays (enc k) (enc k)).run P w = .ok (enc k) w
def IsM (enc : α → Value) (encv : β → Value) (w : World) (r : Nat) (l : List (α × β)) : Prop :=
  ∃ es clock, w.heap[r]? = some (.map es clock) ∧ es.toList.map (fun e => (e.key, e.val)) = (l.map fun p => (enc p.1, encv p.2)) ∧ Go.MapKept.Stamped es clock
def putObj (w : World) (r : Nat) (o : Obj) : World := { w with heap := w.heap.setIfInBounds r o }
theorem putObj_keep (w : World) (r : Nat) (o : Obj) : KeepBut w (putObj w r o) r none :=
  ⟨by simp [putObj], fun i _ hne _ => by simp only [putObj]; exact Array.getElem?_setIfInBounds_ne (Ne.symm hne)⟩
theorem putObj_below {B : Nat} {a w : World} (h : Below B a w) {r : Nat} (hr : B ≤ r) (o : Obj) : Below B a (putObj w r o) :=
  h.trans ⟨rfl, rfl, rfl, by simp [putObj], fun k hk => by simp only [putObj]; exact Array.getElem?_setIfInBounds_ne (by omega)⟩
theorem putObj_at {w : World} {r : Nat} {o o' : Obj} (h : w.heap[r]? = some o') : (putObj w r o).heap[r]? = some o := by
  simp only [putObj]
  exact Array.getElem?_setIfInBounds_self_of_lt (Array.getElem?_eq_some_iff.1 h).1
theorem findIdx_none {l : List (α × β)} {k : α} (h : findL l k = none) : (l.map (·.1)).findIdx (· = k) = l.length := by
  induction l with
  | nil => rfl
  | cons p r ih =>
    unfold findL at h
    split at h
    · cases h
    · rename_i hne
      simp only [List.map_cons, List.findIdx_cons, decide_eq_true_eq, hne, decide_false, cond_false, List.length_cons, ih h]
theorem findIdx_some {l : List (α × β)} {k : α} {v : β} (h : findL l k = some v) : l[(l.map (·.1)).findIdx (· = k)]? = some (k, v) ∧ putL l k v = l := by
  induction l with
  | nil => cases h
  | cons p r ih =>
    unfold findL at h
    split at h
    · rename_i he
      injection h with h
      subst he
      subst h
      simp [List.findIdx_cons, putL]
    · rename_i hne
      obtain ⟨h1, h2⟩ := ih h
      simp only [List.map_cons, List.findIdx_cons, hne, decide_false, cond_false, List.getElem?_cons_succ, putL, if_false, h1, h2, and_self]
theorem findL_not {l : List (α × β)} {k : α} (h : findL l k = none) : ∀ p ∈ l, p.1 ≠ k := by
  induction l with
  | nil => intro p hp; cases hp
  | cons q r ih =>
    unfold findL at h
    split at h
    · cases h
    · rename_i hne
      intro p hp
      rcases List.mem_cons.1 hp with rfl | hp
      · exact hne
      · exact ih h p hp
theorem findL_mem {l : List (α × β)} {k : α} {v : β} (h : findL l k = some v) : (k, v) ∈ l := by
  induction l with
  | nil => cases h
  | cons q r ih =>
    unfold findL at h
    split at h
    · rename_i e
      injection h with h
      subst e
      subst h
      exact List.mem_cons.2 (.inl rfl)
    · exact List.mem_cons.2 (.inr (ih h))
theorem putL_none {l : List (α × β)} {k : α} {v : β} (h : findL l k = none) : putL l k v = l ++ [(k, v)] := by
  induction l with
  | nil => rfl
  | cons p r ih =>
    unfold findL at h
    split at h
    · cases h
    · rename_i hne
      simp [putL, hne, ih h]
theorem putL_some {l : List (α × β)} {k : α} {u v : β} (h : findL l k = some u) : putL l k v = l.set ((l.map (·.1)).findIdx (· = k)) (k, v) := by
  induction l with
  | nil => cases h
  | cons p r ih =>
    unfold findL at h
    split at h
    · rename_i he
      subst he
      simp [putL, List.findIdx_cons]
    · rename_i hne
      simp [putL, hne, List.findIdx_cons, ih h]
theorem IsM.new (enc : α → Value) (encv : β → Value) (w : World) : IsM enc encv (w.alloc (.map #[] 0)) w.heap.size [] :=
  ⟨#[], 0, (Go.MapKept.heap_alloc w _).1, rfl, Go.MapKept.stamped_empty 0⟩
theorem IsM.of_heap {enc : α → Value} {encv : β → Value} {w w' : World} {r : Nat} {l : List (α × β)} (h : IsM enc encv w r l) (he : w'.heap[r]? = w.heap[r]?) : IsM enc encv w' r l := by
  obtain ⟨es, clock, hb, hl, hst⟩ := h
  exact ⟨es, clock, he.trans hb, hl, hst⟩
theorem IsM.lt {enc : α → Value} {encv : β → Value} {w : World} {r : Nat} {l : List (α × β)} (h : IsM enc encv w r l) : r < w.heap.size := by
  obtain ⟨es, clock, hb, hl, hst⟩ := h
  exact (Array.getElem?_eq_some_iff.1 hb).1
theorem IsM.below {enc : α → Value} {encv : β → Value} {w w' : World} {r : Nat} {l : List (α × β)} (h : IsM enc encv w r l) (hb : Below w.heap.size w w') : IsM enc encv w' r l :=
  h.of_heap (hb.block r h.lt)
theorem IsM.setCell {enc : α → Value} {encv : β → Value} {w : World} {r : Nat} {l : List (α × β)} (h : IsM enc encv w r l) (p : Addr) (u : Value) : IsM enc encv (w.setCell p u) r l := by
  obtain ⟨es, clock, hb, hl, hst⟩ := h
  refine ⟨es, clock, ?_, hl, hst⟩
  simp only [World.setCell, Array.getElem?_modify]
  split
  · rename_i e
    subst e
    simp [hb]
  · exact hb
theorem run_findKey_is {P : Program} {K : TypeId} {enc : α → Value} {encv : β → Value} (hK : KeyOk P K enc) {es : Array MapEntry} {l : List (α × β)} (hl : es.toList.map (fun e => (e.key, e.val)) = l.map fun p => (enc p.1, encv p.2)) (k : α) (w : World) :
    (Instr.findKey K (enc k) es.toList).run P w = .ok ((findL l k).map fun v => ((l.map (·.1)).findIdx (· = k), encv v)) w := by
  have hk : es.toList.map (·.key) = (l.map (·.1)).map enc := by
    have := congrArg (List.map Prod.fst) hl
    simpa [List.map_map, Function.comp_def] using this
  have hv : es.toList.map (·.val) = l.map fun p => encv p.2 := by
    have := congrArg (List.map Prod.snd) hl
    simpa [List.map_map, Function.comp_def] using this
  rw [hK.find k es.toList (l.map (·.1)) w hk]
  congr 1
  cases hf : findL l k with
  | none =>
    have hlen : es.toList.length = l.length := by simpa using congrArg List.length hl
    rw [findIdx_none hf, List.getElem?_eq_none (by omega)]
    rfl
  | some v =>
    obtain ⟨h1, _⟩ := findIdx_some hf
    have h2 : (es.toList.map (·.val))[(l.map (·.1)).findIdx (· = k)]? = some (encv v) := by
      rw [hv, List.getElem?_map, h1]
      rfl
    rw [List.getElem?_map] at h2
    cases he : es.toList[(l.map (·.1)).findIdx (· = k)]? with
    | none => rw [he] at h2; cases h2
    | some e =>
      rw [he] at h2
      simp only [Option.map_some, Option.some.injEq] at h2 ⊢
      rw [h2]
theorem run_lookup_is {P : Program} {t K E : TypeId} {enc : α → Value} {encv : β → Value} (hu : P.underlying t = some (.map K E)) {z : β} (hz : ∀ w, (zeroValue E).run P w = .ok (encv z) w) (hK : KeyOk P K enc) {w : World} {r : Nat} {l : List (α × β)} (h : IsM enc encv w r l) (k : α) (b : Bool) :
    (Instr.lookup t (.map (some r)) (enc k) b).run P w = .ok (if b then .tuple #[encv ((findL l k).getD z), .bool (findL l k).isSome] else encv ((findL l k).getD z)) w := by
  obtain ⟨es, clock, hb, hl, hst⟩ := h
  unfold Instr.lookup
  simp only [Sem.run_bind, run_underlying hu, Result.andThen, getObj, Sem.run, hb, Sem.run_pure, hK.check, run_findKey_is hK hl]
  cases hf : findL l k with
  | none => simp [hz, Result.andThen]
  | some v => simp [Result.andThen]
theorem run_update_is {P : Program} {t K E : TypeId} {enc : α → Value} {encv : β → Value} (hu : P.underlying t = some (.map K E)) (hK : KeyOk P K enc) {w : World} {r : Nat} {l : List (α × β)} (h : IsM enc encv w r l) (k : α) (v : β) :
    ∃ o, (Instr.mapUpdate t (.map (some r)) (enc k) (encv v)).run P w = .ok () (putObj w r o) ∧ IsM enc encv (putObj w r o) r (putL l k v) := by
  obtain ⟨es, clock, hb, hl, hst⟩ := h
  have hlen : es.toList.length = l.length := by simpa using congrArg List.length hl
  cases hf : findL l k with
  | none =>
    refine ⟨.map (es.push { key := enc k, val := encv v, born := clock }) (clock + 1), ?_, _, _, putObj_at hb, ?_, ?_⟩
    · unfold Instr.mapUpdate
      simp only [Sem.run_bind, run_underlying hu, Result.andThen, getObj, Sem.run, hb, Sem.run_pure, hK.check, run_findKey_is hK hl, hf, Option.map_none]
      exact Go.MapKept.run_setObj_map _ hb
    · rw [putL_none hf]
      simp [hl]
    · refine Go.MapKept.stamped_push hst fun x hx hxk => ?_
      have h3 : (x.key, x.val) ∈ es.toList.map fun e => (e.key, e.val) := List.mem_map.2 ⟨x, hx, rfl⟩
      rw [hl] at h3
      obtain ⟨p, hp, e⟩ := List.mem_map.1 h3
      have e1 : enc p.1 = x.key := congrArg Prod.fst e
      rw [hxk] at e1
      exact findL_not hf p hp (hK.inj _ _ e1)
  | some u =>
    obtain ⟨h1, _⟩ := findIdx_some hf
    have hidx : (l.map (·.1)).findIdx (· = k) < es.size := by
      have := (List.getElem?_eq_some_iff.1 h1).1
      have h2 : es.size = es.toList.length := rfl
      omega
    have hkey : ((es[(l.map (·.1)).findIdx (· = k)]?).map (·.key)).getD (enc k) = enc k := by
      have h3 : (es.toList.map fun e => (e.key, e.val))[(l.map (·.1)).findIdx (· = k)]? = some (enc k, encv u) := by
        rw [hl, List.getElem?_map, h1]
        rfl
      rw [List.getElem?_map] at h3
      rw [← Array.getElem?_toList]
      cases he : es.toList[(l.map (·.1)).findIdx (· = k)]? with
      | none => rw [he] at h3; cases h3
      | some e =>
        rw [he] at h3
        simp only [Option.map_some, Option.some.injEq, Prod.mk.injEq] at h3
        simp [h3.1]
    refine ⟨.map (es.modify ((l.map (·.1)).findIdx (· = k)) fun e => { e with key := enc k, val := encv v }) clock, ?_, _, _, putObj_at hb, ?_, ?_⟩
    · unfold Instr.mapUpdate
      simp only [Sem.run_bind, run_underlying hu, Result.andThen, getObj, Sem.run, hb, Sem.run_pure, hK.check, run_findKey_is hK hl, hf, Option.map_some, hkey, hK.stays]
      exact Go.MapKept.run_setObj_map _ hb
    rotate_left
    · refine Go.MapKept.stamped_modify hst _ _ (fun e _ => rfl) fun e he hei => ?_
      rw [hei] at hkey
      exact hkey.symm
    · rw [putL_some hf, List.map_set, ← hl]
      clear hkey hlen hl h1
      generalize (l.map (·.1)).findIdx (· = k) = ix at hidx ⊢
      simp only [Array.toList_modify]
      apply List.ext_getElem?
      intro j
      simp only [List.getElem?_map, List.getElem?_modify, List.getElem?_set]
      by_cases hj : ix = j
      · subst hj
        have : es.toList[ix]? = some (es.toList[ix]'(by simpa using hidx)) := List.getElem?_eq_getElem _
        rw [this]
        simp [hidx]
      · simp [hj]
end
theorem findNow_of {d : TypeDesc} {α : Type} [DecidableEq α] {enc : α → Value} (hs : ∀ a b, Instr.sameNow d (enc a) (enc b) = some (decide (a = b))) (k : α) : ∀ (es : List MapEntry) (l : List α) (i : Nat), es.map (·.key) = l.map enc →
    Instr.findNow d (enc k) es i = some ((es[l.findIdx (· = k)]?).map fun e => (i + l.findIdx (· = k), e.val))
  | [], [], i, _ => rfl
  | [], _ :: _, _, h => by simp at h
  | _ :: _, [], _, h => by simp at h
  | e :: es, a :: l, i, h => by
    simp only [List.map_cons, List.cons.injEq] at h
    unfold Instr.findNow
    rw [h.1, hs]
    by_cases hk : k = a
    · subst hk
      simp [List.findIdx_cons]
    · have hk' : ¬ a = k := fun e => hk e.symm
      simp only [hk, decide_false, List.findIdx_cons, hk', cond_false, List.getElem?_cons_succ]
      rw [findNow_of hs k es l (i + 1) h.2]
      congr 2
      funext e
      congr 1
      omega
theorem keyOk_int {P : Program} {K : TypeId} {kd : IntKind} (hu : P.underlying K = some (.int kd)) : KeyOk P K (Value.int kd) where
  inj := fun a b h => by injection h
  check := fun b k w => Go.MapKept.run_checkKey hu (show Go.MapKept.IsKey (.int kd) (.int kd k) from rfl) b 9999
  find := fun k es l w h => by
    have := Go.MapKept.run_findKey (P := P) (w := w) hu (findNow_of (d := .int kd) (enc := Value.int kd) (fun a b => by simp only [Instr.sameNow, if_true]; congr 1) k es l 0 h)
    simpa using this
  stays := fun k w => by simp [Instr.keyThatStays, Instr.sameBits]
section
variable {P : Program} {ops : Array Oper} {rest : List Oper} {o : Oper} {a : Act} {Q : Exit → Act → World → Prop} {W : World} {α β : Type} [DecidableEq α] {enc : α → Value} {encv : β → Value}
theorem gate_op {op : Op} (_ho : o.op = op) (h : wpList P ops Q (o :: rest) a W) : wpList P ops Q (o :: rest) a W := h
theorem map_make_event (hgd : o.guard = none) (t : TypeId) (ho : o.op = .makeMap t none)
    (h : ∀ r w1, r = W.heap.size → w1.heap[r]? = some (.map #[] 0) → Below W.heap.size W w1 → wpList P ops Q rest (a.put o.dst (.map (some r))) w1) : wpList P ops Q (o :: rest) a W := by
  refine Kd.event_run hgd (w1 := W.alloc (.map #[] 0)) (v := .map (some W.heap.size)) ?_ (h _ _ rfl (Go.MapKept.heap_alloc W _).1 (below_alloc (Below.refl _ _) _))
  unfold execOp
  simp only [ho, Option.map_none]
  rfl
theorem map_put_event (hgd : o.guard = none) (t : TypeId) (m k x : Operand) (ho : o.op = .insert t m k x ∨ o.op = .mapUpdate t m k x) {K E : TypeId} (hu : P.underlying t = some (.map K E)) (hK : KeyOk P K enc) {r : Nat} {l : List (α × β)} (kk : α) (xx : β)
    (hm : a.eval m = .map (some r)) (hk : a.eval k = enc kk) (hx : a.eval x = encv xx) (hM : IsM enc encv W r l)
    (h : ∀ w1, IsM enc encv w1 r (putL l kk xx) → KeepBut W w1 r none → (∀ B u, Below B u W → B ≤ r → Below B u w1) → wpList P ops Q rest (a.put o.dst undef) w1) : wpList P ops Q (o :: rest) a W := by
  obtain ⟨ob, h1, h2⟩ := run_update_is hu hK hM kk xx
  refine wpList_plain hgd fun Kc hKc => ?_
  have hrun : (execOp a.eval o).run P W = .ok .skip (putObj W r ob) := by
    unfold execOp
    rcases ho with ho | ho <;> simp [ho, hm, hk, hx, h1, Result.andThen]
  unfold Oper.wp
  rw [hrun]
  exact hKc _ _ (h _ h2 (putObj_keep W r ob) (fun B u hb hr => putObj_below hb hr ob))
end
end Go.Proofs.YtjpfalanoifpbaaDoor.X
end

section
set_option linter.unusedVariables false
namespace Go.Proofs.YtjpfalanoifpbaaDoor.T
theorem ch_end (s : ByteArray) (i : Nat) (h : s.size ≤ i) : ch s i = 0 := by
  unfold ch
  rw [dif_neg (by omega)]
section
variable (M : Nat) (sw : Nat → Int) (L : Nat → Int) (rt : Nat → List Int) (n N : Nat) (a : Cnt)
def nx (i j k : Nat) : Cnt := fun c x y => if x ≤ y ∧ y ≤ N then (if x < i ∨ (x = i ∧ y < j) then cR M sw a L rt c x y n else if x = i ∧ y = j then cR M sw a L rt c x y k else 0) else 0
variable {M sw L rt n N a}
end
def ix (p i j : Nat) : Nat := p * 81 + i * 9 + j
def c405 {α : Type} (v : Nat → α) (F : Nat → Nat → Nat → Nat) : Array α := Array.ofFn (n := 405) fun q => v (F (q.val / 81) (q.val / 9 % 9) (q.val % 9))
theorem ix_div {p i j : Nat} (hi : i < 9) (hj : j < 9) : ix p i j / 81 = p ∧ ix p i j / 9 % 9 = i ∧ ix p i j % 9 = j := by
  unfold ix
  omega
theorem ix_lt {p i j : Nat} (hp : p < 5) (hi : i < 9) (hj : j < 9) : ix p i j < 405 := by
  unfold ix
  omega
theorem ix_inj {p i j q : Nat} (hi : i < 9) (hj : j < 9) : q = ix p i j ↔ q / 81 = p ∧ q / 9 % 9 = i ∧ q % 9 = j := by
  unfold ix
  omega
theorem c405_at {α : Type} (v : Nat → α) (F : Nat → Nat → Nat → Nat) {p i j : Nat} (hp : p < 5) (hi : i < 9) (hj : j < 9) : (c405 v F)[ix p i j]? = some (v (F p i j)) := by
  obtain ⟨h1, h2, h3⟩ := ix_div (p := p) hi hj
  have h := ix_lt hp hi hj
  unfold c405
  rw [Array.getElem?_ofFn, dif_pos h, h1, h2, h3]
def put3 (F : Nat → Nat → Nat → Nat) (p i j m : Nat) : Nat → Nat → Nat → Nat := fun p' i' j' => if p' = p ∧ i' = i ∧ j' = j then m else F p' i' j'
theorem c405_set {α : Type} (v : Nat → α) (F : Nat → Nat → Nat → Nat) {p i j : Nat} (hp : p < 5) (hi : i < 9) (hj : j < 9) (m : Nat) : (c405 v F).setIfInBounds (ix p i j) (v m) = c405 v (put3 F p i j m) := by
  apply Array.ext_getElem?
  intro q
  unfold c405 put3
  rw [Array.getElem?_setIfInBounds, Array.getElem?_ofFn, Array.getElem?_ofFn]
  have hlt := ix_lt hp hi hj
  by_cases h : ix p i j = q
  · subst h
    obtain ⟨h1, h2, h3⟩ := ix_div (p := p) hi hj
    have hsz : ix p i j < (Array.ofFn (n := 405) fun q => v (F (q.val / 81) (q.val / 9 % 9) (q.val % 9))).size := by rw [Array.size_ofFn]; exact hlt
    rw [if_pos rfl, if_pos hsz, dif_pos hlt, h1, h2, h3, if_pos ⟨rfl, rfl, rfl⟩]
  · rw [if_neg h]
    split
    · have : ¬ (q / 81 = p ∧ q / 9 % 9 = i ∧ q % 9 = j) := fun e => h ((ix_inj hi hj).2 e).symm
      rw [if_neg this]
    · rfl
end Go.Proofs.YtjpfalanoifpbaaDoor.T
end

section
set_option linter.unusedVariables false
namespace Go.Proofs.YtjpfalanoifpbaaDoor.T
section
variable (sw : Nat → Int) (L : Nat → Int) (rt : Nat → List Int) (n N t : Nat)
def full : Nat → Nat → Nat → Nat := fun p i j => if i ≤ j ∧ j ≤ N then cA 101 sw L rt n t (65 + p) i j else 0
variable {sw L rt n N t}
end
end Go.Proofs.YtjpfalanoifpbaaDoor.T
end

section
set_option linter.unusedVariables false
set_option linter.unusedSimpArgs false
namespace Go.Proofs.YtjpfalanoifpbaaDoor.X
open Go.RowKit Go.Proofs.YtjpfalanoifpbaaDoorW.PrintWords Go.Proofs.YtjpfalanoifpbaaDoorW.PrintLast Go.Proofs.YtjpfalanoifpbaaDoorW.PrintMore Go.Proofs.YtjpfalanoifpbaaDoor.T
abbrev Tri := Int × Nat × Nat
def triV (u : Tri) : Value := .agg #[.int .i64 u.1, .int .i64 (u.2.1 : Nat), .int .i64 (u.2.2 : Nat)]
def natV (x : Nat) : Value := .int .i64 (x : Int)
theorem tri_eq (a b c a' b' c' : Int) (w : World) : (Op.equalIn 10000 139 (.agg #[.int .i64 a, .int .i64 b, .int .i64 c]) (.agg #[.int .i64 a', .int .i64 b', .int .i64 c'])).run Tryd.prog w = .ok (a == a' && (b == b' && c == c')) w := by
  have u3 := Tryd.underlying3
  have a3 := Tryd.isAgg3
  have z3 := Tryd.sizeOf3
  rw [show (10000 : Nat) = 9999 + 1 from rfl, Op.equalIn]
  simp only [Sem.run_bind, run_underlying Tryd.underlying139, Result.andThen_ok]
  simp only [Std.Legacy.Range.forIn_eq_forIn_range', Std.Legacy.Range.size, Nat.sub_zero, Nat.add_sub_cancel, Nat.div_one, List.range'_succ, List.range'_zero, List.forIn_cons, List.forIn_nil]
  go_simp
  by_cases h1 : a = a' <;> by_cases h2 : b = b' <;> by_cases h3 : c = c' <;> simp [h1, h2, h3]
theorem tri_check (em : Bool) (u : Tri) (w : World) : (Instr.checkKey em 10000 139 (triV u)).run Tryd.prog w = .ok () w := by
  have u3 := Tryd.underlying3
  have a3 := Tryd.isAgg3
  have z3 := Tryd.sizeOf3
  unfold triV
  rw [show (10000 : Nat) = 9998 + 1 + 1 from rfl, Instr.checkKey]
  simp only [Sem.run_bind, run_underlying Tryd.underlying139, Result.andThen_ok]
  simp only [Std.Legacy.Range.forIn_eq_forIn_range', Std.Legacy.Range.size, Nat.sub_zero, Nat.add_sub_cancel, Nat.div_one, List.range'_succ, List.range'_zero, List.forIn_cons, List.forIn_nil]
  have hk : ∀ (a : Int) w, (Instr.checkKey em (9998 + 1) 3 (.int .i64 a)).run Tryd.prog w = .ok () w := fun a w => Go.MapKept.run_checkKey u3 (show Go.MapKept.IsKey (.int .i64) (.int .i64 a) from rfl) em 9998
  go_simp
theorem tri_dec (k a : Tri) : (k.1 == a.1 && ((k.2.1 : Int) == (a.2.1 : Int) && (k.2.2 : Int) == (a.2.2 : Int))) = decide (a = k) := by
  obtain ⟨x, y, z⟩ := k
  obtain ⟨x', y', z'⟩ := a
  rw [Bool.eq_iff_iff]
  simp only [Bool.and_eq_true, beq_iff_eq, decide_eq_true_eq, Prod.mk.injEq]
  omega
theorem tri_find (k : Tri) : ∀ (es : List MapEntry) (l : List Tri) (i : Nat) (w : World), es.map (·.key) = l.map triV → (Instr.findAsking 139 (triV k) es i).run Tryd.prog w = .ok ((es[l.findIdx (· = k)]?).map fun e => (i + l.findIdx (· = k), e.val)) w
  | [], [], i, w, _ => by simp [Instr.findAsking]
  | [], _ :: _, i, w, h => by simp at h
  | _ :: _, [], i, w, h => by simp at h
  | e :: es, a :: l, i, w, h => by
    simp only [List.map_cons, List.cons.injEq] at h
    have he := tri_eq k.1 k.2.1 k.2.2 a.1 a.2.1 a.2.2 w
    rw [tri_dec] at he
    have ih := tri_find k es l (i + 1) w h.2
    unfold Instr.findAsking
    rw [Sem.run_bind, h.1]
    show ((Op.equalIn 10000 139 (triV k) (triV a)).run Tryd.prog w).andThen _ = _
    unfold triV
    rw [he]
    by_cases hk : a = k
    · subst hk
      simp [List.findIdx_cons]
    · unfold triV at ih
      simp only [Result.andThen_ok, hk, decide_false, Bool.false_eq_true, if_false, ih, List.findIdx_cons, cond_false, List.getElem?_cons_succ]
      cases es[l.findIdx (· = k)]? with
      | none => rfl
      | some x =>
        simp only [Option.map_some]
        rw [show i + 1 + l.findIdx (· = k) = i + (l.findIdx (· = k) + 1) by omega]
theorem tri_find0 (k : Tri) (es : List MapEntry) (l : List Tri) (w : World) (h : es.map (·.key) = l.map triV) : (Instr.findKey 139 (triV k) es).run Tryd.prog w = .ok ((es[l.findIdx (· = k)]?).map fun e => (l.findIdx (· = k), e.val)) w := by
  cases es with
  | nil =>
    cases l with
    | nil => simp [Instr.findKey, run_underlying Tryd.underlying139, Instr.findNow]
    | cons a l => simp at h
  | cons e es =>
    have hf := tri_find k (e :: es) l 0 w h
    have hn : Instr.findNow (.array 3 3) (triV k) (e :: es) 0 = none := by
      unfold Instr.findNow
      rfl
    simp only [Instr.findKey, Sem.run_bind, run_underlying Tryd.underlying139, Result.andThen_ok, hn]
    rw [hf]
    simp
theorem keyOk_tri : KeyOk Tryd.prog 139 triV where
  inj := fun a b h => by
    unfold triV at h
    simp only [Value.agg.injEq, Array.mk.injEq, List.cons.injEq, Value.int.injEq, true_and, and_true] at h
    exact Prod.ext h.1 (Prod.ext (by exact_mod_cast h.2.1) (by exact_mod_cast h.2.2))
  check := fun b k w => tri_check b k w
  find := fun k es l w h => tri_find0 k es l w h
  stays := fun k w => by simp [Instr.keyThatStays, Instr.sameBits, triV]
end Go.Proofs.YtjpfalanoifpbaaDoor.X
end

section
set_option linter.unusedVariables false
set_option linter.unusedSimpArgs false
namespace Go.Proofs.YtjpfalanoifpbaaDoor.X
open Go.RowKit Go.Proofs.YtjpfalanoifpbaaDoorW.PrintWords Go.Proofs.YtjpfalanoifpbaaDoorW.PrintLast Go.Proofs.YtjpfalanoifpbaaDoorW.PrintMore Go.Proofs.YtjpfalanoifpbaaDoor.T
structure Fo (w : World) (g : Nat) (sl : Value) (s : ByteArray) (M r : Nat) (a : Cnt) : Prop where
  blk : w.heap[g]? = some (.cells #[sl, .string s, .int .i64 (M : Nat), .map (some r)] 138 (0, 0))
  map : ∃ l, IsM triV natV w r l ∧ ∀ c i j, (findL l (c, i, j)).getD 0 = a c i j
theorem Fo.later {w w' : World} {g : Nat} {sl : Value} {s : ByteArray} {M r : Nat} {a : Cnt} (h : Fo w g sl s M r a) (hb : Below w.heap.size w w') : Fo w' g sl s M r a := by
  obtain ⟨l, h1, h2⟩ := h.map
  exact ⟨(hb.block _ (Array.getElem?_eq_some_iff.1 h.blk).1).trans h.blk, l, h1.below hb, h2⟩
theorem Fo.c1 {w : World} {g : Nat} {sl : Value} {s : ByteArray} {M r : Nat} {a : Cnt} (h : Fo w g sl s M r a) : w.cell? ⟨g, 1, none⟩ = some (.string s) := by
  rw [blk_cell h.blk]
  rfl
theorem Fo.c2 {w : World} {g : Nat} {sl : Value} {s : ByteArray} {M r : Nat} {a : Cnt} (h : Fo w g sl s M r a) : w.cell? ⟨g, 2, none⟩ = some (.int .i64 (M : Nat)) := by
  rw [blk_cell h.blk]
  rfl
theorem Fo.c3 {w : World} {g : Nat} {sl : Value} {s : ByteArray} {M r : Nat} {a : Cnt} (h : Fo w g sl s M r a) : w.cell? ⟨g, 3, none⟩ = some (.map (some r)) := by
  rw [blk_cell h.blk]
  rfl
theorem zero3 : ∀ w, (zeroValue 3).run Tryd.prog w = .ok (natV 0) w := fun _ => by kernel_rfl
end Go.Proofs.YtjpfalanoifpbaaDoor.X
end

section
set_option linter.unusedVariables false
set_option linter.unusedSimpArgs false
namespace Go.Proofs.YtjpfalanoifpbaaDoor.X
open Go.RowKit Go.Proofs.YtjpfalanoifpbaaDoorW.PrintWords Go.Proofs.YtjpfalanoifpbaaDoorW.PrintLast Go.Proofs.YtjpfalanoifpbaaDoorW.PrintMore Go.Proofs.YtjpfalanoifpbaaDoor.T
structure Itr (w0 w : World) (r1 r2 r : Nat) (es : Array MapEntry) (clock : Nat) (l2 : List (Tri × Nat)) (seen : Array Nat) (c0 : Nat) : Prop where
  it : w.heap[r]? = some (.mapIter (some r1) clock seen c0)
  le : clock ≤ c0
  m1 : w.heap[r1]? = some (.map es clock)
  m2 : IsM triV natV w r2 l2
  bl : Below w0.heap.size w0 w
theorem Itr.later {w0 w w' : World} {r1 r2 r : Nat} {es : Array MapEntry} {clock : Nat} {l2 : List (Tri × Nat)} {seen : Array Nat} {c0 : Nat} (h : Itr w0 w r1 r2 r es clock l2 seen c0) (hb : Below w.heap.size w w') : Itr w0 w' r1 r2 r es clock l2 seen c0 :=
  ⟨(hb.block _ (Array.getElem?_eq_some_iff.1 h.it).1).trans h.it, h.le, (hb.block _ (Array.getElem?_eq_some_iff.1 h.m1).1).trans h.m1, h.m2.below hb, h.bl.trans (hb.mono h.bl.size)⟩
theorem Itr.step {w0 w w1 : World} {r1 r2 r : Nat} {es : Array MapEntry} {clock : Nat} {l2 : List (Tri × Nat)} {seen : Array Nat} {c0 : Nat} (h : Itr w0 w r1 r2 r es clock l2 seen c0) (hr : w0.heap.size ≤ r) (hw : w1 = w ∨ w1 = w.drew) (b : Nat) : Itr w0 (Go.ChangeMaps.setBlock w1 r (.mapIter (some r1) clock (seen.push b) clock)) r1 r2 r es clock l2 (seen.push b) clock := by
  have h1 : Itr w0 w1 r1 r2 r es clock l2 seen c0 := by
    rcases hw with rfl | rfl
    · exact h
    · exact h.later (Below.refl _ _).drew
  have hne1 : r1 ≠ r := by
    rintro e
    have := h1.it
    rw [← e, h1.m1] at this
    cases this
  have hne2 : r2 ≠ r := by
    rintro e
    obtain ⟨es2, clock2, hb2, _⟩ := h1.m2
    have := h1.it
    rw [← e, hb2] at this
    cases this
  have ho : ∀ k, k ≠ r → (Go.ChangeMaps.setBlock w1 r (.mapIter (some r1) clock (seen.push b) clock)).heap[k]? = w1.heap[k]? := fun k hk => Array.getElem?_setIfInBounds_ne (Ne.symm hk)
  refine ⟨Array.getElem?_setIfInBounds_self_of_lt (Array.getElem?_eq_some_iff.1 h1.it).1, Nat.le_refl _, (ho _ hne1).trans h1.m1, h1.m2.of_heap (ho _ hne2), ?_⟩
  exact h1.bl.trans ⟨rfl, rfl, rfl, by simp [Go.ChangeMaps.setBlock], fun k hk => ho k (by omega)⟩
theorem iter_seen {w : World} {r : Nat} {a : Option Nat} {b : Nat} {s : Array Nat} {c : Nat} (h : w.heap[r]? = some (.mapIter a b s c)) : w.iterSeen r = s := by
  unfold World.iterSeen
  rw [h]
end Go.Proofs.YtjpfalanoifpbaaDoor.X
end

section
set_option linter.unusedVariables false
set_option linter.unusedSimpArgs false
namespace Go.Proofs.YtjpfalanoifpbaaDoor.X
open Go.RowKit Go.Proofs.YtjpfalanoifpbaaDoorW.PrintWords Go.Proofs.YtjpfalanoifpbaaDoorW.PrintLast Go.Proofs.YtjpfalanoifpbaaDoorW.PrintMore Go.Proofs.YtjpfalanoifpbaaDoor.T
def MapC (w : World) (r : Nat) (b : Cnt) : Prop := ∃ l, IsM triV natV w r l ∧ ∀ c i j, (findL l (c, i, j)).getD 0 = b c i j
theorem MapC.later {w w' : World} {r : Nat} {b : Cnt} (h : MapC w r b) (hb : Below w.heap.size w w') : MapC w' r b := by
  obtain ⟨l, h1, h2⟩ := h
  exact ⟨l, h1.below hb, h2⟩
theorem MapC.congr {w : World} {r : Nat} {b b' : Cnt} (h : MapC w r b) (e : ∀ c i j, b c i j = b' c i j) : MapC w r b' := by
  obtain ⟨l, h1, h2⟩ := h
  exact ⟨l, h1, fun c i j => (h2 c i j).trans (e c i j)⟩
theorem MapC.lt {w : World} {r : Nat} {b : Cnt} (h : MapC w r b) : r < w.heap.size := by
  obtain ⟨l, h1, _⟩ := h
  exact h1.lt
theorem MapC.new {w w1 : World} (h1 : w1.heap[w.heap.size]? = some (.map #[] 0)) : MapC w1 w.heap.size fun _ _ _ => 0 :=
  ⟨[], ⟨#[], 0, h1, rfl, Go.MapKept.stamped_empty 0⟩, fun _ _ _ => rfl⟩
structure Tr (w0 w : World) (g : Nat) (sl : Value) (s : ByteArray) (M rk rn : Nat) (a b : Cnt) : Prop where
  fo : Fo w g sl s M rk a
  nx : MapC w rn b
  bl : Below w0.heap.size w0 w
  hg : w0.heap.size ≤ g
  hk : w0.heap.size ≤ rk
  hn : w0.heap.size ≤ rn
  ne : rk ≠ rn
theorem Tr.later {w0 w w' : World} {g : Nat} {sl : Value} {s : ByteArray} {M rk rn : Nat} {a b : Cnt} (h : Tr w0 w g sl s M rk rn a b) (hb : Below w.heap.size w w') : Tr w0 w' g sl s M rk rn a b :=
  ⟨h.fo.later hb, h.nx.later hb, h.bl.trans (hb.mono h.bl.size), h.hg, h.hk, h.hn, h.ne⟩
theorem Tr.congr {w0 w : World} {g : Nat} {sl : Value} {s : ByteArray} {M rk rn : Nat} {a b b' : Cnt} (h : Tr w0 w g sl s M rk rn a b) (e : ∀ c i j, b c i j = b' c i j) : Tr w0 w g sl s M rk rn a b' :=
  ⟨h.fo, h.nx.congr e, h.bl, h.hg, h.hk, h.hn, h.ne⟩
theorem Tr.gn {w0 w : World} {g : Nat} {sl : Value} {s : ByteArray} {M rk rn : Nat} {a b : Cnt} (h : Tr w0 w g sl s M rk rn a b) : g ≠ rn := by
  rintro rfl
  obtain ⟨l, ⟨es, clock, hb, _⟩, _⟩ := h.nx
  have := h.fo.blk
  rw [hb] at this
  cases this
theorem Tr.put {w0 w : World} {g : Nat} {sl : Value} {s : ByteArray} {M rk rn : Nat} {a b b' : Cnt} (h : Tr w0 w g sl s M rk rn a b) (c : Int) (i j m : Nat) (e : ∀ c' i' j', b' c' i' j' = if (c', i', j') = (c, i, j) then m else b c' i' j') :
    ∃ w1, (Instr.mapUpdate 136 (.map (some rn)) (triV (c, i, j)) (natV m)).run Tryd.prog w = .ok () w1 ∧ Tr w0 w1 g sl s M rk rn a b' := by
  obtain ⟨l, h1, h2⟩ := h.nx
  obtain ⟨o, hrun, hm⟩ := run_update_is Tryd.underlying136 keyOk_tri h1 (c, i, j) m
  have hot : ∀ k, k ≠ rn → (putObj w rn o).heap[k]? = w.heap[k]? := fun k hk => Array.getElem?_setIfInBounds_ne (Ne.symm hk)
  obtain ⟨lk, hk1, hk2⟩ := h.fo.map
  refine ⟨_, hrun, ⟨(hot _ h.gn).trans h.fo.blk, lk, hk1.of_heap (hot _ h.ne), hk2⟩, ⟨_, hm, fun c' i' j' => ?_⟩, h.bl.trans ⟨rfl, rfl, rfl, by simp [putObj], fun k hk => hot k (by have := h.hn; omega)⟩, h.hg, h.hk, h.hn, h.ne⟩
  rw [findL_putL, e]
  by_cases q : (c', i', j') = (c, i, j)
  · rw [if_pos q.symm, if_pos q]
    rfl
  · rw [if_neg (fun z => q z.symm), if_neg q]
    exact h2 c' i' j'
end Go.Proofs.YtjpfalanoifpbaaDoor.X
end

section
set_option linter.unusedVariables false
set_option linter.unusedSimpArgs false
namespace Go.Proofs.YtjpfalanoifpbaaDoor.X
open Go.RowKit Go.Proofs.YtjpfalanoifpbaaDoorW.PrintWords Go.Proofs.YtjpfalanoifpbaaDoorW.PrintLast Go.Proofs.YtjpfalanoifpbaaDoorW.PrintMore Go.Proofs.YtjpfalanoifpbaaDoor.T
def Tab (w : World) (g : Nat) (F : Nat → Nat → Nat → Nat) : Prop := w.heap[g]? = some (.cells (c405 natV F) 97 (0, 0))
theorem Tab.later {w w' : World} {g : Nat} {F : Nat → Nat → Nat → Nat} (h : Tab w g F) (hb : Below w.heap.size w w') : Tab w' g F :=
  (hb.block _ (Array.getElem?_eq_some_iff.1 h).1).trans h
theorem Tab.at {w : World} {g : Nat} {F : Nat → Nat → Nat → Nat} (h : Tab w g F) {p i j : Nat} (hp : p < 5) (hi : i < 9) (hj : j < 9) : w.cell? ⟨g, p * 81 + i * 9 + j, none⟩ = some (.int .i64 (F p i j : Nat)) := by
  rw [blk_cell h]
  exact c405_at natV F hp hi hj
end Go.Proofs.YtjpfalanoifpbaaDoor.X
end

section
set_option linter.unusedVariables false
set_option linter.unusedSimpArgs false
namespace Go.Proofs.YtjpfalanoifpbaaDoor.X
open Go.RowKit Go.Proofs.YtjpfalanoifpbaaDoorW.PrintWords Go.Proofs.YtjpfalanoifpbaaDoorW.PrintLast Go.Proofs.YtjpfalanoifpbaaDoorW.PrintMore Go.Proofs.YtjpfalanoifpbaaDoor.T
structure Rt (w0 w : World) (g h : Nat) (F G : Nat → Nat → Nat → Nat) : Prop where
  t : Tab w g F
  n : Tab w h G
  bl : Below w0.heap.size w0 w
  hg : w0.heap.size ≤ g
  hh : w0.heap.size ≤ h
  ne : g ≠ h
theorem Rt.later {w0 w w' : World} {g h : Nat} {F G : Nat → Nat → Nat → Nat} (r : Rt w0 w g h F G) (hb : Below w.heap.size w w') : Rt w0 w' g h F G :=
  ⟨r.t.later hb, r.n.later hb, r.bl.trans (hb.mono r.bl.size), r.hg, r.hh, r.ne⟩
theorem Rt.put {w0 w : World} {g h : Nat} {F G : Nat → Nat → Nat → Nat} (r : Rt w0 w g h F G) {p i j : Nat} (hp : p < 5) (hi : i < 9) (hj : j < 9) (m : Nat) : Rt w0 (w.setCell ⟨h, p * 81 + i * 9 + j, none⟩ (.int .i64 (m : Nat))) g h F (put3 G p i j m) := by
  refine ⟨(Below.heap_setCell w ⟨h, p * 81 + i * 9 + j, none⟩ _ g r.ne).trans r.t, ?_, r.bl.setCell (p := ⟨h, p * 81 + i * 9 + j, none⟩) r.hh _, r.hg, r.hh, r.ne⟩
  have h1 := blk_set r.n (p * 81 + i * 9 + j) (.int .i64 (m : Nat))
  rw [show p * 81 + i * 9 + j = ix p i j from rfl] at h1 ⊢
  rw [show (Value.int .i64 (m : Nat)) = natV m from rfl] at h1 ⊢
  rw [c405_set natV G hp hi hj m] at h1
  exact h1
end Go.Proofs.YtjpfalanoifpbaaDoor.X
end

section
set_option linter.unusedVariables false
set_option linter.unusedSimpArgs false
namespace Go.Proofs.YtjpfalanoifpbaaDoor.X
open Go.RowKit Go.Proofs.YtjpfalanoifpbaaDoorW.PrintWords Go.Proofs.YtjpfalanoifpbaaDoorW.PrintLast Go.Proofs.YtjpfalanoifpbaaDoorW.PrintMore Go.Proofs.YtjpfalanoifpbaaDoor.T
theorem cut12_1000 (s : ByteArray) : (cut12 s).size ≤ 1000 := by
  rw [cut12_size]
  have := mnN_le s.size 12
  omega
end Go.Proofs.YtjpfalanoifpbaaDoor.X
end

section
set_option linter.unusedVariables false
namespace Go.Proofs.YtjpfalanoifpbaaDoor.T
theorem take_succ_of {α : Type} {l : List α} {i : Nat} {x : α} (h : l[i]? = some x) : l.take (i + 1) = l.take i ++ [x] := by
  rw [List.take_add_one, h]
  rfl
end Go.Proofs.YtjpfalanoifpbaaDoor.T
end

section
set_option linter.unusedVariables false
set_option linter.unusedSimpArgs false
namespace Go.Proofs.YtjpfalanoifpbaaDoor.X
open Go.RowKit Go.Proofs.YtjpfalanoifpbaaDoorW.PrintWords Go.Proofs.YtjpfalanoifpbaaDoorW.PrintLast Go.Proofs.YtjpfalanoifpbaaDoorW.PrintMore Go.Proofs.YtjpfalanoifpbaaDoor.T
structure Stp (B : Nat) (S : Nat → Prop) (w w' : World) : Prop where
  os : w'.os = w.os
  tape : w'.tape = w.tape
  output : w'.output = w.output
  size : w.heap.size ≤ w'.heap.size
  block : ∀ k, k < w.heap.size → (k < B ∨ S k) → w'.heap[k]? = w.heap[k]?
theorem Stp.refl (B : Nat) (S : Nat → Prop) (w : World) : Stp B S w w := ⟨rfl, rfl, rfl, Nat.le_refl _, fun _ _ _ => rfl⟩
theorem Stp.of_grown {B : Nat} {S : Nat → Prop} {w w' : World} {row : Option Nat} (h : w.grownBy w' row) (hr : ∀ k, row = some k → B ≤ k ∧ ¬ S k) : Stp B S w w' :=
  ⟨h.os, h.tape, h.output, h.size, fun k hk hs => h.block k hk (fun e => by
    have := hr k e.symm
    rcases hs with q | q
    · omega
    · exact this.2 q)⟩
structure Cbk (S : Nat → Prop) (w w' : World) : Prop where
  size : w.heap.size ≤ w'.heap.size
  block : ∀ k, k < w.heap.size → ¬ S k → w'.heap[k]? = w.heap[k]?
structure Cb (f : Nat) (lb : Array Value) (B most : Nat) (P : (Nat → Prop) → List ByteArray → World → Prop) (Q : List ByteArray → ByteArray → World → Prop) : Prop where
  eg : ∀ args w, (callFunc f args).run Tryd.prog w = .ok (.enter f args) w
  stab : ∀ S done w w', P S done w → Stp B S w w' → P S done w'
  lt : ∀ S done w, P S done w → ∀ k, S k → k < w.heap.size
  stop : ∀ done s w w', Q done s w → Below w.heap.size w w' → Q done s w'
  call : ∀ S done s w, P S done w → B ≤ w.heap.size → s.size ≤ most → done.length ≤ 100000 → Calls Tryd.prog f (#[.string s] ++ lb) w fun e w' => ∃ S' : Nat → Prop, (∀ k, S' k → S k ∨ w.heap.size ≤ k) ∧ Cbk S w w' ∧ ((e = .returned (.bool true) ∧ P S' (done ++ [s]) w') ∨ (e = .returned (.bool false) ∧ Q done s w'))
structure As (B : Nat) (P : (Nat → Prop) → List ByteArray → World → Prop) (S : Nat → Prop) (done : List ByteArray) (v4 : Value) (l : List ByteArray) (v5 : Value) (xs : List ByteArray) (w : World) : Prop where
  l4 : Kd.R Kd.string 9 w B (fun k => ¬ S k ∧ some k ≠ v5.ownBlock) v4 l
  l5 : Kd.R Kd.string 9 w B (fun k => ¬ S k) v5 xs
  p : P S done w
  size : B ≤ w.heap.size
theorem As.push {f : Nat} {lb : Array Value} {B most : Nat} {P : (Nat → Prop) → List ByteArray → World → Prop} {Q : List ByteArray → ByteArray → World → Prop} (H : Cb f lb B most P Q) {S : Nat → Prop} {done : List ByteArray} {v4 v5 v1 : Value} {l xs : List ByteArray} {x : ByteArray} {w w1 : World} (h : As B P S done v4 l v5 xs w)
    (hv : Kd.R Kd.string 9 w1 B (fun k => ¬ S k) v1 (xs ++ [x])) (hg : w.grownBy w1 v5.ownBlock) (hat : v1.ownBlock = v5.ownBlock ∨ ∃ b, v1.ownBlock = some b ∧ w.heap.size ≤ b) : As B P S done v4 l v1 (xs ++ [x]) w1 :=
  ⟨Kd.R_after h.l4 hg hat, hv, H.stab _ _ _ _ h.p (Stp.of_grown hg (fun k hk => ⟨Kd.R_base h.l5 k hk, h.l5.1 k hk⟩)), Nat.le_trans h.size hg.size⟩
theorem As.next {B : Nat} {P : (Nat → Prop) → List ByteArray → World → Prop} {S : Nat → Prop} {done : List ByteArray} {v4 v5 : Value} {l xs : List ByteArray} {w : World} (h : As B P S done v4 l v5 xs w) : As B P S done v5 xs (.slice none 0 0) [] w :=
  ⟨Kd.R_apart_nil h.l5, Kd.R_nil _ _ _ _ _, h.p, h.size⟩
end Go.Proofs.YtjpfalanoifpbaaDoor.X
end

section
set_option linter.unusedVariables false
set_option linter.unusedSimpArgs false
namespace Go.Proofs.YtjpfalanoifpbaaDoor.X
open Go.RowKit Go.Proofs.YtjpfalanoifpbaaDoorW.PrintWords Go.Proofs.YtjpfalanoifpbaaDoorW.PrintLast Go.Proofs.YtjpfalanoifpbaaDoorW.PrintMore Go.Proofs.YtjpfalanoifpbaaDoor.T
abbrev SR (B : Nat) (w : World) (v : Value) (xs : List ByteArray) : Prop := Kd.R Kd.string 9 w B (fun _ => True) v xs
theorem sr_self {B : Nat} {w : World} {ok : Nat → Prop} {v : Value} {xs : List ByteArray} (h : Kd.R Kd.string 9 w B ok v xs) : Kd.R Kd.string 9 w B (fun k => v.ownBlock = some k) v xs := Kd.R_of_own (Kd.own_of_R h) (fun k hk => hk)
theorem sr_of {B : Nat} {w : World} {ok : Nat → Prop} {v : Value} {xs : List ByteArray} (h : Kd.R Kd.string 9 w B ok v xs) : SR B w v xs := Kd.R_mono h (fun _ _ => trivial)
theorem sr_step {B : Nat} {w w1 : World} {v : Value} {xs : List ByteArray} (h : SR B w v xs) {row : Option Nat} (hg : w.grownBy w1 row) (hne : ∀ k, v.ownBlock = some k → some k ≠ row) : SR B w1 v xs := sr_of (Kd.R_step (sr_self h) (fun k hk hlt => hg.block k hlt (hne k hk)))
theorem sr_below {B : Nat} {w w1 : World} {v : Value} {xs : List ByteArray} (h : SR B w v xs) (hb : Below w.heap.size w w1) : SR B w1 v xs := Kd.R_below h hb
structure Al (w0 w : World) (out : Value) (ol : List ByteArray) (last : Value) (ll : List ByteArray) (next : Value) (nl : List ByteArray) : Prop where
  o : SR w0.heap.size w out ol
  l : SR w0.heap.size w last ll
  x : SR w0.heap.size w next nl
  ol : ∀ k, out.ownBlock = some k → last.ownBlock ≠ some k
  ox : ∀ k, out.ownBlock = some k → next.ownBlock ≠ some k
  lx : ∀ k, last.ownBlock = some k → next.ownBlock ≠ some k
  bl : Below w0.heap.size w0 w
theorem Al.later {w0 w w1 : World} {out last next : Value} {ol ll nl : List ByteArray} (h : Al w0 w out ol last ll next nl) (hb : Below w.heap.size w w1) : Al w0 w1 out ol last ll next nl :=
  ⟨sr_below h.o hb, sr_below h.l hb, sr_below h.x hb, h.ol, h.ox, h.lx, h.bl.trans (hb.mono h.bl.size)⟩
theorem Al.push {w0 w w1 : World} {out last next v1 : Value} {ol ll nl ml : List ByteArray} (h : Al w0 w out ol last ll next nl) (hv : SR w0.heap.size w1 v1 ml) (hb : Below w0.heap.size w0 w1) (hg : w.grownBy w1 next.ownBlock) (hat : v1.ownBlock = next.ownBlock ∨ ∃ b, v1.ownBlock = some b ∧ w.heap.size ≤ b) : Al w0 w1 out ol last ll v1 ml := by
  refine ⟨sr_step h.o hg (fun k hk e => h.ox k hk e.symm), sr_step h.l hg (fun k hk e => h.lx k hk e.symm), hv, h.ol, fun k hk => ?_, fun k hk => ?_, hb⟩
  · rcases hat with e | ⟨b, e, hle⟩
    · rw [e]
      exact h.ox k hk
    · rw [e]
      have := Kd.R_lt h.o k hk
      intro q
      injection q with q
      omega
  · rcases hat with e | ⟨b, e, hle⟩
    · rw [e]
      exact h.lx k hk
    · rw [e]
      have := Kd.R_lt h.l k hk
      intro q
      injection q with q
      omega
end Go.Proofs.YtjpfalanoifpbaaDoor.X
end

section
set_option linter.unusedVariables false
set_option linter.unusedSimpArgs false
namespace Go.Proofs.YtjpfalanoifpbaaDoor.X
open Go.RowKit Go.Proofs.YtjpfalanoifpbaaDoorW.PrintWords Go.Proofs.YtjpfalanoifpbaaDoorW.PrintLast Go.Proofs.YtjpfalanoifpbaaDoorW.PrintMore Go.Proofs.YtjpfalanoifpbaaDoor.T
structure Ar (w0 w : World) (v1 : Value) (l1 : List ByteArray) (v2 : Value) (l2 : List ByteArray) : Prop where
  a : SR w0.heap.size w v1 l1
  b : SR w0.heap.size w v2 l2
  ne : ∀ k, v1.ownBlock = some k → v2.ownBlock ≠ some k
  bl : Below w0.heap.size w0 w
theorem Ar.later {w0 w w1 : World} {v1 v2 : Value} {l1 l2 : List ByteArray} (h : Ar w0 w v1 l1 v2 l2) (hb : Below w.heap.size w w1) : Ar w0 w1 v1 l1 v2 l2 :=
  ⟨sr_below h.a hb, sr_below h.b hb, h.ne, h.bl.trans (hb.mono h.bl.size)⟩
theorem Ar.push {w0 w w1 : World} {v1 v2 v3 : Value} {l1 l2 l3 : List ByteArray} (h : Ar w0 w v1 l1 v2 l2) (hv : SR w0.heap.size w1 v3 l3) (hb : Below w0.heap.size w0 w1) (hg : w.grownBy w1 v2.ownBlock) (hat : v3.ownBlock = v2.ownBlock ∨ ∃ b, v3.ownBlock = some b ∧ w.heap.size ≤ b) : Ar w0 w1 v1 l1 v3 l3 := by
  refine ⟨sr_step h.a hg (fun k hk e => h.ne k hk e.symm), hv, fun k hk => ?_, hb⟩
  rcases hat with e | ⟨b, e, hle⟩
  · rw [e]
    exact h.ne k hk
  · rw [e]
    have := Kd.R_lt h.a k hk
    intro q
    injection q with q
    omega
end Go.Proofs.YtjpfalanoifpbaaDoor.X
end

section
set_option linter.unusedVariables false
namespace Go.Proofs.YtjpfalanoifpbaaDoor.T
def allU (e : Nat) (s : ByteArray) : Bool := (List.range s.size).all fun i => !isP (ch s i) || e.testBit (pn (ch s i))
end Go.Proofs.YtjpfalanoifpbaaDoor.T
end

section
set_option linter.unusedVariables false
namespace Go.Proofs.YtjpfalanoifpbaaDoor.T
abbrev Ru := Int × ByteArray
def bitsTo (s : ByteArray) : Nat → Nat
  | 0 => 0
  | j + 1 => if isP (ch s j) = true then bitsTo s j ||| 2 ^ pn (ch s j) else bitsTo s j
def bitsOf (s : ByteArray) : Nat := bitsTo s s.size
def rStep (e : Nat) (r : Ru) : Nat := if e.testBit (pn r.1) = true then e ||| bitsOf r.2 else e
def rTo (l : List Ru) (e : Nat) : Nat := l.foldl rStep e
def rch (b : Int) (l : List Ru) : Nat := rep (rTo l) 5 (2 ^ pn b)
end Go.Proofs.YtjpfalanoifpbaaDoor.T
end

section
set_option linter.unusedVariables false
namespace Go.Proofs.YtjpfalanoifpbaaDoor.T
def Sub (z u : Nat) : Prop := ∀ p, z.testBit p = true → u.testBit p = true
theorem Sub.refl (z : Nat) : Sub z z := fun _ h => h
theorem Sub.trans {a b c : Nat} (h : Sub a b) (k : Sub b c) : Sub a c := fun p q => k p (h p q)
end Go.Proofs.YtjpfalanoifpbaaDoor.T
end

section
set_option linter.unusedVariables false
set_option linter.unusedSimpArgs false
namespace Go.Proofs.YtjpfalanoifpbaaDoor.X
open Go.RowKit Go.Proofs.YtjpfalanoifpbaaDoorW.PrintWords Go.Proofs.YtjpfalanoifpbaaDoorW.PrintLast Go.Proofs.YtjpfalanoifpbaaDoorW.PrintMore Go.Proofs.YtjpfalanoifpbaaDoor.T
abbrev KR : Kd Ru := Kd.pair (Kd.int .u8) Kd.string
end Go.Proofs.YtjpfalanoifpbaaDoor.X
end

section
set_option linter.unusedVariables false
set_option linter.unusedSimpArgs false
namespace Go.Proofs.YtjpfalanoifpbaaDoor.X
open Go.RowKit Go.Proofs.YtjpfalanoifpbaaDoorW.PrintWords Go.Proofs.YtjpfalanoifpbaaDoorW.PrintLast Go.Proofs.YtjpfalanoifpbaaDoorW.PrintMore Go.Proofs.YtjpfalanoifpbaaDoor.T
abbrev RR (ty B : Nat) (w : World) (v : Value) (l : List Ru) : Prop := Kd.R KR ty w B (fun _ => True) v l
theorem rr_below {ty B : Nat} {w w1 : World} {v : Value} {l : List Ru} (h : RR ty B w v l) (hb : Below w.heap.size w w1) : RR ty B w1 v l := Kd.R_below h hb
structure Br (ty : Nat) (w0 w : World) (v1 : Value) (l1 : List Ru) (v2 : Value) (l2 : List Ru) : Prop where
  a : RR ty w0.heap.size w v1 l1
  b : RR ty w0.heap.size w v2 l2
  ne : ∀ k, v1.ownBlock = some k → v2.ownBlock ≠ some k
  bl : Below w0.heap.size w0 w
theorem Br.later {ty : Nat} {w0 w w1 : World} {v1 v2 : Value} {l1 l2 : List Ru} (h : Br ty w0 w v1 l1 v2 l2) (hb : Below w.heap.size w w1) : Br ty w0 w1 v1 l1 v2 l2 :=
  ⟨rr_below h.a hb, rr_below h.b hb, h.ne, h.bl.trans (hb.mono h.bl.size)⟩
end Go.Proofs.YtjpfalanoifpbaaDoor.X
end

section
set_option linter.unusedVariables false
set_option linter.unusedSimpArgs false
namespace Go.Proofs.YtjpfalanoifpbaaDoor.X
open Go.RowKit Go.Proofs.YtjpfalanoifpbaaDoorW.PrintWords Go.Proofs.YtjpfalanoifpbaaDoorW.PrintLast Go.Proofs.YtjpfalanoifpbaaDoorW.PrintMore Go.Proofs.YtjpfalanoifpbaaDoor.T
def inS (e : Nat) (l : Int) : Bool := isP l && e.testBit (pn l)
end Go.Proofs.YtjpfalanoifpbaaDoor.X
end

section
set_option linter.unusedVariables false
set_option linter.unusedSimpArgs false
namespace Go.Proofs.YtjpfalanoifpbaaDoor.X
open Go.RowKit Go.Proofs.YtjpfalanoifpbaaDoorW.PrintWords Go.Proofs.YtjpfalanoifpbaaDoorW.PrintLast Go.Proofs.YtjpfalanoifpbaaDoorW.PrintMore Go.Proofs.YtjpfalanoifpbaaDoor.T
structure RowB (w : World) (g c : Nat) (l : List Ru) : Prop where
  blk : ∃ cur, w.heap[g]? = some (.cells cur 60 (0, 0)) ∧ c * 2 ≤ cur.size ∧ ∀ (j : Nat) r, l[j]? = some r → cur[j * 2]? = some (.int .u8 r.1) ∧ cur[j * 2 + 1]? = some (.string r.2)
  le : l.length ≤ c
theorem RowB.c0 {w : World} {g c : Nat} {l : List Ru} (h : RowB w g c l) {j : Nat} {r : Ru} (hr : l[j]? = some r) : w.cell? ⟨g, j * 2, none⟩ = some (.int .u8 r.1) := by
  obtain ⟨cur, hb, -, hc⟩ := h.blk
  rw [blk_cell hb]
  exact (hc j r hr).1
theorem RowB.c1 {w : World} {g c : Nat} {l : List Ru} (h : RowB w g c l) {j : Nat} {r : Ru} (hr : l[j]? = some r) : w.cell? ⟨g, j * 2 + 1, none⟩ = some (.string r.2) := by
  obtain ⟨cur, hb, -, hc⟩ := h.blk
  rw [blk_cell hb]
  exact (hc j r hr).2
theorem RowB.fz {w : World} {g c : Nat} {l : List Ru} (h : RowB w g c l) (i : Nat) : w.frozen? ⟨g, i, none⟩ = false := by
  obtain ⟨cur, hb, -⟩ := h.blk
  exact blk_frozen hb i
theorem RowB.lt {w : World} {g c : Nat} {l : List Ru} (h : RowB w g c l) : g < w.heap.size := by
  obtain ⟨cur, hb, -⟩ := h.blk
  exact (Array.getElem?_eq_some_iff.1 hb).1
theorem RowB.later {w w' : World} {g c : Nat} {l : List Ru} (h : RowB w g c l) (hb : Below w.heap.size w w') : RowB w' g c l := by
  obtain ⟨cur, h1, h2⟩ := h.blk
  exact ⟨⟨cur, (hb.block _ (Array.getElem?_eq_some_iff.1 h1).1).trans h1, h2⟩, h.le⟩
theorem RowB.set {w : World} {g c : Nat} {l : List Ru} (h : RowB w g c l) {i : Nat} (hi : i < l.length) (r : Ru) : RowB ((w.setCell ⟨g, i * 2, none⟩ (.int .u8 r.1)).setCell ⟨g, i * 2 + 1, none⟩ (.string r.2)) g c (l.set i r) := by
  obtain ⟨cur, h1, h2, h3⟩ := h.blk
  have hle := h.le
  have k1 := blk_set (blk_set h1 (i * 2) (.int .u8 r.1)) (i * 2 + 1) (.string r.2)
  refine ⟨⟨_, k1, by simpa using h2, fun j q hq => ?_⟩, by simpa using h.le⟩
  by_cases e : i = j
  · subst e
    have : q = r := by
      rw [List.getElem?_set_self hi] at hq
      injection hq with hq
      exact hq.symm
    subst this
    constructor
    · rw [Array.getElem?_setIfInBounds_ne (by omega), Array.getElem?_setIfInBounds_self_of_lt (by omega)]
    · rw [Array.getElem?_setIfInBounds_self_of_lt (by simp; omega)]
  · rw [List.getElem?_set_ne e] at hq
    have := h3 j q hq
    constructor
    · rw [Array.getElem?_setIfInBounds_ne (by omega), Array.getElem?_setIfInBounds_ne (by omega)]
      exact this.1
    · rw [Array.getElem?_setIfInBounds_ne (by omega), Array.getElem?_setIfInBounds_ne (by omega)]
      exact this.2
end Go.Proofs.YtjpfalanoifpbaaDoor.X
end

section
set_option linter.unusedVariables false
set_option linter.unusedSimpArgs false
namespace Go.Proofs.YtjpfalanoifpbaaDoor.X
open Go.RowKit Go.Proofs.YtjpfalanoifpbaaDoorW.PrintWords Go.Proofs.YtjpfalanoifpbaaDoorW.PrintLast Go.Proofs.YtjpfalanoifpbaaDoorW.PrintMore Go.Proofs.YtjpfalanoifpbaaDoor.T
theorem row_put {α : Type} [Inhabited α] (enc : α → Value) (w : World) (m g : Nat) (d : Array α) (os : Array Obj) {cur : Array Value} {e : TypeId} (hb : w.heap[g]? = some (.cells cur e (0, 0))) (hd : d.size ≤ cur.size) :
    (∃ cur', (Go.Sort.grow (Go.Sort.putRow enc (Go.Sort.ahead w m) g 0 d) os).heap[g]? = some (.cells cur' e (0, 0)) ∧ cur'.size = cur.size ∧ cur'.toList.take d.size = d.toList.map enc) ∧
      w.grownBy (Go.Sort.grow (Go.Sort.putRow enc (Go.Sort.ahead w m) g 0 d) os) (some g) := by
  have hg := (Array.getElem?_eq_some_iff.1 hb).1
  have hs : (Go.Sort.putRow enc (Go.Sort.ahead w m) g 0 d).heap.size = w.heap.size := by
    unfold Go.Sort.putRow Go.Sort.mapBlock Go.Sort.ahead
    simp
  refine ⟨⟨Go.Sort.putCells enc 0 d cur, ?_, ?_, ?_⟩, ⟨rfl, rfl, rfl, ?_, ?_⟩⟩
  · unfold Go.Sort.grow
    rw [Array.getElem?_append_left (by rw [hs]; exact hg)]
    unfold Go.Sort.putRow Go.Sort.mapBlock Go.Sort.ahead
    rw [Array.getElem?_modify, if_pos rfl, hb]
    rfl
  · unfold Go.Sort.putCells; simp
  · apply List.ext_getElem
    · unfold Go.Sort.putCells; simp; omega
    · intro i h1 h2
      have hi : i < d.size := by simpa using h2
      unfold Go.Sort.putCells
      simp only [List.getElem_take, Array.getElem_toList, Array.getElem_mapIdx, List.getElem_map, Nat.zero_le, Nat.zero_add, true_and, Nat.sub_zero, if_pos hi]
      rw [getElem!_pos d i hi]
  · unfold Go.Sort.grow
    simp only [Array.size_append]
    rw [hs]
    omega
  · intro k hk hne
    have hne' : g ≠ k := fun e => hne (by rw [e])
    unfold Go.Sort.grow
    rw [Array.getElem?_append_left (by rw [hs]; exact hk)]
    unfold Go.Sort.putRow Go.Sort.mapBlock Go.Sort.ahead
    rw [Array.getElem?_modify, if_neg hne']
end Go.Proofs.YtjpfalanoifpbaaDoor.X
end

section
set_option linter.unusedVariables false
set_option linter.unusedSimpArgs false
namespace Go.Proofs.YtjpfalanoifpbaaDoor.X
open Go.RowKit Go.Proofs.YtjpfalanoifpbaaDoorW.PrintWords Go.Proofs.YtjpfalanoifpbaaDoorW.PrintLast Go.Proofs.YtjpfalanoifpbaaDoorW.PrintMore Go.Proofs.YtjpfalanoifpbaaDoor.T
def p1 (u : Nat) (r : Ru) : Bool := !(inS u r.1 && allU u r.2)
def p2 (e : Nat) (r : Ru) : Bool := !inS e r.1
structure Tq (w0 : World) (g c GB H8 : Nat) (l0 : Int) (K : List Ru) (e : Nat) (w : World) : Prop where
  row : RowB w g c K
  beg : w.cell? ⟨GB, 0, none⟩ = some (.int .u8 l0)
  re : w.cell? ⟨H8, 0, none⟩ = some (.int .i64 e)
  fz : w.frozen? ⟨H8, 0, none⟩ = false
  bl : Below w0.heap.size w0 w
  ng : g ≠ H8
  nb : GB ≠ H8
  ge : w0.heap.size ≤ H8
theorem Tq.later {w0 w w' : World} {g c GB H8 e : Nat} {l0 : Int} {K : List Ru} (h : Tq w0 g c GB H8 l0 K e w) (hb : Below w.heap.size w w') : Tq w0 g c GB H8 l0 K e w' := by
  have hlt := World.block_lt_of_cell? _ _ h.re
  refine ⟨h.row.later hb, (hb.cell (p := ⟨GB, 0, none⟩) (World.block_lt_of_cell? _ _ h.beg)).trans h.beg, (hb.cell (p := ⟨H8, 0, none⟩) hlt).trans h.re, ?_, h.bl.trans (hb.mono h.bl.size), h.ng, h.nb, h.ge⟩
  have := hb.block H8 hlt
  have hf := h.fz
  unfold World.frozen? at hf ⊢
  simp only at hf ⊢
  rw [this]
  exact hf
theorem Tq.put {w0 w : World} {g c GB H8 e : Nat} {l0 : Int} {K : List Ru} (h : Tq w0 g c GB H8 l0 K e w) (e' : Nat) : Tq w0 g c GB H8 l0 K e' (w.setCell ⟨H8, 0, none⟩ (.int .i64 e')) := by
  refine ⟨?_, (cell_set_other _ h.nb).trans h.beg, World.cell?_setCell_same' _ _ _ (by rw [h.re]; rfl), by rw [World.frozen?_setCell]; exact h.fz, h.bl.setCell (p := ⟨H8, 0, none⟩) h.ge _, h.ng, h.nb, h.ge⟩
  obtain ⟨cur, h1, h2⟩ := h.row.blk
  exact ⟨⟨cur, (Below.heap_setCell w ⟨H8, 0, none⟩ _ g h.ng).trans h1, h2⟩, h.row.le⟩
end Go.Proofs.YtjpfalanoifpbaaDoor.X
end

section
set_option linter.unusedVariables false
namespace Go.Proofs.YtjpfalanoifpbaaDoor.T
abbrev It := Nat × Nat
def cd (x : It) : Nat := x.1 * 5 + x.2
def sg (c : Int) : ByteArray := ⟨#[UInt8.ofNat c.toNat]⟩
theorem sg_size (c : Int) : (sg c).size = 1 := rfl
section
variable (L : Nat → Int) (R : Nat → ByteArray) (n : Nat)
def rs (i : Nat) : ByteArray := if i = n then sg (L 0) else R i
def bh (x : It) : Int := ch (rs L R n x.1) x.2
def Fits (x : It) : Prop := x.1 ≤ n ∧ x.2 ≤ (rs L R n x.1).size
def Cls (Q : It → Prop) : Prop := ∀ y k, Q y → k < n → bh L R n y = L k → Q (k, 0)
def inC (S : It → Prop) (x : It) : Prop := ∀ Q : It → Prop, (∀ y, S y → Q y) → Cls L R n Q → Q x
variable {L R n}
theorem inC_of {S : It → Prop} {x : It} (h : S x) : inC L R n S x := fun Q h1 _ => h1 x h
theorem inC_cls (S : It → Prop) : Cls L R n (inC L R n S) := fun y k hy hk e Q h1 h2 => h2 y k (hy Q h1 h2) hk e
theorem inC_le {S Q : It → Prop} (h : ∀ y, S y → Q y) (hc : Cls L R n Q) {x : It} (hx : inC L R n S x) : Q x := hx Q h hc
theorem inC_fits {S : It → Prop} (h : ∀ y, S y → Fits L R n y) {x : It} (hx : inC L R n S x) : Fits L R n x :=
  inC_le h (fun y k _ hk _ => ⟨Nat.le_of_lt hk, Nat.zero_le _⟩) hx
theorem inC_congr {S S' : It → Prop} (h : ∀ y, S y ↔ S' y) (x : It) : inC L R n S x ↔ inC L R n S' x :=
  ⟨fun hx => inC_le (fun y hy => inC_of ((h y).1 hy)) (inC_cls _) hx, fun hx => inC_le (fun y hy => inC_of ((h y).2 hy)) (inC_cls _) hx⟩
def R4 (R : Nat → ByteArray) (n : Nat) : Prop := ∀ k, k < n → (R k).size ≤ 4
theorem rs_le (h : R4 R n) {i : Nat} (hi : i ≤ n) : (rs L R n i).size ≤ 4 := by
  unfold rs
  split
  · rw [sg_size]; omega
  · exact h i (by omega)
theorem Fits.lt5 {x : It} (h : R4 R n) (hx : Fits L R n x) : x.2 < 5 := by
  have := rs_le (L := L) h hx.1
  have := hx.2
  omega
def Asc (l : List It) : Prop := l.Pairwise fun x y => cd x < cd y
theorem ord_unique : ∀ {l m : List It}, Asc l → Asc m → (∀ x, x ∈ l ↔ x ∈ m) → l = m
  | [], [], _, _, _ => rfl
  | [], y :: m, _, _, h => by
    have := (h y).2 (List.mem_cons_self ..)
    cases this
  | x :: l, [], _, _, h => by
    have := (h x).1 (List.mem_cons_self ..)
    cases this
  | x :: l, y :: m, hl, hm, h => by
    unfold Asc at hl hm
    rw [List.pairwise_cons] at hl hm
    have e : x = y := by
      rcases List.mem_cons.1 ((h x).1 (List.mem_cons_self ..)) with e | e
      · exact e
      · rcases List.mem_cons.1 ((h y).2 (List.mem_cons_self ..)) with e2 | e2
        · exact e2.symm
        · have a := hm.1 x e
          have b := hl.1 y e2
          omega
    subst e
    congr 1
    refine ord_unique hl.2 hm.2 fun z => ⟨fun hz => ?_, fun hz => ?_⟩
    · rcases List.mem_cons.1 ((h z).1 (List.mem_cons_of_mem _ hz)) with e | e
      · have := hl.1 z hz
        rw [e] at this
        omega
      · exact e
    · rcases List.mem_cons.1 ((h z).2 (List.mem_cons_of_mem _ hz)) with e | e
      · have := hm.1 z hz
        rw [e] at this
        omega
      · exact e
def univ (n : Nat) : List It := (List.range ((n + 1) * 5)).map fun q => (q / 5, q % 5)
theorem univ_mem {x : It} : x ∈ univ n ↔ x.1 ≤ n ∧ x.2 < 5 := by
  unfold univ
  rw [List.mem_map]
  constructor
  · rintro ⟨q, hq, rfl⟩
    rw [List.mem_range] at hq
    exact ⟨by show q / 5 ≤ n; omega, by show q % 5 < 5; omega⟩
  · rintro ⟨h1, h2⟩
    refine ⟨x.1 * 5 + x.2, List.mem_range.2 (by omega), Prod.ext ?_ ?_⟩
    · show (x.1 * 5 + x.2) / 5 = x.1
      omega
    · show (x.1 * 5 + x.2) % 5 = x.2
      omega
theorem range_ord : ∀ m, Asc ((List.range m).map fun q => (q / 5, q % 5))
  | 0 => List.Pairwise.nil
  | m + 1 => by
    unfold Asc
    rw [List.range_succ, List.map_append, List.pairwise_append]
    refine ⟨range_ord m, by simp, fun x hx y hy => ?_⟩
    obtain ⟨q, hq, rfl⟩ := List.mem_map.1 hx
    rw [List.mem_range] at hq
    simp only [List.map_cons, List.map_nil, List.mem_singleton] at hy
    subst hy
    show q / 5 * 5 + q % 5 < m / 5 * 5 + m % 5
    omega
theorem univ_ord : Asc (univ n) := range_ord _
theorem univ_length : (univ n).length = (n + 1) * 5 := by simp [univ]
variable (L R n)
noncomputable def clo (S : It → Prop) : List It := (univ n).filter fun x => @decide (inC L R n S x) (Classical.propDecidable _)
variable {L R n}
theorem clo_ord (S : It → Prop) : Asc (clo L R n S) := List.Pairwise.filter _ univ_ord
theorem clo_mem {S : It → Prop} (h4 : R4 R n) (h : ∀ y, S y → Fits L R n y) {x : It} : x ∈ clo L R n S ↔ inC L R n S x := by
  unfold clo
  rw [List.mem_filter, univ_mem]
  constructor
  · rintro ⟨-, hx⟩
    simpa using hx
  · intro hx
    have hf := inC_fits h hx
    exact ⟨⟨hf.1, hf.lt5 h4⟩, by simpa using hx⟩
theorem clo_fits {S : It → Prop} (h4 : R4 R n) (h : ∀ y, S y → Fits L R n y) {x : It} (hx : x ∈ clo L R n S) : Fits L R n x := inC_fits h ((clo_mem h4 h).1 hx)
theorem clo_unique {S : It → Prop} (h4 : R4 R n) (h : ∀ y, S y → Fits L R n y) {l : List It} (hl : Asc l) (hm : ∀ x, x ∈ l ↔ inC L R n S x) : l = clo L R n S :=
  ord_unique hl (clo_ord S) fun x => (hm x).trans (clo_mem h4 h).symm
theorem clo_congr {S S' : It → Prop} (h : ∀ y, S y ↔ S' y) : clo L R n S = clo L R n S' := by
  have e : inC L R n S = inC L R n S' := funext fun x => propext (inC_congr h x)
  unfold clo
  rw [e]
variable (L R n)
def nxt (l : List It) (c : Int) : List It := (l.filter fun x => bh L R n x == c).map fun x => (x.1, x.2 + 1)
noncomputable def ovr (l : List It) (c : Int) : List It := clo L R n fun x => x ∈ nxt L R n l c
noncomputable def sta0 : List It := clo L R n fun x => x = (n, 0)
variable {L R n}
theorem bh_lt {x : It} (hp : bh L R n x ≠ 0) : x.2 < (rs L R n x.1).size := by
  unfold bh ch at hp
  split at hp
  · assumption
  · exact absurd rfl hp
theorem nxt_fits {l : List It} (h : ∀ x ∈ l, Fits L R n x) {c : Int} (hc : c ≠ 0) : ∀ y, y ∈ nxt L R n l c → Fits L R n y := by
  intro y hy
  unfold nxt at hy
  obtain ⟨x, hx, rfl⟩ := List.mem_map.1 hy
  rw [List.mem_filter] at hx
  have e : bh L R n x = c := by simpa using hx.2
  have hf := h x hx.1
  exact ⟨hf.1, bh_lt (by rw [e]; exact hc)⟩
theorem sta0_fits : ∀ y : It, y = (n, 0) → Fits L R n y := fun y e => by rw [e]; exact ⟨Nat.le_refl _, Nat.zero_le _⟩
variable (L R n)
def lets : List Int := [65, 66, 67, 68, 69, 97, 98, 99, 100]
noncomputable def onC (out : List (List It)) (st : List It) (c : Int) : Option (List (List It)) :=
  if nxt L R n st c = [] then some out else
    if ovr L R n st c ∈ out then some out else
      if 64 < out.length + 1 then none else some (out ++ [ovr L R n st c])
noncomputable def onL (st : List It) : List Int → List (List It) → Option (List (List It))
  | [], out => some out
  | c :: l, out => (onC L R n out st c).bind (onL st l)
noncomputable def bld : Nat → Nat → List (List It) → Option (List (List It))
  | 0, _, out => some out
  | f + 1, i, out => if h : i < out.length then (onL L R n out[i] lets out).bind (bld f (i + 1)) else some out
noncomputable def stas : Option (List (List It)) := bld L R n 65 0 [sta0 L R n]
variable {L R n}
end
end Go.Proofs.YtjpfalanoifpbaaDoor.T
end

section
set_option linter.unusedVariables false
namespace Go.Proofs.YtjpfalanoifpbaaDoor.T
def ltI (p q : It) : Bool := decide (p.1 < q.1 ∨ (p.1 = q.1 ∧ p.2 < q.2))
theorem list_le {n : Nat} {l : List It} (hn : l.Nodup) (hl : ∀ x ∈ l, x.1 ≤ n ∧ x.2 < 5) : l.length ≤ (n + 1) * 5 := by
  have := subset_length (m := univ n) hn (fun a ha => univ_mem.2 (hl a ha))
  rwa [univ_length] at this
section
variable {L : Nat → Int} {R : Nat → ByteArray} {n : Nat}
theorem asc_of {l l' : List It} (hp : l'.Perm l) (hn : l.Nodup) (h5 : ∀ x ∈ l, x.2 < 5) (hs : l'.Pairwise fun p q => ltI q p = false) : Asc l' := by
  have hn' : l'.Nodup := hp.nodup_iff.2 hn
  unfold Asc
  unfold List.Nodup at hn'
  refine List.Pairwise.imp_of_mem ?_ (hs.and hn')
  intro p q hp1 hq1 h
  obtain ⟨h1, h2⟩ := h
  have a := h5 p (hp.mem_iff.1 hp1)
  have b := h5 q (hp.mem_iff.1 hq1)
  unfold ltI at h1
  rw [decide_eq_false_iff_not] at h1
  unfold cd
  by_cases e : p.1 = q.1
  · have : p.2 ≠ q.2 := fun e2 => h2 (Prod.ext e e2)
    omega
  · omega
structure CloI (L : Nat → Int) (R : Nat → ByteArray) (n : Nat) (S : It → Prop) (l : List It) (i : Nat) : Prop where
  nd : l.Nodup
  sub : ∀ y, S y → y ∈ l
  inc : ∀ x ∈ l, inC L R n S x
  cls : ∀ j x, j < i → l[j]? = some x → ∀ k, k < n → bh L R n x = L k → (k, 0) ∈ l
structure CloK (L : Nat → Int) (R : Nat → ByteArray) (n : Nat) (S : It → Prop) (l : List It) (i k : Nat) (x : It) : Prop where
  at_ : l[i]? = some x
  ci : CloI L R n S l i
  got : ∀ j, j < k → bh L R n x = L j → (j, 0) ∈ l
theorem CloI.start {S : It → Prop} {l : List It} (hn : l.Nodup) (hs : ∀ y, S y ↔ y ∈ l) : CloI L R n S l 0 :=
  ⟨hn, fun y hy => (hs y).1 hy, fun x hx => inC_of ((hs x).2 hx), fun j x hj => by omega⟩
theorem CloI.row {S : It → Prop} {l : List It} {i : Nat} {x : It} (h : CloI L R n S l i) (hx : l[i]? = some x) : CloK L R n S l i 0 x := ⟨hx, h, fun j hj => by omega⟩
theorem CloK.skip {S : It → Prop} {l : List It} {i k : Nat} {x : It} (h : CloK L R n S l i k x) (hk : bh L R n x = L k → (k, 0) ∈ l) : CloK L R n S l i (k + 1) x :=
  ⟨h.at_, h.ci, fun j hj e => by
    by_cases q : j = k
    · subst q; exact hk e
    · exact h.got j (by omega) e⟩
theorem CloK.push {S : It → Prop} {l : List It} {i k : Nat} {x : It} (h : CloK L R n S l i k x) (hkn : k < n) (hb : bh L R n x = L k) (hk : (k, 0) ∉ l) : CloK L R n S (l ++ [(k, 0)]) i (k + 1) x := by
  have hi := (List.getElem?_eq_some_iff.1 h.at_).1
  refine ⟨by rw [List.getElem?_append_left hi]; exact h.at_, ⟨?_, fun y hy => List.mem_append_left _ (h.ci.sub y hy), fun y hy => ?_, fun j y hj hy q hq e => ?_⟩, fun j hj e => ?_⟩
  · rw [List.nodup_append]
    refine ⟨h.ci.nd, by simp, fun a ha b hb e => ?_⟩
    rw [List.mem_singleton] at hb
    subst hb
    subst e
    exact hk ha
  · rcases List.mem_append.1 hy with hy | hy
    · exact h.ci.inc y hy
    · rw [List.mem_singleton] at hy
      subst hy
      exact inC_cls S x k (h.ci.inc x (List.mem_of_getElem? h.at_)) hkn hb
  · rw [List.getElem?_append_left (by omega)] at hy
    exact List.mem_append_left _ (h.ci.cls j y hj hy q hq e)
  · by_cases q : j = k
    · subst q; simp
    · exact List.mem_append_left _ (h.got j (by omega) e)
theorem CloK.next {S : It → Prop} {l : List It} {i : Nat} {x : It} (h : CloK L R n S l i n x) : CloI L R n S l (i + 1) :=
  ⟨h.ci.nd, h.ci.sub, h.ci.inc, fun j y hj hy k hk e => by
    by_cases q : j = i
    · subst q
      have := h.at_
      rw [hy] at this
      injection this with this
      subst this
      exact h.got k hk e
    · exact h.ci.cls j y (by omega) hy k hk e⟩
theorem CloI.len {S : It → Prop} {l : List It} {i : Nat} (h : CloI L R n S l i) (h4 : R4 R n) (hf : ∀ y, S y → Fits L R n y) : l.length ≤ (n + 1) * 5 :=
  list_le h.nd fun x hx => ⟨(inC_fits hf (h.inc x hx)).1, (inC_fits hf (h.inc x hx)).lt5 h4⟩
theorem CloI.done {S : It → Prop} {l l' : List It} (h : CloI L R n S l l.length) (h4 : R4 R n) (hf : ∀ y, S y → Fits L R n y) (hp : l'.Perm l) (hs : l'.Pairwise fun p q => ltI q p = false) : l' = clo L R n S := by
  refine clo_unique h4 hf (asc_of hp h.nd (fun x hx => (inC_fits hf (h.inc x hx)).lt5 h4) hs) fun x => ?_
  rw [hp.mem_iff]
  refine ⟨h.inc x, fun hx => inC_le h.sub (fun y k hy hk e => ?_) hx⟩
  obtain ⟨j, hj⟩ := List.getElem?_of_mem hy
  exact h.cls j y (List.getElem?_eq_some_iff.1 hj).1 hj k hk e
structure TabI (L : Nat → Int) (R : Nat → ByteArray) (n : Nat) (S : It → Prop) (P : It → Bool) : Prop where
  sub : ∀ y, S y → P y = true
  inc : ∀ x, P x = true → inC L R n S x
def cntI (n : Nat) (P : It → Bool) : Nat := (univ n).countP P
structure TabR (L : Nat → Int) (R : Nat → ByteArray) (n : Nat) (S : It → Prop) (P : It → Bool) (r : Nat) : Prop where
  t : TabI L R n S P
  c : Cls L R n (fun x => P x = true) ∨ r ≤ cntI n P
structure TabM (L : Nat → Int) (R : Nat → ByteArray) (n : Nat) (S : It → Prop) (P0 P : It → Bool) (i d k : Nat) : Prop where
  t : TabI L R n S P
  up : ∀ x, P0 x = true → P x = true
  got : ∀ i' d' k', (i' < i ∨ (i' = i ∧ (d' < d ∨ (d' = d ∧ k' < k)))) → k' < n → P0 (i', d') = true → bh L R n (i', d') = L k' → P (k', 0) = true
theorem TabM.start {S : It → Prop} {P : It → Bool} (h : TabI L R n S P) : TabM L R n S P P 0 0 0 := ⟨h, fun _ h => h, fun i' d' k' q => by omega⟩
def setI (P : It → Bool) (k : Nat) : It → Bool := fun x => if x = (k, 0) then true else P x
theorem TabM.skip {S : It → Prop} {P0 P : It → Bool} {i d k : Nat} (h : TabM L R n S P0 P i d k) (hk : P (i, d) = true → bh L R n (i, d) = L k → P (k, 0) = true) : TabM L R n S P0 P i d (k + 1) :=
  ⟨h.t, h.up, fun i' d' k' q hk' hp e => by
    by_cases z : i' = i ∧ d' = d ∧ k' = k
    · obtain ⟨rfl, rfl, rfl⟩ := z
      exact hk (h.up _ hp) e
    · exact h.got i' d' k' (by omega) hk' hp e⟩
theorem TabM.put {S : It → Prop} {P0 P : It → Bool} {i d k : Nat} (h : TabM L R n S P0 P i d k) (hkn : k < n) (hp : P (i, d) = true) (e : bh L R n (i, d) = L k) : TabM L R n S P0 (setI P k) i d (k + 1) := by
  have hs : ∀ x, P x = true → setI P k x = true := fun x hx => by
    unfold setI
    split
    · rfl
    · exact hx
  refine ⟨⟨fun y hy => hs y (h.t.sub y hy), fun x hx => ?_⟩, fun x hx => hs x (h.up x hx), fun i' d' k' q hk' hp' e' => ?_⟩
  · unfold setI at hx
    split at hx
    · rename_i q
      subst q
      exact inC_cls S (i, d) k (h.t.inc _ hp) hkn e
    · exact h.t.inc x hx
  · by_cases z : k' = k
    · subst z
      unfold setI
      rw [if_pos rfl]
    · by_cases z2 : i' = i ∧ d' = d ∧ k' = k
      · exact absurd z2.2.2 z
      · exact hs _ (h.got i' d' k' (by omega) hk' hp' e')
theorem TabM.col {S : It → Prop} {P0 P : It → Bool} {i d : Nat} (h : TabM L R n S P0 P i d n) : TabM L R n S P0 P i (d + 1) 0 :=
  ⟨h.t, h.up, fun i' d' k' q hk' hp e => h.got i' d' k' (by omega) hk' hp e⟩
theorem TabM.row {S : It → Prop} {P0 P : It → Bool} {i : Nat} (hok : ∀ k, k < n → L k ≠ 0) (h : TabM L R n S P0 P i (rs L R n i).size 0) : TabM L R n S P0 P (i + 1) 0 0 :=
  ⟨h.t, h.up, fun i' d' k' q hk' hp e => by
    by_cases z : i' = i
    · subst z
      have := bh_lt (L := L) (R := R) (n := n) (x := (i', d')) (by rw [e]; exact hok k' hk')
      exact h.got i' d' k' (.inr ⟨rfl, .inl this⟩) hk' hp e
    · exact h.got i' d' k' (by omega) hk' hp e⟩
theorem cnt_lt {P Q : It → Bool} (h : ∀ x, P x = true → Q x = true) {z : It} (hz : z ∈ univ n) (h1 : P z = false) (h2 : Q z = true) : cntI n P < cntI n Q := by
  rcases Nat.lt_or_ge (cntI n P) (cntI n Q) with q | q
  · exact q
  · have e : cntI n P = cntI n Q := Nat.le_antisymm (countP_le_of fun x _ hx => h x hx) q
    have := countP_eq_of (fun x _ hx => h x hx) e z hz
    rw [h1, h2] at this
    cases this
theorem TabM.round {S : It → Prop} {P0 P : It → Bool} {r : Nat} (hf : ∀ y, S y → Fits L R n y) (h0 : TabR L R n S P0 r) (h : TabM L R n S P0 P (n + 1) 0 0) : TabR L R n S P (r + 1) := by
  refine ⟨h.t, ?_⟩
  by_cases hc : Cls L R n (fun x => P0 x = true)
  · left
    intro y k hy hk e
    have h1 : P0 y = true := inC_le h0.t.sub hc (h.t.inc y hy)
    exact h.up _ (hc y k h1 hk e)
  · right
    rcases h0.c with q | q
    · exact absurd q hc
    · have : ∃ y k, P0 y = true ∧ k < n ∧ bh L R n y = L k ∧ P0 (k, 0) = false := by
        refine Classical.byContradiction fun hn => hc fun y k hy hk e => ?_
        cases hz : P0 (k, 0) with
        | true => exact hz
        | false => exact absurd ⟨y, k, hy, hk, e, hz⟩ hn
      obtain ⟨y, k, hy, hk, e, hz⟩ := this
      have hy1 := (inC_fits hf (h0.t.inc y hy)).1
      have h2 := h.got y.1 y.2 k (.inl (by omega)) hk hy e
      have := cnt_lt h.up (univ_mem.2 ⟨Nat.le_of_lt hk, by show (0 : Nat) < 5; omega⟩) hz h2
      omega
theorem TabR.start {S : It → Prop} {P : It → Bool} (h : TabI L R n S P) : TabR L R n S P 0 := ⟨h, .inr (Nat.zero_le _)⟩
theorem TabR.end_ {S : It → Prop} {P : It → Bool} (hn : n ≤ 8) (h : TabR L R n S P 45) (x : It) : P x = true ↔ inC L R n S x := by
  have hc : Cls L R n (fun x => P x = true) := by
    rcases h.c with q | q
    · exact q
    · intro y k hy hk e
      have hl : (univ n).length ≤ 45 := by rw [univ_length]; omega
      have h1 : (univ n).countP P ≤ (univ n).length := List.countP_le_length
      have h2 : (univ n).countP P = (univ n).length := by
        have : 45 ≤ (univ n).countP P := q
        omega
      rw [List.countP_eq_length] at h2
      exact h2 (k, 0) (univ_mem.2 ⟨by show k ≤ n; omega, by show (0 : Nat) < 5; omega⟩)
  exact ⟨h.t.inc x, fun hx => inC_le h.t.sub hc hx⟩
theorem TabR.list {S : It → Prop} {P : It → Bool} (hn : n ≤ 8) (h : TabR L R n S P 45) : (univ n).filter P = clo L R n S := by
  unfold clo
  apply List.filter_congr
  intro x _
  have := h.end_ hn x
  cases hp : P x with
  | true => rw [hp] at this; simp [this.1 rfl]
  | false =>
    rw [hp] at this
    have : ¬ inC L R n S x := fun q => by have := this.2 q; cases this
    simp [this]
def uptoI (n : Nat) (P : It → Bool) (q : Nat) : List It := ((List.range q).map fun q => ((q / 5, q % 5) : It)).filter P
theorem uptoI_succ (P : It → Bool) (q : Nat) : uptoI n P (q + 1) = if P (q / 5, q % 5) = true then uptoI n P q ++ [(q / 5, q % 5)] else uptoI n P q := by
  unfold uptoI
  rw [List.range_succ, List.map_append, List.filter_append]
  split
  · rename_i h
    simp [h]
  · rename_i h
    simp [h]
theorem uptoI_all (P : It → Bool) : uptoI n P ((n + 1) * 5) = (univ n).filter P := rfl
structure StaI (L : Nat → Int) (R : Nat → ByteArray) (n : Nat) (out : List (List It)) (i : Nat) : Prop where
  le : out.length ≤ 64
  fits : ∀ s ∈ out, Asc s ∧ ∀ x ∈ s, Fits L R n x
  rest : bld L R n (65 - i) i out = stas L R n
  ile : i ≤ out.length
structure StaK (L : Nat → Int) (R : Nat → ByteArray) (n : Nat) (st : List It) (out : List (List It)) (i k : Nat) : Prop where
  le : out.length ≤ 64
  fits : ∀ s ∈ out, Asc s ∧ ∀ x ∈ s, Fits L R n x
  at_ : out[i]? = some st
  rest : (onL L R n st (lets.drop k) out).bind (bld L R n (64 - i) (i + 1)) = stas L R n
theorem sta0_ok (h4 : R4 R n) : Asc (sta0 L R n) ∧ ∀ x ∈ sta0 L R n, Fits L R n x := ⟨clo_ord _, fun x hx => clo_fits h4 sta0_fits hx⟩
theorem StaI.start (h4 : R4 R n) : StaI L R n [sta0 L R n] 0 :=
  ⟨by simp, fun s hs => by rw [List.mem_singleton] at hs; subst hs; exact sta0_ok h4, rfl, by simp⟩
theorem StaI.row {out : List (List It)} {i : Nat} (h : StaI L R n out i) {st : List It} (hi : out[i]? = some st) : StaK L R n st out i 0 := by
  obtain ⟨hlt, e⟩ := List.getElem?_eq_some_iff.1 hi
  refine ⟨h.le, h.fits, hi, ?_⟩
  have h1 := h.rest
  have h2 := h.le
  rw [show 65 - i = (64 - i) + 1 by omega, bld, dif_pos hlt, e] at h1
  exact h1
theorem StaI.done {out : List (List It)} (h : StaI L R n out out.length) : stas L R n = some out := by
  have h1 := h.rest
  have h2 := h.le
  rw [show 65 - out.length = (64 - out.length) + 1 by omega, bld, dif_neg (Nat.lt_irrefl _)] at h1
  exact h1.symm
theorem StaK.next {st : List It} {out : List (List It)} {i : Nat} (h : StaK L R n st out i 9) : StaI L R n out (i + 1) := by
  have hi := (List.getElem?_eq_some_iff.1 h.at_).1
  refine ⟨h.le, h.fits, ?_, hi⟩
  have := h.rest
  rw [show lets.drop 9 = [] from rfl, onL] at this
  rw [show 65 - (i + 1) = 64 - i by omega]
  exact this
theorem lets_drop {k : Nat} (hk : k < 9) : lets.drop k = lets[k]'hk :: lets.drop (k + 1) := (List.drop_eq_getElem_cons hk)
theorem StaK.skip {st : List It} {out : List (List It)} {i k : Nat} (h : StaK L R n st out i k) (hk : k < 9) (hn : onC L R n out st (lets[k]'hk) = some out) : StaK L R n st out i (k + 1) := by
  refine ⟨h.le, h.fits, h.at_, ?_⟩
  have := h.rest
  rw [lets_drop hk, onL, hn] at this
  exact this
theorem StaK.none_ {st : List It} {out : List (List It)} {i k : Nat} (h : StaK L R n st out i k) (hk : k < 9) (hn : nxt L R n st (lets[k]'hk) = []) : StaK L R n st out i (k + 1) :=
  h.skip hk (by unfold onC; rw [if_pos hn])
theorem StaK.old {st : List It} {out : List (List It)} {i k : Nat} (h : StaK L R n st out i k) (hk : k < 9) (hn : ovr L R n st (lets[k]'hk) ∈ out) : StaK L R n st out i (k + 1) :=
  h.skip hk (by unfold onC; rw [if_pos hn]; split <;> rfl)
theorem lets_ne {k : Nat} (hk : k < 9) : lets[k]'hk ≠ 0 := by
  have : ∀ k : Fin 9, lets[k.val]'k.isLt ≠ 0 := by decide
  exact this ⟨k, hk⟩
theorem ovr_ok (h4 : R4 R n) {st : List It} (hs : ∀ x ∈ st, Fits L R n x) {c : Int} (hc : c ≠ 0) : Asc (ovr L R n st c) ∧ ∀ x ∈ ovr L R n st c, Fits L R n x :=
  ⟨clo_ord _, fun x hx => clo_fits h4 (nxt_fits hs hc) hx⟩
theorem StaK.new (h4 : R4 R n) {st : List It} {out : List (List It)} {i k : Nat} (h : StaK L R n st out i k) (hk : k < 9) (hne : nxt L R n st (lets[k]'hk) ≠ []) (hn : ovr L R n st (lets[k]'hk) ∉ out) (hl : out.length < 64) : StaK L R n st (out ++ [ovr L R n st (lets[k]'hk)]) i (k + 1) := by
  have hst := (h.fits st (List.mem_of_getElem? h.at_)).2
  refine ⟨by rw [List.length_append]; simp; omega, fun s hs => ?_, ?_, ?_⟩
  · rcases List.mem_append.1 hs with q | q
    · exact h.fits s q
    · rw [List.mem_singleton] at q
      subst q
      exact ovr_ok h4 hst (lets_ne hk)
  · rw [List.getElem?_append_left (List.getElem?_eq_some_iff.1 h.at_).1]
    exact h.at_
  · have := h.rest
    rw [lets_drop hk, onL] at this
    have e : onC L R n out st (lets[k]'hk) = some (out ++ [ovr L R n st (lets[k]'hk)]) := by
      unfold onC
      rw [if_neg hne, if_neg hn, if_neg (by omega)]
    rw [e] at this
    exact this
theorem StaK.full {st : List It} {out : List (List It)} {i k : Nat} (h : StaK L R n st out i k) (hk : k < 9) (hne : nxt L R n st (lets[k]'hk) ≠ []) (hn : ovr L R n st (lets[k]'hk) ∉ out) (hl : ¬ out.length < 64) : stas L R n = none := by
  have := h.rest
  rw [lets_drop hk, onL] at this
  have e : onC L R n out st (lets[k]'hk) = none := by
    unfold onC
    rw [if_neg hne, if_neg hn, if_pos (by omega)]
  rw [e] at this
  exact this.symm
end
end Go.Proofs.YtjpfalanoifpbaaDoor.T
end

section
set_option linter.unusedVariables false
set_option linter.unusedSimpArgs false
namespace Go.Proofs.YtjpfalanoifpbaaDoor.X
open Go.RowKit Go.Proofs.YtjpfalanoifpbaaDoorW.PrintWords Go.Proofs.YtjpfalanoifpbaaDoorW.PrintLast Go.Proofs.YtjpfalanoifpbaaDoorW.PrintMore Go.Proofs.YtjpfalanoifpbaaDoor.T
abbrev KI : Kd It := Kd.iso (Kd.pair (Kd.int .i64) (Kd.int .i64)) fun x => ((x.1 : Int), (x.2 : Int))
def itV (x : It) : List Value := [.int .i64 (x.1 : Nat), .int .i64 (x.2 : Nat)]
theorem ki_cells {w : World} {x : It} {c : List Value} (h : KI.K w x c) : c = itV x := by
  obtain ⟨c0, c1, rfl, h0, h1⟩ := h
  rw [show c0 = [.int .i64 (x.1 : Nat)] from h0, show c1 = [.int .i64 (x.2 : Nat)] from h1]
  rfl
theorem ki_rep {w : World} {B : Nat} {ok : Nat → Prop} (x : It) : KI.M w B ok x [.int .i64 (x.1 : Nat), .int .i64 (x.2 : Nat)] := ⟨[.int .i64 (x.1 : Nat)], [.int .i64 (x.2 : Nat)], rfl, rfl, rfl⟩
structure Itm (w : World) (b off : Nat) (l : List It) : Prop where
  c0 : ∀ (i : Nat) x, l[i]? = some x → w.cell? ⟨b, off + i * 2, none⟩ = some (.int .i64 (x.1 : Nat))
  c1 : ∀ (i : Nat) x, l[i]? = some x → w.cell? ⟨b, off + i * 2 + 1, none⟩ = some (.int .i64 (x.2 : Nat))
theorem Itm.later {w w' : World} {b off : Nat} {l : List It} (h : Itm w b off l) (hb : Below w.heap.size w w') : Itm w' b off l :=
  ⟨fun i x hi => (hb.cell (p := ⟨b, off + i * 2, none⟩) (World.block_lt_of_cell? _ _ (h.c0 i x hi))).trans (h.c0 i x hi), fun i x hi => (hb.cell (p := ⟨b, off + i * 2 + 1, none⟩) (World.block_lt_of_cell? _ _ (h.c1 i x hi))).trans (h.c1 i x hi)⟩
def Ir (w : World) (A : Option Addr) (n c : Nat) (l : List It) : Prop := n = l.length ∧ (n = 0 ∨ ∃ b off, A = some ⟨b, off, none⟩ ∧ n ≤ c ∧ Itm w b off l)
theorem Ir.later {w w' : World} {A : Option Addr} {n c : Nat} {l : List It} (h : Ir w A n c l) (hb : Below w.heap.size w w') : Ir w' A n c l := by
  obtain ⟨h0, h | ⟨b, off, h1, h2, h3⟩⟩ := h
  · exact ⟨h0, .inl h⟩
  · exact ⟨h0, .inr ⟨b, off, h1, h2, h3.later hb⟩⟩
theorem Ir.open {w : World} {A : Option Addr} {n c : Nat} {l : List It} (h : Ir w A n c l) (h0 : 0 < n) : ∃ b off, A = some ⟨b, off, none⟩ ∧ n ≤ c ∧ Itm w b off l := by
  rcases h.2 with h | h
  · omega
  · exact h
theorem ki_ir {w : World} {A : Option Addr} {n c : Nat} {l : List It} (h : KI.C w A n l) (hc : n ≤ c) : Ir w A n c l := by
  refine ⟨h.1.symm, ?_⟩
  rcases Nat.eq_zero_or_pos n with h0 | h0
  · exact .inl h0
  · obtain ⟨ad, rfl, hr⟩ := h.2.2 h0
    have hl : l.length = n := h.1
    have key : ∀ j x, l[j]? = some x → w.cell? (ad.add (j * 2)) = some (.int .i64 (x.1 : Nat)) ∧ w.cell? (ad.add (j * 2 + 1)) = some (.int .i64 (x.2 : Nat)) := fun j x hp => by
      obtain ⟨cs, hs, hk, hcell⟩ := hr j _ hp
      have e := ki_cells hk
      subst e
      exact ⟨hcell 0 _ rfl, hcell 1 _ rfl⟩
    have hsp : ad.spot = none := by
      have hp : l[0]? = some (l[0]'(by omega)) := List.getElem?_eq_getElem (by omega)
      have := (key 0 _ hp).1
      rw [show ad.add (0 * 2) = ad by simp [Addr.add]] at this
      exact World.cell?_spot this
    have ha : ∀ j, ad.add j = ⟨ad.block, ad.off + j, none⟩ := fun j => by
      unfold Addr.add
      by_cases hj : j = 0
      · subst hj
        rw [if_pos rfl, ← hsp]
        simp
      · rw [if_neg hj]
    refine .inr ⟨ad.block, ad.off, by rw [← hsp], hc, fun i x hi => ?_, fun i x hi => ?_⟩
    · rw [← ha]; exact (key i x hi).1
    · rw [Nat.add_assoc, ← ha]; exact (key i x hi).2
theorem ki_read {ty B : Nat} {w : World} {ok : Nat → Prop} {v : Value} {l : List It} (h : Kd.R KI ty w B ok v l) : ∃ A c, v = .slice A l.length c ∧ Ir w A l.length c l := by
  obtain ⟨A, c, rfl, hc, hC⟩ := Kd.R_reads h
  exact ⟨A, c, rfl, ki_ir hC hc⟩
theorem enc_part {c : Int} (h : isP c = true) : Utf8.encode c = sg c := by
  rw [isP_iff] at h
  have : c = 65 ∨ c = 66 ∨ c = 67 ∨ c = 68 ∨ c = 69 := by omega
  rcases this with rfl | rfl | rfl | rfl | rfl <;> rfl
set_option maxHeartbeats 4000000 in
set_option maxRecDepth 100000 in
theorem right_calls (A : Option Addr) (n c : Nat) (L : Nat → Int) (R : Nat → ByteArray) (i : Nat) (w : World) (hA : Sr w A n c L R) (hn : 1 ≤ n) (hn8 : n ≤ 8) (hi : i ≤ n) (hp : isP (L 0) = true) :
    Calls Tryd.prog 116 #[.slice A n c, .int .i64 (i : Nat)] w fun e w' => e = .returned (.string (rs L R n i)) ∧ w' = w := by
  obtain ⟨b, off, rfl, hnc, hP⟩ := hA.open hn
  obtain ⟨X, hX⟩ : ∃ X, rs L R n i = X := ⟨_, rfl⟩
  rw [hX]
  unfold rs at hX
  by_cases hin : i = n
  · rw [if_pos hin] at hX
    subst hin
    have c0 := hP.c0 0 hn
    obtain ⟨l, hl⟩ : ∃ l, L 0 = l := ⟨_, rfl⟩
    rw [hl] at c0 hX hp
    have he : Utf8.encode l = X := (enc_part hp).trans hX
    simp only [Nat.zero_mul, Nat.add_zero] at c0
    have hc0 : 0 < c := by omega
    clear hX hP hA hl
    go_enter Tryd.func116, Tryd.ntmps116
    go_wp2
    go_ret
    exact ⟨rfl, rfl⟩
  · rw [if_neg hin] at hX
    have c1 := hP.c1 i (by omega)
    rw [hX] at c1
    have hic : i < c := by omega
    have hinI : ¬ (i : Int) = (n : Int) := by omega
    clear hX hP hA
    go_enter Tryd.func116, Tryd.ntmps116
    go_wp2
    go_ret
    exact ⟨rfl, rfl⟩
theorem it_new (w : World) (t : TypeId) (a b : Int) : (w.alloc (.cells #[.int .i64 a, .int .i64 b] t)).cell? ⟨w.heap.size, 0, none⟩ = some (.int .i64 a) ∧ (w.alloc (.cells #[.int .i64 a, .int .i64 b] t)).cell? ⟨w.heap.size, 1, none⟩ = some (.int .i64 b) :=
  ⟨by simp, by simp⟩
set_option maxHeartbeats 4000000 in
set_option maxRecDepth 100000 in
theorem behind_calls (A : Option Addr) (n c : Nat) (L : Nat → Int) (R : Nat → ByteArray) (x : It) (w : World) (hA : Sr w A n c L R) (hn : 1 ≤ n) (hn8 : n ≤ 8) (hx : Fits L R n x) (h4 : R4 R n) (hp : isP (L 0) = true) :
    Calls Tryd.prog 111 #[.slice A n c, .agg #[.int .i64 (x.1 : Nat), .int .i64 (x.2 : Nat)]] w fun e w' => e = .returned (.int .u8 (bh L R n x)) ∧ Below w.heap.size w w' := by
  have HA := Lib.hid hA
  have hs4 := rs_le (L := L) h4 hx.1
  have hx2 := hx.2
  have hx1 := hx.1
  obtain ⟨X, hX⟩ : ∃ X, bh L R n x = X := ⟨_, rfl⟩
  rw [hX]
  unfold bh at hX
  obtain ⟨i, d⟩ := x
  simp only at hX hx1 hx2 hs4 ⊢
  have HR := Lib.hid fun (w : World) (h : Sr w A n c L R) => right_calls A n c L R i w h hn hn8 hx1 hp
  obtain ⟨s, hs⟩ : ∃ s, rs L R n i = s := ⟨_, rfl⟩
  rw [hs] at hs4 hx2 HR hX
  clear hA hs hx hp
  go_enter Tryd.func111, Tryd.ntmps111
  go_wp2_with fail
  have hb1 := below_one (w := w) (.cells #[.int .i64 (i : Nat), .int .i64 (d : Nat)] 122)
  obtain ⟨d0, d1⟩ := it_new w 122 (i : Nat) (d : Nat)
  generalize w.alloc (.cells #[.int .i64 (i : Nat), .int .i64 (d : Nat)] 122) = w1 at hb1 d0 d1 ⊢
  have HB := Lib.hid hb1
  clear hb1
  go_wp2_with fail
  refine (HR.out w1 (HA.out.later HB.out)).mono ?_
  rintro e w2 ⟨rfl, rfl⟩
  by_cases hlt : d < s.size
  · have hltI : (d : Int) < (s.size : Int) := by omega
    have hbt : (((s[d]'hlt).toNat : Nat) : Int) = X := (ch_at s d hlt).trans hX
    go_wp2
    go_ret
    exact ⟨rfl, HB.out⟩
  · have hltI : ¬ (d : Int) < (s.size : Int) := by omega
    have hX0 : X = 0 := by rw [← hX]; exact ch_end s d (by omega)
    subst hX0
    go_wp2
    go_ret
    exact ⟨rfl, HB.out⟩
end Go.Proofs.YtjpfalanoifpbaaDoor.X
end

section
set_option linter.unusedVariables false
set_option linter.unusedSimpArgs false
namespace Go.Proofs.YtjpfalanoifpbaaDoor.X
open Go.RowKit Go.Proofs.YtjpfalanoifpbaaDoorW.PrintWords Go.Proofs.YtjpfalanoifpbaaDoorW.PrintLast Go.Proofs.YtjpfalanoifpbaaDoorW.PrintMore Go.Proofs.YtjpfalanoifpbaaDoor.T
def sameI (x y : It) : Bool := decide (x = y)
theorem item_eq (a b c d : Nat) (w : World) : (Op.equalIn 10000 122 (.agg #[.int .i64 (a : Nat), .int .i64 (b : Nat)]) (.agg #[.int .i64 (c : Nat), .int .i64 (d : Nat)])).run Tryd.prog w = .ok (sameI (a, b) (c, d)) w := by
  unfold sameI
  have u3 := Tryd.underlying3
  have a3 := Tryd.isAgg3
  have z3 := Tryd.sizeOf3
  rw [show (10000 : Nat) = 9999 + 1 from rfl, Op.equalIn]
  simp only [Sem.run_bind, run_underlying Tryd.underlying122, Result.andThen_ok]
  go_simp
  by_cases h1 : a = c <;> by_cases h2 : b = d <;> simp [h1, h2] <;> omega
theorem item_eq73 (a b c d : Nat) (w : World) : (Op.equalIn 10000 73 (.agg #[.int .i64 (a : Nat), .int .i64 (b : Nat)]) (.agg #[.int .i64 (c : Nat), .int .i64 (d : Nat)])).run Tryd.prog w = .ok (sameI (a, b) (c, d)) w := by
  unfold sameI
  have u3 := Tryd.underlying3
  have a3 := Tryd.isAgg3
  have z3 := Tryd.sizeOf3
  rw [show (10000 : Nat) = 9999 + 1 from rfl, Op.equalIn]
  simp only [Sem.run_bind, run_underlying Tryd.underlying73, Result.andThen_ok]
  go_simp
  by_cases h1 : a = c <;> by_cases h2 : b = d <;> simp [h1, h2] <;> omega
set_option maxHeartbeats 4000000 in
set_option maxRecDepth 100000 in
theorem indexI_calls (A : Option Addr) (n c : Nat) (l : List It) (x : It) (w : World) (hA : Ir w A n c l) (hn : n ≤ 1000) (r : Bool) (hr : r = true ↔ x ∈ l) :
    Calls Tryd.prog 138 #[.slice A n c, .agg #[.int .i64 (x.1 : Nat), .int .i64 (x.2 : Nat)]] w fun e w' => (∃ i : Int, e = .returned (.int .i64 i) ∧ (decide (0 ≤ i)) = r) ∧ Below w.heap.size w w' := by
  obtain ⟨p, q⟩ := x
  simp only
  have HA := Lib.hid hA
  have HR := Lib.hid hr
  clear hA hr
  go_enter Tryd.func138, Tryd.ntmps138
  go_wp2_with fail
  have hb1 := below_one (w := w) (.cells #[.int .i64 (p : Nat), .int .i64 (q : Nat)] 122)
  obtain ⟨d0, d1⟩ := it_new w 122 (p : Nat) (q : Nat)
  have hl1 : w.heap.size < (w.alloc (.cells #[.int .i64 (p : Nat), .int .i64 (q : Nat)] 122)).heap.size := by simp
  obtain ⟨w1, hw1⟩ : ∃ w1, w1 = w.alloc (.cells #[.int .i64 (p : Nat), .int .i64 (q : Nat)] 122) := ⟨_, rfl⟩
  rw [← hw1] at hb1 d0 d1 hl1 ⊢
  have HB1 := Lib.hid hb1
  have HD := Lib.hid (And.intro d0 (And.intro d1 hl1))
  clear hw1 hb1 d0 d1 hl1
  have HB := Lib.hid (Below.refl w1.heap.size w1)
  go_loopw [8] (fun i wr => ∃ k : Nat, k ≤ n ∧ i = .int .i64 k ∧ Hid (∀ j, j < k → l[j]? ≠ some (p, q)) ∧ Hid (Below w1.heap.size w1 wr)) (fun i _ => n - (intOf i).toNat)
  case atStart => exact ⟨0, by omega, rfl, Lib.hid (fun j h => by omega), HB⟩
  case round =>
    clear HB
    obtain ⟨k, hk, rfl, HK, HB⟩ := hrel
    have HBW := Lib.hid (HB1.out.trans (HB.out.mono HB1.out.size))
    by_cases hlt : k < n
    · obtain ⟨b, off, rfl, hnc, hP⟩ := HA.out.open (by omega)
      have hkl : k < l.length := by have := HA.out.1; omega
      obtain ⟨⟨p2, q2⟩, hx⟩ : ∃ y, l[k]? = some y := ⟨_, List.getElem?_eq_getElem hkl⟩
      have c0 := (hP.later HBW.out).c0 k _ hx
      have c1 := (hP.later HBW.out).c1 k _ hx
      simp only at c0 c1
      have t0 := (HB.out.cell (p := ⟨w.heap.size, 0, none⟩) HD.out.2.2).trans HD.out.1
      have t1 := (HB.out.cell (p := ⟨w.heap.size, 1, none⟩) HD.out.2.2).trans HD.out.2.1
      have HX := Lib.hid hx
      have hm122 : Tryd.prog.eqGuardType Tryd.prog.depth 122 = false := by kernel_rfl
      have he := fun w => item_eq p q p2 q2 w
      clear hx hP hkl
      cases hq : sameI (p, q) (p2, q2) with
      | true =>
        rw [hq] at he
        have hrt : r = true := HR.out.2 (by
          have e : (p, q) = (p2, q2) := of_decide_eq_true hq
          rw [e]
          exact List.mem_of_getElem? HX.out)
        have HRT := Lib.hid hrt
        clear hrt hq
        go_wp2_with fail
        refine start_ (n := 6) (S := fun w' => w'.cell? ⟨w.heap.size, 0, none⟩ = some (.int .i64 (p : Nat)) ∧ w'.cell? ⟨w.heap.size, 1, none⟩ = some (.int .i64 (q : Nat)) ∧ w'.cell? ⟨b, off + k * 2, none⟩ = some (.int .i64 (p2 : Nat)) ∧ w'.cell? ⟨b, off + k * 2 + 1, none⟩ = some (.int .i64 (q2 : Nat))) (ds := []) #[false, false, false, false, false, false] (by kernel_rfl) rfl rfl ⟨by simpa using t0, by simpa using t1, by simpa using c0, by simpa using c1⟩ (fun hHeld => ?_)
        refine take_ (i := 0) (N := (some 11)) (v := ?_) (a' := ?_) #[true, false, false, false, false, false] rfl rfl (by kernel_rfl) (fun _ _ _ h => h) (Or.inl ⟨by rfl, ?_⟩) hHeld ?_ ?_
        rotate_left
        · rintro w' ⟨s0, s1, s2, s3⟩; go_simp; first | done | with_reducible rfl
        rotate_left
        · simp only [Act.put, List.setIfInBounds_toArray, List.set_cons_zero, List.set_cons_succ, i64_w, i32_w]; rfl
        refine pure_ (i := 1) (N := (some 12)) (v := ?_) (a' := ?_) #[true, true, false, false, false, false] rfl rfl (by kernel_rfl) (fun _ _ _ h => h) (Or.inl ⟨by rfl, ?_⟩) ?_ ?_
        rotate_left
        · intro w'; go_simp; first | done | with_reducible rfl
        rotate_left
        · simp only [Act.put, List.setIfInBounds_toArray, List.set_cons_zero, List.set_cons_succ, i64_w, i32_w]; rfl
        refine pure_ (i := 2) (N := (some 13)) (v := ?_) (a' := ?_) #[true, true, true, false, false, false] rfl rfl (by kernel_rfl) (fun _ _ _ h => h) (Or.inl ⟨by rfl, ?_⟩) ?_ ?_
        rotate_left
        · intro w'; go_simp; first | done | with_reducible rfl
        rotate_left
        · simp only [Act.put, List.setIfInBounds_toArray, List.set_cons_zero, List.set_cons_succ, i64_w, i32_w]; rfl
        refine pure_ (i := 3) (N := (some 14)) (v := ?_) (a' := ?_) #[true, true, true, true, false, false] rfl rfl (by kernel_rfl) (fun _ _ _ h => h) (Or.inl ⟨by rfl, ?_⟩) ?_ ?_
        rotate_left
        · intro w'; go_simp; first | done | with_reducible rfl
        rotate_left
        · simp only [Act.put, List.setIfInBounds_toArray, List.set_cons_zero, List.set_cons_succ, i64_w, i32_w]; rfl
        refine take_ (i := 4) (N := (some 15)) (v := ?_) (a' := ?_) #[true, true, true, true, true, false] rfl rfl (by kernel_rfl) (fun _ _ _ h => h) (Or.inl ⟨by rfl, ?_⟩) hHeld ?_ ?_
        rotate_left
        · rintro w' ⟨s0, s1, s2, s3⟩; go_simp; first | done | with_reducible rfl
        rotate_left
        · simp only [Act.put, List.setIfInBounds_toArray, List.set_cons_zero, List.set_cons_succ, i64_w, i32_w]; rfl
        refine pure_ (i := 5) (N := (some 16)) (v := (.bool true)) (a' := ?_) #[true, true, true, true, true, true] rfl rfl (by kernel_rfl) (fun _ _ _ h => h) (Or.inl ⟨by rfl, ?_⟩) ?_ ?_
        · intro w'; go_simp; first | done | with_reducible rfl
        rotate_left
        · simp only [Act.put, List.setIfInBounds_toArray, List.set_cons_zero, List.set_cons_succ, i64_w, i32_w]; rfl
        refine done_ (by kernel_rfl) ?_
        have HB2 := Lib.hid HBW.out.drew
        clear hHeld c0 c1 t0 t1 he hm122
        go_wp2
        go_ret
        exact ⟨⟨k, rfl, by rw [HRT.out]; simp⟩, HB2.out⟩
      | false =>
        rw [hq] at he
        have HQ := Lib.hid hq
        clear hq
        go_wp2_with fail
        refine start_ (n := 6) (S := fun w' => w'.cell? ⟨w.heap.size, 0, none⟩ = some (.int .i64 (p : Nat)) ∧ w'.cell? ⟨w.heap.size, 1, none⟩ = some (.int .i64 (q : Nat)) ∧ w'.cell? ⟨b, off + k * 2, none⟩ = some (.int .i64 (p2 : Nat)) ∧ w'.cell? ⟨b, off + k * 2 + 1, none⟩ = some (.int .i64 (q2 : Nat))) (ds := []) #[false, false, false, false, false, false] (by kernel_rfl) rfl rfl ⟨by simpa using t0, by simpa using t1, by simpa using c0, by simpa using c1⟩ (fun hHeld => ?_)
        refine take_ (i := 0) (N := (some 11)) (v := ?_) (a' := ?_) #[true, false, false, false, false, false] rfl rfl (by kernel_rfl) (fun _ _ _ h => h) (Or.inl ⟨by rfl, ?_⟩) hHeld ?_ ?_
        rotate_left
        · rintro w' ⟨s0, s1, s2, s3⟩; go_simp; first | done | with_reducible rfl
        rotate_left
        · simp only [Act.put, List.setIfInBounds_toArray, List.set_cons_zero, List.set_cons_succ, i64_w, i32_w]; rfl
        refine pure_ (i := 1) (N := (some 12)) (v := ?_) (a' := ?_) #[true, true, false, false, false, false] rfl rfl (by kernel_rfl) (fun _ _ _ h => h) (Or.inl ⟨by rfl, ?_⟩) ?_ ?_
        rotate_left
        · intro w'; go_simp; first | done | with_reducible rfl
        rotate_left
        · simp only [Act.put, List.setIfInBounds_toArray, List.set_cons_zero, List.set_cons_succ, i64_w, i32_w]; rfl
        refine pure_ (i := 2) (N := (some 13)) (v := ?_) (a' := ?_) #[true, true, true, false, false, false] rfl rfl (by kernel_rfl) (fun _ _ _ h => h) (Or.inl ⟨by rfl, ?_⟩) ?_ ?_
        rotate_left
        · intro w'; go_simp; first | done | with_reducible rfl
        rotate_left
        · simp only [Act.put, List.setIfInBounds_toArray, List.set_cons_zero, List.set_cons_succ, i64_w, i32_w]; rfl
        refine pure_ (i := 3) (N := (some 14)) (v := ?_) (a' := ?_) #[true, true, true, true, false, false] rfl rfl (by kernel_rfl) (fun _ _ _ h => h) (Or.inl ⟨by rfl, ?_⟩) ?_ ?_
        rotate_left
        · intro w'; go_simp; first | done | with_reducible rfl
        rotate_left
        · simp only [Act.put, List.setIfInBounds_toArray, List.set_cons_zero, List.set_cons_succ, i64_w, i32_w]; rfl
        refine take_ (i := 4) (N := (some 15)) (v := ?_) (a' := ?_) #[true, true, true, true, true, false] rfl rfl (by kernel_rfl) (fun _ _ _ h => h) (Or.inl ⟨by rfl, ?_⟩) hHeld ?_ ?_
        rotate_left
        · rintro w' ⟨s0, s1, s2, s3⟩; go_simp; first | done | with_reducible rfl
        rotate_left
        · simp only [Act.put, List.setIfInBounds_toArray, List.set_cons_zero, List.set_cons_succ, i64_w, i32_w]; rfl
        refine pure_ (i := 5) (N := (some 16)) (v := (.bool false)) (a' := ?_) #[true, true, true, true, true, true] rfl rfl (by kernel_rfl) (fun _ _ _ h => h) (Or.inl ⟨by rfl, ?_⟩) ?_ ?_
        · intro w'; go_simp; first | done | with_reducible rfl
        rotate_left
        · simp only [Act.put, List.setIfInBounds_toArray, List.set_cons_zero, List.set_cons_succ, i64_w, i32_w]; rfl
        refine done_ (by kernel_rfl) ?_
        have HB2 := Lib.hid HB.out.drew
        clear hHeld c0 c1 t0 t1 he hm122
        go_wp2_with fail
        refine ⟨⟨k + 1, by omega, by go_num, Lib.hid (fun j hj => ?_), HB2⟩, by simp [intOf]; omega⟩
        by_cases e : j = k
        · rw [e, HX.out]
          intro z
          injection z with z
          rw [z] at HQ
          have := HQ.out
          unfold sameI at this
          simp at this
        · exact HK.out j (by omega)
    · obtain rfl : k = n := by omega
      have hrf : r = false := by
        rw [Bool.eq_false_iff]
        intro z
        obtain ⟨j, hj⟩ := List.getElem?_of_mem (HR.out.1 z)
        have h1 := (List.getElem?_eq_some_iff.1 hj).1
        exact HK.out j (by have := HA.out.1; omega) hj
      have HRF := Lib.hid hrf
      clear hrf
      go_wp2
      go_ret
      exact ⟨⟨-1, rfl, by rw [HRF.out]; rfl⟩, HBW.out⟩
set_option maxHeartbeats 1000000 in
set_option maxRecDepth 100000 in
theorem containsI_calls (A : Option Addr) (n c : Nat) (l : List It) (x : It) (w : World) (hA : Ir w A n c l) (hn : n ≤ 1000) (r : Bool) (hr : r = true ↔ x ∈ l) :
    Calls Tryd.prog 128 #[.slice A n c, .agg #[.int .i64 (x.1 : Nat), .int .i64 (x.2 : Nat)]] w fun e w' => e = .returned (.bool r) ∧ Below w.heap.size w w' := by
  have HA := Lib.hid hA
  have HR := Lib.hid hr
  clear hA hr
  obtain ⟨p, q⟩ := x
  simp only
  go_enter Tryd.func128, Tryd.ntmps128
  go_wp2_with fail
  have hb1 := below_one (w := w) (.cells #[.int .i64 (p : Nat), .int .i64 (q : Nat)] 122)
  refine (indexI_calls A n c l (p, q) _ (HA.out.later hb1) hn r HR.out).mono ?_
  rintro e w1 ⟨⟨i, rfl, hi⟩, hb2⟩
  have HB := Lib.hid (hb1.trans (hb2.mono hb1.size))
  have HI := Lib.hid hi
  clear hb1 hb2 hi
  go_wp2
  go_ret
  exact ⟨ret_bool HI.out, HB.out⟩
set_option maxHeartbeats 8000000 in
set_option maxRecDepth 100000 in
theorem eqI_calls {A1 A2 : Option Addr} {n1 n2 c1 c2 : Nat} {l m : List It} {w : World} (h1 : Ir w A1 n1 c1 l) (h2 : Ir w A2 n2 c2 m) (hn : n1 ≤ 1000 ∧ n2 ≤ 1000) (r : Bool) (hr : r = true ↔ l = m) :
    Calls Tryd.prog 114 #[.slice A1 n1 c1, .slice A2 n2 c2] w fun e w' => e = .returned (.bool r) ∧ Below w.heap.size w w' := by
  have H1 := Lib.hid h1
  have H2 := Lib.hid h2
  have HR := Lib.hid hr
  obtain ⟨hn1, hn2⟩ := hn
  clear h1 h2 hr
  by_cases hl : n1 = n2
  · subst hl
    go_enter Tryd.func114, Tryd.ntmps114
    go_wp2_with fail
    have HB := Lib.hid (Below.refl w.heap.size w)
    go_loopw [13] (fun i wr => ∃ x : Nat, x ≤ n1 ∧ i = .int .i64 x ∧ Hid (∀ j, j < x → l[j]? = m[j]?) ∧ Hid (Below w.heap.size w wr)) (fun i _ => n1 - (intOf i).toNat)
    case atStart => exact ⟨0, by omega, rfl, Lib.hid (fun j hj => by omega), HB⟩
    case round =>
      clear HB
      obtain ⟨x, hx, rfl, HK, HB⟩ := hrel
      by_cases hxl : x < n1
      · have hxI : (x : Int) < (n1 : Int) := by omega
        obtain ⟨b1, o1, e1, hm1, hP1⟩ := H1.out.open (by omega)
        obtain ⟨b2, o2, e2, hm2, hP2⟩ := H2.out.open (by omega)
        subst e1 e2
        obtain ⟨⟨p, q⟩, hx1⟩ : ∃ y, l[x]? = some y := ⟨_, List.getElem?_eq_getElem (by have := H1.out.1; omega)⟩
        obtain ⟨⟨p2, q2⟩, hx2⟩ : ∃ y, m[x]? = some y := ⟨_, List.getElem?_eq_getElem (by have := H2.out.1; omega)⟩
        have f0 := (hP1.later HB.out).c0 x _ hx1
        have f1 := (hP1.later HB.out).c1 x _ hx1
        have g0 := (hP2.later HB.out).c0 x _ hx2
        have g1 := (hP2.later HB.out).c1 x _ hx2
        simp only at f0 f1 g0 g1
        have hxc1 : x < c1 := by omega
        have hxc2 : x < c2 := by omega
        have hm122 : Tryd.prog.eqGuardType Tryd.prog.depth 122 = false := by kernel_rfl
        have he := fun w => item_eq p q p2 q2 w
        have HX1 := Lib.hid hx1
        have HX2 := Lib.hid hx2
        clear hx1 hx2 hP1 hP2
        cases hq : sameI (p, q) (p2, q2) with
        | true =>
          rw [hq] at he
          have HQ : Hid ((p, q) = (p2, q2)) := Lib.hid (of_decide_eq_true hq)
          clear hq
          go_wp2_with fail
          go_quiet (fail)
          have hbq := pw_below_drewN (Below.refl wr.heap.size wr) nq
          have HB3 := Lib.hid (HB.out.trans (hbq.mono HB.out.size))
          clear hbq f0 f1 g0 g1
          generalize wr.drewN nq = w3 at HB3 ⊢
          go_wp2_with fail
          refine ⟨⟨x + 1, by omega, by go_num, Lib.hid (fun j hj => ?_), HB3⟩, by simp [intOf]; omega⟩
          by_cases e : j = x
          · rw [e, HX1.out, HX2.out, HQ.out]
          · exact HK.out j (by omega)
        | false =>
          rw [hq] at he
          have hrf : r = false := by
            rw [Bool.eq_false_iff]
            intro z
            have := HR.out.1 z
            have h3 := HX1.out
            rw [this, HX2.out] at h3
            injection h3 with h3
            rw [← h3] at hq
            unfold sameI at hq
            simp at hq
          subst hrf
          clear hq
          go_wp2_with fail
          go_quiet (fail)
          have hbq := pw_below_drewN (Below.refl wr.heap.size wr) nq
          have HB3 := Lib.hid (HB.out.trans (hbq.mono HB.out.size))
          clear hbq f0 f1 g0 g1
          generalize wr.drewN nq = w3 at HB3 ⊢
          go_wp2
          go_ret
          exact ⟨rfl, HB3.out⟩
      · obtain rfl : x = n1 := by omega
        have hrt : r = true := HR.out.2 (by
          apply List.ext_getElem?
          intro j
          by_cases hj : j < x
          · exact HK.out j hj
          · have a := H1.out.1
            have b := H2.out.1
            rw [List.getElem?_eq_none (by omega), List.getElem?_eq_none (by omega)])
        subst hrt
        go_wp2
        go_ret
        exact ⟨rfl, HB.out⟩
  · have hrf : r = false := by
      rw [Bool.eq_false_iff]
      intro z
      have := HR.out.1 z
      have a := H1.out.1
      have b := H2.out.1
      rw [this] at a
      omega
    subst hrf
    have hlI : ¬ (n1 : Int) = (n2 : Int) := by omega
    go_enter Tryd.func114, Tryd.ntmps114
    go_wp2
    go_ret
    exact ⟨rfl, Below.refl _ _⟩
end Go.Proofs.YtjpfalanoifpbaaDoor.X
end

section
set_option linter.unusedVariables false
set_option linter.unusedSimpArgs false
namespace Go.Proofs.YtjpfalanoifpbaaDoor.X
open Go.RowKit Go.Proofs.YtjpfalanoifpbaaDoorW.PrintWords Go.Proofs.YtjpfalanoifpbaaDoorW.PrintLast Go.Proofs.YtjpfalanoifpbaaDoorW.PrintMore Go.Proofs.YtjpfalanoifpbaaDoor.T
def cm (a b : Nat) : Int := if a < b then -1 else if b < a then 1 else 0
set_option maxHeartbeats 1000000 in
set_option maxRecDepth 100000 in
theorem isNaN_calls (a : Nat) (w : World) : Calls Tryd.prog 141 #[.int .i64 (a : Nat)] w fun e w' => e = .returned (.bool false) ∧ w' = w := by
  go_enter Tryd.func141, Tryd.ntmps141
  go_wp2
  go_ret
  exact ⟨by simp, rfl⟩
set_option maxHeartbeats 2000000 in
set_option maxRecDepth 100000 in
theorem compareN_calls (a b : Nat) (w : World) : Calls Tryd.prog 132 #[.int .i64 (a : Nat), .int .i64 (b : Nat)] w fun e w' => e = .returned (.int .i64 (cm a b)) ∧ w' = w := by
  obtain ⟨X, hX⟩ : ∃ X, cm a b = X := ⟨_, rfl⟩
  rw [hX]
  unfold cm at hX
  go_enter Tryd.func132, Tryd.ntmps132
  go_wp2_with fail
  refine (isNaN_calls a w).mono ?_
  rintro e w1 ⟨rfl, rfl⟩
  go_wp2_with fail
  refine (isNaN_calls b w1).mono ?_
  rintro e w2 ⟨rfl, rfl⟩
  by_cases h1 : a < b
  · have hI : (a : Int) < (b : Int) := by omega
    go_wp2
    go_ret
    exact ⟨by rw [← hX, if_pos h1]; rfl, rfl⟩
  · have hI : ¬ (a : Int) < (b : Int) := by omega
    by_cases h2 : b < a
    · have hI2 : (b : Int) < (a : Int) := by omega
      go_wp2
      go_ret
      exact ⟨by rw [← hX, if_neg h1, if_pos h2]; rfl, rfl⟩
    · have hI2 : ¬ (b : Int) < (a : Int) := by omega
      go_wp2
      go_ret
      exact ⟨by rw [← hX, if_neg h1, if_neg h2]; rfl, rfl⟩
set_option maxHeartbeats 2000000 in
set_option maxRecDepth 100000 in
theorem or2_calls (a b X : Int) (hX : (if a = 0 then b else a) = X) (G : Nat) (w : World) (h0 : w.cell? ⟨G, 0, none⟩ = some (.int .i64 a)) (h1 : w.cell? ⟨G, 1, none⟩ = some (.int .i64 b)) : Calls Tryd.prog 131 #[.slice (some ⟨G, 0, none⟩) 2 2] w fun e w' => e = .returned (.int .i64 X) ∧ w' = w := by
  have H0 := Lib.hid h0
  have H1 := Lib.hid h1
  clear h0 h1
  go_enter Tryd.func131, Tryd.ntmps131
  go_wp2_with fail
  go_loopw [8] (fun i wr => ∃ k : Nat, k ≤ 2 ∧ i = .int .i64 k ∧ (0 < k → a = 0) ∧ (1 < k → b = 0) ∧ wr = w) (fun i _ => 2 - (intOf i).toNat)
  case atStart => exact ⟨0, by omega, rfl, by omega, by omega, rfl⟩
  case round =>
    obtain ⟨k, hk, rfl, hz, hz2, rfl⟩ := hrel
    have hk3 : k = 0 ∨ k = 1 ∨ k = 2 := by omega
    rcases hk3 with rfl | rfl | rfl
    · have c0 := H0.out
      by_cases ha : a = 0
      · subst ha
        go_wp2_with fail
        refine ⟨⟨1, by omega, by go_num, by simp, by omega, by first | rfl | trivial⟩, by simp [intOf]⟩
      · have hab : (a == 0) = false := by simp [ha]
        rw [if_neg ha] at hX
        subst hX
        go_wp2
        go_ret
        exact ⟨rfl, rfl⟩
    · have c0 := H1.out
      have ha := hz (by omega)
      subst ha
      by_cases hb : b = 0
      · subst hb
        go_wp2_with fail
        refine ⟨⟨2, by omega, by go_num, by simp, by simp, by first | rfl | trivial⟩, by simp [intOf]⟩
      · have hbb : (b == 0) = false := by simp [hb]
        have hX2 : b = X := by simpa using hX
        go_wp2
        go_ret
        exact ⟨by rw [← hX2]; rfl, rfl⟩
    · have ha := hz (by omega)
      have hb := hz2 (by omega)
      subst ha hb
      rw [if_pos rfl] at hX
      subst hX
      go_wp2
      go_ret
      exact ⟨rfl, rfl⟩
def cmpI (x y : It) : Int := if cm x.1 y.1 = 0 then cm x.2 y.2 else cm x.1 y.1
set_option maxHeartbeats 4000000 in
set_option maxRecDepth 100000 in
theorem cmpI_grown (x y : It) (w : World) : Calls Tryd.prog 130 #[.agg #[.int .i64 (x.1 : Nat), .int .i64 (x.2 : Nat)], .agg #[.int .i64 (y.1 : Nat), .int .i64 (y.2 : Nat)]] w fun e w' => e = .returned (.int .i64 (cmpI x y)) ∧ ∃ q os', w' = Go.Sort.grow (w.drewN q) os' := by
  obtain ⟨a, b⟩ := x
  obtain ⟨c, d⟩ := y
  simp only
  obtain ⟨X, hX⟩ : ∃ X, cmpI (a, b) (c, d) = X := ⟨_, rfl⟩
  rw [hX]
  have HX : Hid ((if cm a c = 0 then cm b d else cm a c) = X) := Lib.hid hX
  clear hX
  go_enter Tryd.func130, Tryd.ntmps130
  go_wp2_with fail
  have h0 : ((w.alloc (.cells #[.int .i64 (a : Nat), .int .i64 (b : Nat)] 122)).alloc (.cells #[.int .i64 (c : Nat), .int .i64 (d : Nat)] 122)).cell? ⟨w.heap.size, 0, none⟩ = some (.int .i64 (a : Nat)) := by simp
  have h1 : ((w.alloc (.cells #[.int .i64 (a : Nat), .int .i64 (b : Nat)] 122)).alloc (.cells #[.int .i64 (c : Nat), .int .i64 (d : Nat)] 122)).cell? ⟨w.heap.size, 1, none⟩ = some (.int .i64 (b : Nat)) := by simp
  have h2 : ((w.alloc (.cells #[.int .i64 (a : Nat), .int .i64 (b : Nat)] 122)).alloc (.cells #[.int .i64 (c : Nat), .int .i64 (d : Nat)] 122)).cell? ⟨w.heap.size + 1, 0, none⟩ = some (.int .i64 (c : Nat)) := by simp
  have h3 : ((w.alloc (.cells #[.int .i64 (a : Nat), .int .i64 (b : Nat)] 122)).alloc (.cells #[.int .i64 (c : Nat), .int .i64 (d : Nat)] 122)).cell? ⟨w.heap.size + 1, 1, none⟩ = some (.int .i64 (d : Nat)) := by simp
  obtain ⟨w1, hw1⟩ : ∃ w1, w1 = (w.alloc (.cells #[.int .i64 (a : Nat), .int .i64 (b : Nat)] 122)).alloc (.cells #[.int .i64 (c : Nat), .int .i64 (d : Nat)] 122) := ⟨_, rfl⟩
  rw [← hw1] at h0 h1 h2 h3 ⊢
  have HW := Lib.hid hw1
  clear hw1
  refine start_ (n := 13) (S := fun w' => w'.cell? ⟨w.heap.size, 0, none⟩ = some (.int .i64 (a : Nat)) ∧ w'.cell? ⟨w.heap.size, 1, none⟩ = some (.int .i64 (b : Nat)) ∧ w'.cell? ⟨w.heap.size + 1, 0, none⟩ = some (.int .i64 (c : Nat)) ∧ w'.cell? ⟨w.heap.size + 1, 1, none⟩ = some (.int .i64 (d : Nat))) (ds := [10,11]) #[false, false, false, false, false, false, false, false, false, false, false, false, false] (by kernel_rfl) rfl rfl ⟨by simpa using h0, by simpa using h1, by simpa using h2, by simpa using h3⟩ (fun hHeld => ?_)
  refine pure_ (i := 0) (N := (some 5)) (v := ?_) (a' := ?_) #[true, false, false, false, false, false, false, false, false, false, false, false, false] rfl rfl (by kernel_rfl) (fun _ _ _ h => h) (Or.inl ⟨by rfl, ?_⟩) ?_ ?_
  rotate_left
  · intro w'; go_simp; first | done | with_reducible rfl
  rotate_left
  · simp only [Act.put, List.setIfInBounds_toArray, List.set_cons_zero, List.set_cons_succ, i64_w, i32_w]; rfl
  refine take_ (i := 1) (N := (some 6)) (v := ?_) (a' := ?_) #[true, true, false, false, false, false, false, false, false, false, false, false, false] rfl rfl (by kernel_rfl) (fun _ _ _ h => h) (Or.inl ⟨by rfl, ?_⟩) hHeld ?_ ?_
  rotate_left
  · rintro w' ⟨s0, s1, s2, s3⟩; go_simp; first | done | with_reducible rfl
  rotate_left
  · simp only [Act.put, List.setIfInBounds_toArray, List.set_cons_zero, List.set_cons_succ, i64_w, i32_w]; rfl
  refine pure_ (i := 2) (N := (some 7)) (v := ?_) (a' := ?_) #[true, true, true, false, false, false, false, false, false, false, false, false, false] rfl rfl (by kernel_rfl) (fun _ _ _ h => h) (Or.inl ⟨by rfl, ?_⟩) ?_ ?_
  rotate_left
  · intro w'; go_simp; first | done | with_reducible rfl
  rotate_left
  · simp only [Act.put, List.setIfInBounds_toArray, List.set_cons_zero, List.set_cons_succ, i64_w, i32_w]; rfl
  refine take_ (i := 3) (N := (some 8)) (v := ?_) (a' := ?_) #[true, true, true, true, false, false, false, false, false, false, false, false, false] rfl rfl (by kernel_rfl) (fun _ _ _ h => h) (Or.inl ⟨by rfl, ?_⟩) hHeld ?_ ?_
  rotate_left
  · rintro w' ⟨s0, s1, s2, s3⟩; go_simp; first | done | with_reducible rfl
  rotate_left
  · simp only [Act.put, List.setIfInBounds_toArray, List.set_cons_zero, List.set_cons_succ, i64_w, i32_w]; rfl
  refine pure_ (i := 5) (N := (some 10)) (v := ?_) (a' := ?_) #[true, true, true, true, false, true, false, false, false, false, false, false, false] rfl rfl (by kernel_rfl) (fun _ _ _ h => h) (Or.inl ⟨by rfl, ?_⟩) ?_ ?_
  rotate_left
  · intro w'; go_simp; first | done | with_reducible rfl
  rotate_left
  · simp only [Act.put, List.setIfInBounds_toArray, List.set_cons_zero, List.set_cons_succ, i64_w, i32_w]; rfl
  refine take_ (i := 6) (N := (some 11)) (v := ?_) (a' := ?_) #[true, true, true, true, false, true, true, false, false, false, false, false, false] rfl rfl (by kernel_rfl) (fun _ _ _ h => h) (Or.inl ⟨by rfl, ?_⟩) hHeld ?_ ?_
  rotate_left
  · rintro w' ⟨s0, s1, s2, s3⟩; go_simp; first | done | with_reducible rfl
  rotate_left
  · simp only [Act.put, List.setIfInBounds_toArray, List.set_cons_zero, List.set_cons_succ, i64_w, i32_w]; rfl
  refine pure_ (i := 7) (N := (some 12)) (v := ?_) (a' := ?_) #[true, true, true, true, false, true, true, true, false, false, false, false, false] rfl rfl (by kernel_rfl) (fun _ _ _ h => h) (Or.inl ⟨by rfl, ?_⟩) ?_ ?_
  rotate_left
  · intro w'; go_simp; first | done | with_reducible rfl
  rotate_left
  · simp only [Act.put, List.setIfInBounds_toArray, List.set_cons_zero, List.set_cons_succ, i64_w, i32_w]; rfl
  refine take_ (i := 8) (N := (some 13)) (v := ?_) (a' := ?_) #[true, true, true, true, false, true, true, true, true, false, false, false, false] rfl rfl (by kernel_rfl) (fun _ _ _ h => h) (Or.inl ⟨by rfl, ?_⟩) hHeld ?_ ?_
  rotate_left
  · rintro w' ⟨s0, s1, s2, s3⟩; go_simp; first | done | with_reducible rfl
  rotate_left
  · simp only [Act.put, List.setIfInBounds_toArray, List.set_cons_zero, List.set_cons_succ, i64_w, i32_w]; rfl
  refine one_ (i := 4) (N := (some 9)) #[true, true, true, true, true, true, true, true, true, false, false, false, false] rfl rfl (by kernel_rfl) (by decide) (fun K hK => ?_)
  refine goes_ Tryd.func132 (by kernel_rfl) rfl #[.int .i64 (a : Nat), .int .i64 (c : Nat)] (by rfl) rfl rfl (by (try simp only [List.map_toArray, List.map_cons, List.map_nil]); first | done | rfl) ?_
  refine (compareN_calls a c _).mono ?_
  rintro e w2 ⟨rfl, rfl⟩
  refine ⟨_, rfl, ?_⟩
  refine hK.out _ _ hHeld (fun hHeld => ?_)
  clear hK K
  refine norm_ (a' := ?_) ?_ ?_
  rotate_left
  · show Act.put _ (some 9) _ = _; simp only [Act.put, List.setIfInBounds_toArray, List.set_cons_zero, List.set_cons_succ, i64_w, i32_w]; rfl
  refine one_ (i := 9) (N := (some 14)) #[true, true, true, true, true, true, true, true, true, true, false, false, false] rfl rfl (by kernel_rfl) (by decide) (fun K hK => ?_)
  refine goes_ Tryd.func132 (by kernel_rfl) rfl #[.int .i64 (b : Nat), .int .i64 (d : Nat)] (by rfl) rfl rfl (by (try simp only [List.map_toArray, List.map_cons, List.map_nil]); first | done | rfl) ?_
  refine (compareN_calls b d _).mono ?_
  rintro e w3 ⟨rfl, rfl⟩
  refine ⟨_, rfl, ?_⟩
  refine hK.out _ _ hHeld (fun hHeld => ?_)
  clear hK K
  refine norm_ (a' := ?_) ?_ ?_
  rotate_left
  · show Act.put _ (some 14) _ = _; simp only [Act.put, List.setIfInBounds_toArray, List.set_cons_zero, List.set_cons_succ, i64_w, i32_w]; rfl
  refine last_ (i := 10) (N := (some 15)) #[true, true, true, true, true, true, true, true, true, true, true, false, false] rfl rfl (by kernel_rfl) (by decide) (fun K hK => ?_)
  refine value_step (v := .slice (some ⟨w1.heap.size, 0, none⟩) 2 2) (w1 := w1.drew.alloc (.cells #[.int .i64 (cm a c), .int .i64 (cm b d)] 3)) (by rfl) rfl (by go_simp) ?_
  refine hK.out _ _ ?_
  clear hK K
  refine norm_ (a' := ?_) ?_ ?_
  rotate_left
  · show Act.put _ (some 15) _ = _; simp only [Act.put, List.setIfInBounds_toArray, List.set_cons_zero, List.set_cons_succ, i64_w, i32_w]; rfl
  refine last_ (i := 11) (N := (some 16)) #[true, true, true, true, true, true, true, true, true, true, true, true, false] rfl rfl (by kernel_rfl) (by decide) (fun K hK => ?_)
  refine goes_ Tryd.func131 (by kernel_rfl) rfl #[.slice (some ⟨w1.heap.size, 0, none⟩) 2 2] (by rfl) rfl rfl (by (try simp only [List.map_toArray, List.map_cons, List.map_nil]); first | done | rfl) ?_
  refine (or2_calls (cm a c) (cm b d) X HX.out w1.heap.size _ (by have := (it_new w1.drew 3 (cm a c) (cm b d)).1; simpa using this) (by have := (it_new w1.drew 3 (cm a c) (cm b d)).2; simpa using this)).mono ?_
  rintro e w4 ⟨rfl, rfl⟩
  refine ⟨_, rfl, ?_⟩
  refine hK.out _ _ ?_
  clear hK K
  refine norm_ (a' := ?_) ?_ ?_
  rotate_left
  · show Act.put _ (some 16) _ = _; simp only [Act.put, List.setIfInBounds_toArray, List.set_cons_zero, List.set_cons_succ, i64_w, i32_w]; rfl
  refine pure_ (i := 12) (N := (some 4)) (v := ?_) (a' := ?_) #[true, true, true, true, true, true, true, true, true, true, true, true, true] rfl rfl (by kernel_rfl) (fun _ _ _ h => h) (Or.inl ⟨by rfl, ?_⟩) ?_ ?_
  rotate_left
  · intro w'; go_simp; first | done | with_reducible rfl
  rotate_left
  · simp only [Act.put, List.setIfInBounds_toArray, List.set_cons_zero, List.set_cons_succ, i64_w, i32_w]; rfl
  refine done_ (by kernel_rfl) ?_
  go_wp2
  go_ret
  refine ⟨rfl, 1, #[.cells #[.int .i64 (a : Nat), .int .i64 (b : Nat)] 122, .cells #[.int .i64 (c : Nat), .int .i64 (d : Nat)] 122, .cells #[.int .i64 (cm a c), .int .i64 (cm b d)] 3], ?_⟩
  rw [HW.out]
  unfold Go.Sort.grow World.drewN World.drew World.alloc
  simp only [World.mk.injEq, Nat.add_assoc, and_true, true_and]
  apply Array.ext'
  simp
theorem cmpI_lays (blk off size : Nat) (w : World) : CmpLays Tryd.prog 130 #[] itV 2 cmpI blk off size w :=
  fun _ _ _ _ x y => cmpI_grown x y _
theorem cm_lt {a b : Nat} : cm a b < 0 ↔ a < b := by
  unfold cm
  split
  · simp; assumption
  · split <;> simp <;> omega
theorem cm_zero {a b : Nat} : cm a b = 0 ↔ a = b := by
  unfold cm
  split
  · simp; omega
  · split <;> simp <;> omega
theorem cmpI_lt (x y : It) : cmpI x y < 0 ↔ (x.1 < y.1 ∨ (x.1 = y.1 ∧ x.2 < y.2)) := by
  unfold cmpI
  by_cases h : cm x.1 y.1 = 0
  · rw [if_pos h, cm_lt]
    rw [cm_zero] at h
    omega
  · rw [if_neg h, cm_lt]
    rw [cm_zero] at h
    omega
theorem lt_cmpI (p q : It) : ltOf cmpI p q = ltI p q := by
  unfold ltOf ltI
  have := cmpI_lt p q
  by_cases h : p.1 < q.1 ∨ (p.1 = q.1 ∧ p.2 < q.2)
  · rw [decide_eq_true h, decide_eq_true (this.2 h)]
  · rw [decide_eq_false h, decide_eq_false (fun c => h (this.1 c))]
theorem swoI : Go.Sort.SWO (ltOf cmpI) where
  irrefl x := by rw [lt_cmpI]; unfold ltI; simp
  trans x y z h1 h2 := by rw [lt_cmpI] at *; unfold ltI at *; simp only [decide_eq_true_eq] at *; omega
  ntrans x y z h1 h2 := by rw [lt_cmpI] at *; unfold ltI at *; simp only [decide_eq_false_iff_not] at *; omega
def sortI_ren : Go.Shelf.Ren := ⟨fun | 6 => 129 | 15 => 140 | 14 => 139 | 28 => 154 | 29 => 155 | 20 => 146 | 21 => 147 | 22 => 148 | 23 => 149 | 24 => 150 | 25 => 151 | 26 => 152 | 27 => 153 | 46 => 160 | 47 => 161 | 48 => 162 | 49 => 163 | 50 => 164 | 57 => 166 | n => n, fun | 22 => 121 | 24 => 122 | 25 => 173 | 3 => 3 | 39 => 84 | 0 => 0 | 53 => 189 | 55 => 191 | 4 => 4 | 46 => 183 | 45 => 182 | 50 => 92 | 5 => 5 | 9 => 9 | 66 => 199 | 70 => 203 | 76 => 205 | 77 => 206 | n => n, fun | n => n⟩
theorem sortI : Go.Proofs.SlLaysF0.n6 Tryd.prog sortI_ren := {
  mixed := by kernel_rfl
  f6 := ⟨Tryd.f129.name, by decide, Tryd.func129.trans (congrArg some (by kernel_rfl))⟩
  f14 := ⟨Tryd.f139.name, by decide, Tryd.func139.trans (congrArg some (by kernel_rfl))⟩
  f15 := Tryd.func140.trans (congrArg some (by kernel_rfl))
  f20 := ⟨Tryd.f146.name, by decide, Tryd.func146.trans (congrArg some (by kernel_rfl))⟩
  f21 := ⟨Tryd.f147.name, by decide, Tryd.func147.trans (congrArg some (by kernel_rfl))⟩
  f22 := ⟨Tryd.f148.name, by decide, Tryd.func148.trans (congrArg some (by kernel_rfl))⟩
  f23 := ⟨Tryd.f149.name, by decide, Tryd.func149.trans (congrArg some (by kernel_rfl))⟩
  f24 := ⟨Tryd.f150.name, by decide, Tryd.func150.trans (congrArg some (by kernel_rfl))⟩
  f25 := ⟨Tryd.f151.name, by decide, Tryd.func151.trans (congrArg some (by kernel_rfl))⟩
  f26 := ⟨Tryd.f152.name, by decide, Tryd.func152.trans (congrArg some (by kernel_rfl))⟩
  f27 := ⟨Tryd.f153.name, by decide, Tryd.func153.trans (congrArg some (by kernel_rfl))⟩
  f28 := Tryd.func154.trans (congrArg some (by kernel_rfl))
  f29 := Tryd.func155.trans (congrArg some (by kernel_rfl))
  f46 := ⟨Tryd.f160.name, by decide, Tryd.func160.trans (congrArg some (by kernel_rfl))⟩
  f47 := Tryd.func161.trans (congrArg some (by kernel_rfl))
  f48 := Tryd.func162.trans (congrArg some (by kernel_rfl))
  f49 := ⟨Tryd.f163.name, by decide, Tryd.func163.trans (congrArg some (by kernel_rfl))⟩
  f50 := ⟨Tryd.f164.name, by decide, Tryd.func164.trans (congrArg some (by kernel_rfl))⟩
  f57 := ⟨Tryd.f166.name, by decide, Tryd.func166.trans (congrArg some (by kernel_rfl))⟩
  t0 := Tryd.underlying0
  a0 := Tryd.isAgg0
  z0 := Tryd.sizeOf0
  v0 := Tryd.zeroValue0
  t3 := Tryd.underlying3
  a3 := Tryd.isAgg3
  z3 := Tryd.sizeOf3
  v3 := Tryd.zeroValue3
  t4 := Tryd.underlying4
  a4 := Tryd.isAgg4
  z4 := Tryd.sizeOf4
  v4 := Tryd.zeroValue4
  t5 := Tryd.underlying5
  a5 := Tryd.isAgg5
  z5 := Tryd.sizeOf5
  v5 := Tryd.zeroValue5
  t9 := Tryd.underlying9
  a9 := Tryd.isAgg9
  z9 := Tryd.sizeOf9
  v9 := Tryd.zeroValue9
  t22 := Tryd.underlying121
  a22 := Tryd.isAgg121
  z22 := Tryd.sizeOf121
  v22 := Tryd.zeroValue121
  t25 := Tryd.underlying173
  a25 := Tryd.isAgg173
  z25 := Tryd.sizeOf173
  v25 := Tryd.zeroValue173
  t39 := Tryd.underlying84
  a39 := Tryd.isAgg84
  z39 := Tryd.sizeOf84
  v39 := Tryd.zeroValue84
  t45 := Tryd.underlying182
  a45 := Tryd.isAgg182
  z45 := Tryd.sizeOf182
  v45 := Tryd.zeroValue182
  t46 := Tryd.underlying183
  a46 := Tryd.isAgg183
  z46 := Tryd.sizeOf183
  v46 := Tryd.zeroValue183
  t50 := Tryd.underlying92
  a50 := Tryd.isAgg92
  z50 := Tryd.sizeOf92
  v50 := Tryd.zeroValue92
  t53 := Tryd.underlying189
  a53 := Tryd.isAgg189
  z53 := Tryd.sizeOf189
  v53 := Tryd.zeroValue189
  t55 := Tryd.underlying191
  a55 := Tryd.isAgg191
  z55 := Tryd.sizeOf191
  v55 := Tryd.zeroValue191
  t66 := Tryd.underlying199
  a66 := Tryd.isAgg199
  z66 := Tryd.sizeOf199
  v66 := Tryd.zeroValue199
  t70 := Tryd.underlying203
  a70 := Tryd.isAgg203
  z70 := Tryd.sizeOf203
  v70 := Tryd.zeroValue203
  t76 := Tryd.underlying205
  a76 := Tryd.isAgg205
  z76 := Tryd.sizeOf205
  v76 := Tryd.zeroValue205
  t77 := Tryd.underlying206
  a77 := Tryd.isAgg206
  z77 := Tryd.sizeOf206
  v77 := Tryd.zeroValue206 }
def flatI : List It → List Value
  | [] => []
  | p :: l => itV p ++ flatI l
theorem flatI_len : ∀ l : List It, (flatI l).length = l.length * 2
  | [] => rfl
  | p :: l => by
    rw [flatI, List.length_append, flatI_len l]
    simp [itV]
    omega
theorem flatI_get : ∀ (l : List It) (t : Nat), t < l.length * 2 → (flatI l)[t]? = some (itV (l.getD (t / 2) (0, 0)))[t % 2]!
  | [], t, h => by simp at h
  | p :: l, 0, h => rfl
  | p :: l, 1, h => rfl
  | p :: l, t + 2, h => by
    have ih := flatI_get l t (by simp at h; omega)
    show (itV p ++ flatI l)[t + 2]? = _
    rw [List.getElem?_append_right (by simp [itV])]
    show (flatI l)[t + 2 - 2]? = _
    rw [Nat.add_sub_cancel, ih, show (t + 2) / 2 = t / 2 + 1 by omega, show (t + 2) % 2 = t % 2 by omega]
    rfl
theorem flatK_I (d : Array It) : (Go.Sort.flatK itV 2 d).toList = flatI d.toList := by
  apply List.ext_getElem?
  intro t
  by_cases h : t < d.size * 2
  · have h1 : t < (Go.Sort.flatK itV 2 d).size := by rw [Go.Sort.size_flatK]; exact h
    rw [flatI_get d.toList t (by simpa using h)]
    have := Go.Sort.get_flatK itV 2 d t h
    rw [getElem!_pos _ t h1] at this
    rw [Array.getElem?_toList, Array.getElem?_eq_getElem h1, this]
    have h2 : t / 2 < d.size := by omega
    rw [getElem!_pos d (t / 2) h2]
    simp [h2]
  · rw [List.getElem?_eq_none (by simp; omega), List.getElem?_eq_none (by rw [flatI_len]; simp; omega)]
theorem own_blockI {C e sz n : Nat} {w : World} {v : Value} {xs : List Value} (h : w.ownsRow C e sz v n xs) (h0 : 0 < n) :
    ∃ g cap cur, v = .slice (some ⟨g, 0, none⟩) n cap ∧ C ≤ g ∧ w.heap[g]? = some (.cells cur e (0, 0)) ∧ n ≤ cap ∧ cap ≤ maxLen ∧ cur.size = cap * sz ∧ cur.toList.take (n * sz) = xs := by
  obtain ⟨_, ⟨_, q⟩ | h⟩ := h
  · omega
  · exact h
theorem flatI_of : ∀ {l : List It} {cs : List Value}, cs.length = l.length * 2 → (∀ j p, l[j]? = some p → (cs.drop (j * 2)).take 2 = itV p) → cs = flatI l
  | [], cs, h1, h2 => List.eq_nil_of_length_eq_zero (by simpa using h1)
  | x :: l, cs, h1, h2 => by
    have a := h2 0 x rfl
    rw [Nat.zero_mul, List.drop_zero] at a
    have b := flatI_of (l := l) (cs := cs.drop 2) (by rw [List.length_drop, h1]; simp; omega) (fun j p hj => by
      have := h2 (j + 1) p (by simpa using hj)
      rw [List.drop_drop, show 2 + j * 2 = (j + 1) * 2 by omega]
      exact this)
    rw [flatI, ← b, ← a]
    exact (List.take_append_drop 2 cs).symm
theorem flatI_at : ∀ {l : List It} {j : Nat} {p : It}, l[j]? = some p → ((flatI l).drop (j * 2)).take 2 = itV p
  | [], j, p, h => by simp at h
  | x :: l, 0, p, h => by
    have : x = p := by simpa using h
    subst this
    rfl
  | x :: l, j + 1, p, h => by
    have ih := flatI_at (l := l) (j := j) (p := p) (by simpa using h)
    rw [flatI, show (j + 1) * 2 = 2 + j * 2 by omega, ← List.drop_drop, show (itV x ++ flatI l).drop 2 = flatI l from rfl]
    exact ih
theorem ki_m {w : World} {B : Nat} {ok : Nat → Prop} {x : It} {c : List Value} : KI.M w B ok x c ↔ c = itV x := by
  constructor
  · rintro ⟨c0, c1, rfl, e0, e1⟩
    rw [show c0 = [.int .i64 (x.1 : Nat)] from e0, show c1 = [.int .i64 (x.2 : Nat)] from e1]
    rfl
  · rintro rfl
    exact ki_rep x
theorem ri_flat {ty B : Nat} {w : World} {ok : Nat → Prop} {v : Value} {l : List It} (h : Kd.R KI ty w B ok v l) : w.ownsRow B ty 2 v l.length (flatI l) := by
  obtain ⟨h0, inner, ho, hr⟩ := h
  have e : inner = flatI l := flatI_of hr.1 fun j p hj => ki_m.1 (hr.2 j p hj)
  rw [← e]
  exact ho
theorem ri_of_flat {ty B : Nat} {w : World} {v : Value} {l : List It} (h : w.ownsRow B ty 2 v l.length (flatI l)) : Kd.R KI ty w B (fun _ => True) v l :=
  ⟨fun _ _ => trivial, flatI l, h, ⟨flatI_len l, fun j p hj => ki_m.2 (flatI_at hj)⟩⟩
abbrev RI (B : Nat) (w : World) (v : Value) (l : List It) : Prop := Kd.R KI 122 w B (fun _ => True) v l
theorem sort_its {B : Nat} {w : World} {v : Value} {l : List It} (h : RI B w v l) (h0 : 0 < l.length) (hl : l.length < 4611686018427387904) :
    Calls Tryd.prog 129 #[v, .func (.func 130) #[] #[]] w fun e w' => e = .returned (.tuple #[]) ∧ ∃ l', l'.Perm l ∧ l'.Pairwise (fun p q => ltI q p = false) ∧ RI B w' v l' ∧ w.grownBy w' v.ownBlock := by
  obtain ⟨g, cap, cur, rfl, hC, hb, hn, hm, hs, ht⟩ := own_blockI (ri_flat h) h0
  have hflat : (Go.Sort.flatK itV 2 l.toArray).toList = flatI l := flatK_I _
  have hH : Go.Sort.HoldsK itV 2 w g 0 l.toArray := fun j hj => by
    have hj2 : j < l.length * 2 := by simpa using hj
    rw [Nat.zero_add]
    refine ⟨?_, blk_frozen hb j⟩
    have e : (cur.toList.take (l.length * 2))[j]? = (Go.Sort.flatK itV 2 l.toArray).toList[j]? := by rw [ht, hflat]
    rw [List.getElem?_take, if_pos hj2, Array.getElem?_toList, Array.getElem?_toList, Array.getElem?_eq_getElem hj] at e
    rw [getElem!_pos _ j hj]
    unfold World.cell?
    simp only [hb]
    simpa using e
  have eg : ∀ args w, (callFunc 130 args).run Tryd.prog w = .ok (.enter 130 args) w := enters_of Tryd.func130 (by kernel_rfl) rfl
  have hcon := AnyQ.slices_SortFunc sortI 2 Tryd.isAgg122 Tryd.sizeOf122 itV (fun _ => rfl) (fun x v hv => by simp [itV] at hv; rcases hv with rfl | rfl <;> rfl) cmpI swoI 130 #[] g 0 cap l.toArray w eg (cmpI_lays g 0 _ w) hH (Array.getElem?_eq_some_iff.1 hb).1 (by simpa using hl)
  change Calls Tryd.prog 129 _ _ _ at hcon
  have hz : l.toArray.size = l.length := by simp
  rw [hz] at hcon
  refine hcon.mono ?_
  rintro e w' ⟨rfl, d', m, os, hp, hsrt, rfl⟩
  obtain ⟨p1, -, p3⟩ := hp
  rw [hz] at p1
  have hp3 : d'.toList.Perm l := by
    rw [← p1] at p3
    rw [Array.extract_size] at p3
    rw [p1, ← hz, Array.extract_size] at p3
    exact p3
  have hk : (Go.Sort.flatK itV 2 d').size = l.length * 2 := by rw [Go.Sort.size_flatK, p1]
  obtain ⟨⟨cur', c1, c2, c3⟩, hg⟩ := row_put id w m g (Go.Sort.flatK itV 2 d') os hb (by rw [hk, hs]; exact Nat.mul_le_mul_right 2 hn)
  have hlen : d'.toList.length = l.length := by simpa using p1
  refine ⟨rfl, d'.toList, hp3, ?_, ?_, hg⟩
  · rw [List.pairwise_iff_getElem]
    intro i j hi hj hij
    have := hsrt i j (Nat.zero_le _) hij (by simpa [p1] using hj)
    rw [lt_cmpI] at this
    rw [getElem!_pos d' j (by simpa using hj), getElem!_pos d' i (by simpa using hi)] at this
    simpa using this
  · have hfin : (Go.Sort.grow (Go.Sort.putRow id (Go.Sort.ahead w m) g 0 (Go.Sort.flatK itV 2 d')) os).ownsRow B 122 2 (.slice (some ⟨g, 0, none⟩) l.length cap) d'.toList.length (flatI d'.toList) := by
      refine ⟨by rw [flatI_len], .inr ⟨g, cap, cur', by rw [hlen], hC, c1, by omega, hm, by rw [c2, hs], ?_⟩⟩
      rw [hk] at c3
      rw [hlen, c3, List.map_id, flatK_I]
    exact ri_of_flat hfin
end Go.Proofs.YtjpfalanoifpbaaDoor.X
end

section
set_option linter.unusedVariables false
set_option linter.unusedSimpArgs false
namespace Go.Proofs.YtjpfalanoifpbaaDoor.X
open Go.RowKit Go.Proofs.YtjpfalanoifpbaaDoorW.PrintWords Go.Proofs.YtjpfalanoifpbaaDoorW.PrintLast Go.Proofs.YtjpfalanoifpbaaDoorW.PrintMore Go.Proofs.YtjpfalanoifpbaaDoor.T
theorem info122 : (Tryd.prog.info? 122).map (fun i => (i.zero, i.size, i.bytes)) = some (some (.agg #[.int .i64 0, .int .i64 0]), 2, 16) := by kernel_rfl
structure CloW (w0 w : World) (v0 : Value) (wr : World) (v : Value) (l : List It) : Prop where
  row : RI w0.heap.size wr v l
  bl : Below w0.heap.size w0 wr
  gr : w.grownBy wr v0.ownBlock
  ob : v.ownBlock = v0.ownBlock ∨ ∃ b, v.ownBlock = some b ∧ w.heap.size ≤ b
theorem CloW.start {w0 w : World} {v : Value} {l : List It} (hr : RI w0.heap.size w v l) (hb : Below w0.heap.size w0 w) : CloW w0 w v w v l :=
  ⟨hr, hb, ⟨rfl, rfl, rfl, Nat.le_refl _, fun _ _ _ => rfl⟩, .inl rfl⟩
theorem CloW.later {w0 w wr w2 : World} {v0 v : Value} {l : List It} (h : CloW w0 w v0 wr v l) (hb : Below wr.heap.size wr w2) : CloW w0 w v0 w2 v l :=
  ⟨Kd.R_below h.row hb, h.bl.trans (hb.mono h.bl.size), ⟨hb.os.trans h.gr.os, hb.tape.trans h.gr.tape, hb.output.trans h.gr.output, Nat.le_trans h.gr.size hb.size, fun k hk hne => (hb.block k (Nat.lt_of_lt_of_le hk h.gr.size)).trans (h.gr.block k hk hne)⟩, h.ob⟩
theorem CloW.push {w0 w wr w3 : World} {v0 v v1 : Value} {l l1 : List It} (h : CloW w0 w v0 wr v l) (hv : RI w0.heap.size w3 v1 l1) (hb : Below w0.heap.size w0 w3) (hg : wr.grownBy w3 v.ownBlock) (hat : v1.ownBlock = v.ownBlock ∨ ∃ b, v1.ownBlock = some b ∧ wr.heap.size ≤ b) : CloW w0 w v0 w3 v1 l1 := by
  refine ⟨hv, hb, ⟨hg.os.trans h.gr.os, hg.tape.trans h.gr.tape, hg.output.trans h.gr.output, Nat.le_trans h.gr.size hg.size, fun k hk hne => ?_⟩, ?_⟩
  · refine (hg.block k (Nat.lt_of_lt_of_le hk h.gr.size) (fun e => ?_)).trans (h.gr.block k hk hne)
    rcases h.ob with q | ⟨b, q, hle⟩
    · exact hne (e.trans q)
    · rw [q] at e
      injection e with e
      omega
  · rcases hat with q | ⟨b, q, hle⟩
    · rcases h.ob with z | ⟨b, z, hle⟩
      · exact .inl (q.trans z)
      · exact .inr ⟨b, q.trans z, hle⟩
    · exact .inr ⟨b, q, Nat.le_trans h.gr.size hle⟩
theorem CloW.sorted {w0 w wr w3 : World} {v0 v : Value} {l l1 : List It} (h : CloW w0 w v0 wr v l) (hv : RI w0.heap.size w3 v l1) (hg : wr.grownBy w3 v.ownBlock) : CloW w0 w v0 w3 v l1 := by
  obtain ⟨inner, ho⟩ := Kd.R_own h.row
  exact h.push hv (own_growS h.bl ho hg) hg (.inl rfl)
set_option maxHeartbeats 16000000 in
set_option maxRecDepth 100000 in
theorem closure_calls (A : Option Addr) (n c : Nat) (L : Nat → Int) (R : Nat → ByteArray) (S : It → Prop) (w0 w : World) (v0 : Value) (l0 : List It) (hA : Sr w0 A n c L R) (hg : Gr L R n) (hB : Below w0.heap.size w0 w) (hv : RI w0.heap.size w v0 l0) (h0 : 0 < l0.length) (hnd : l0.Nodup) (hS : ∀ y, S y ↔ y ∈ l0) (hf : ∀ y, S y → Fits L R n y) :
    Calls Tryd.prog 110 #[.slice A n c, v0] w fun e w' => ∃ v, e = .returned v ∧ CloW w0 w v0 w' v (clo L R n S) := by
  have hn1 := hg.n1
  have hn8 := hg.n8
  have h4 : R4 R n := hg.sz
  obtain ⟨b, off, rfl, hnc, hP⟩ := hA.open hn1
  have HA := Lib.hid hA
  have HP := Lib.hid hP
  have H4 := Lib.hid h4
  have HF := Lib.hid hf
  have HL0 := Lib.hid ((hg.ok 0 hn1).1)
  have HC := Lib.hid (CloI.start (L := L) (R := R) (n := n) hnd hS)
  have HW := Lib.hid (CloW.start hv hB)
  have HLZ := Lib.hid h0
  clear hA hg hB hv hnd hS hf hP h4 h0
  obtain ⟨A0, c0, e0⟩ := Kd.R_slice HW.out.row
  rw [e0] at HW ⊢
  clear e0
  go_enter Tryd.func110, Tryd.ntmps110
  go_wp2_with fail
  go_loopw [5, 1] (fun i v wr => ∃ (x : Nat) (l : List It), x ≤ l.length ∧ i = .int .i64 x ∧ Hid (CloI L R n S l x) ∧ Hid (CloW w0 w (.slice A0 l0.length c0) wr v l) ∧ Hid (0 < l.length)) (fun i _ _ => 46 - (intOf i).toNat)
  case atStart => exact ⟨0, l0, by omega, rfl, HC, HW, HLZ⟩
  case round =>
    clear HC HW HLZ
    obtain ⟨x, l, hx, rfl, HC, HW, HLZ⟩ := hrel
    have hlen := HC.out.len H4.out HF.out
    have hlen2 : l.length ≤ 45 := by omega
    clear hlen
    obtain ⟨A1, c1, e1, hI⟩ := ki_read HW.out.row
    subst e1
    by_cases hxl : x < l.length
    · have hxI : (x : Int) < (l.length : Int) := by omega
      obtain ⟨y, hy⟩ : ∃ y, l[x]? = some y := ⟨_, List.getElem?_eq_getElem hxl⟩
      obtain ⟨b1, o1, e1, hm1, hP1⟩ := hI.open (by omega)
      subst e1
      have f0 := hP1.c0 x _ hy
      have f1 := hP1.c1 x _ hy
      have HK := Lib.hid (HC.out.row hy)
      have HFY := Lib.hid (inC_fits HF.out (HC.out.inc y (List.mem_of_getElem? hy)))
      have hxc : x < c1 := by omega
      clear hy hP1 hI
      go_wp2_with fail
      refine (behind_calls _ n c L R y wr (HA.out.later HW.out.bl) hn1 hn8 HFY.out H4.out HL0.out).mono ?_
      rintro e w1 ⟨rfl, hb1⟩
      have HW1 := Lib.hid (HW.out.later hb1)
      clear hb1 f0 f1 HW
      obtain ⟨z, hz⟩ : ∃ z, bh L R n y = z := ⟨_, rfl⟩
      rw [hz]
      have HZ := Lib.hid hz
      clear hz
      go_wp2_with fail
      go_loopw [24, 1] (fun i v wr => ∃ (k : Nat) (l : List It), k ≤ n ∧ i = .int .i64 k ∧ Hid (CloK L R n S l x k y) ∧ Hid (CloW w0 w (.slice A0 l0.length c0) wr v l) ∧ Hid (0 < l.length)) (fun i _ _ => n - (intOf i).toNat)
      case atStart => exact ⟨0, l, by omega, rfl, HK, HW1, HLZ⟩
      case round =>
        clear HK HW1 HLZ HC hlen2 hx hxl hxI hxc hm1
        obtain ⟨k, l, hk, rfl, HK, HW, HLZ⟩ := hrel
        have hlen := HK.out.ci.len H4.out HF.out
        have hlen2 : l.length ≤ 45 := by omega
        clear hlen
        obtain ⟨A2, c2, e2, hI⟩ := ki_read HW.out.row
        subst e2
        by_cases hkn : k < n
        · have hkI : (k : Int) < (n : Int) := by omega
          have g0 := (HP.out.later HW.out.bl).c0 k hkn
          have g1 := (HP.out.later HW.out.bl).c1 k hkn
          have hkc : k < c := by omega
          obtain ⟨lk, hlk⟩ : ∃ lk, L k = lk := ⟨_, rfl⟩
          obtain ⟨sk, hsk⟩ : ∃ sk, R k = sk := ⟨_, rfl⟩
          rw [hlk] at g0
          rw [hsk] at g1
          have HLK := Lib.hid hlk
          clear hlk hsk
          have HI := Lib.hid hI
          clear hI
          have hbA := below_one (w := wr) (.cells #[.int .u8 lk, .string sk] 60)
          have hbB := below_one (w := wr.alloc (.cells #[.int .u8 lk, .string sk] 60)) (.cells #[.int .i64 (k : Nat), .int .i64 ((0 : Nat) : Nat)] 122)
          obtain ⟨d0, d1⟩ := rule_new wr 60 lk sk
          obtain ⟨e0, e1⟩ := it_new (wr.alloc (.cells #[.int .u8 lk, .string sk] 60)) 122 (k : Nat) ((0 : Nat) : Nat)
          have d0' := (hbB.cell (p := ⟨wr.heap.size, 0, none⟩) (World.block_lt_of_cell? _ _ d0)).trans d0
          have hbAB := hbA.trans (hbB.mono hbA.size)
          have HW2 := Lib.hid (HW.out.later hbAB)
          have HI2 := Lib.hid (HI.out.later hbAB)
          clear d0 d1 hbA hbB hbAB
          by_cases hzk : lk = z
          · have HZK : Hid (bh L R n y = L k) := Lib.hid (by rw [HZ.out, HLK.out, hzk])
            subst hzk
            obtain ⟨r, hr⟩ : ∃ r : Bool, r = true ↔ (k, 0) ∈ l := ⟨decide ((k, 0) ∈ l), by simp⟩
            have HR := Lib.hid hr
            clear hr
            go_wp2_with fail
            refine (containsI_calls A2 l.length c2 l (k, 0) _ HI2.out (by omega) r HR.out).mono ?_
            rintro e w3 ⟨rfl, hb3⟩
            have HW3 := Lib.hid (HW2.out.later hb3)
            have hsz : (wr.alloc (.cells #[.int .u8 lk, .string sk] 60)).heap.size = wr.heap.size + 1 := by simp
            rw [hsz] at e0 e1
            have e0' := (hb3.cell (p := ⟨wr.heap.size + 1, 0, none⟩) (World.block_lt_of_cell? _ _ e0)).trans e0
            have e1' := (hb3.cell (p := ⟨wr.heap.size + 1, 1, none⟩) (World.block_lt_of_cell? _ _ e1)).trans e1
            clear hb3 HW2 HI2 HW HI e0 e1 d0' g0 g1 hsz
            cases r with
            | true =>
              have HIN := Lib.hid (HR.out.1 rfl)
              go_wp2_with fail
              refine ⟨⟨k + 1, l, by omega, by go_num, Lib.hid (HK.out.skip fun _ => HIN.out), HW3, HLZ⟩, by simp [intOf]; omega⟩
            | false =>
              have HIN : Hid ((k, 0) ∉ l) := Lib.hid (fun q => by have := HR.out.2 q; cases this)
              have HXS := Lib.hid (show (l.length + 1) * 16 ≤ 140737488355328 by omega)
              go_wp2_with (at_builtin; refine Kd.R_append KI (w0 := w0) w0.heap.size rfl (.tmp 41) (.tmp 43) 121 122 (.agg #[.int .i64 0, .int .i64 0]) 16 rfl Tryd.underlying121 info122 rfl (by decide) (by decide) (.slice A2 l.length c2) l (k, 0) [.int .i64 (k : Nat), .int .i64 ((0 : Nat) : Nat)] (fun _ => True) (fun _ => False) rfl rfl (ki_rep (k, 0)) (fun _ h => h.elim) (fun _ _ => trivial) HW3.out.row HW3.out.bl HW3.out.bl.size HXS.out ?_; intro v1 w4 hv hb hg hat; have HW4 := Lib.hid (HW3.out.push hv hb hg hat); clear hv hb hg hat)
              refine ⟨⟨k + 1, _, by omega, by go_num, Lib.hid (HK.out.push hkn HZK.out HIN.out), HW4, Lib.hid (by simp)⟩, by simp [intOf]; omega⟩
          · have HZK : Hid (¬ bh L R n y = L k) := Lib.hid (by rw [HZ.out, HLK.out]; exact fun e => hzk e.symm)
            go_wp2_with fail
            refine ⟨⟨k + 1, l, by omega, by go_num, Lib.hid (HK.out.skip fun e => absurd e HZK.out), HW2, HLZ⟩, by simp [intOf]; omega⟩
        · obtain rfl : k = n := by omega
          have HCN := Lib.hid HK.out.next
          have hxl := (List.getElem?_eq_some_iff.1 HK.out.at_).1
          clear hI
          go_wp2_with fail
          refine ⟨⟨x + 1, l, by omega, by go_num, HCN, HW, HLZ⟩, by simp [intOf]; omega⟩
    · obtain rfl : x = l.length := by omega
      clear hI
      go_wp2_with fail
      refine (sort_its HW.out.row HLZ.out (by omega)).mono ?_
      rintro e w2 ⟨rfl, l', hp, hs, hr, hg⟩
      have HCL : Hid (l' = clo L R n S) := Lib.hid (HC.out.done H4.out HF.out hp hs)
      have HW2 := Lib.hid (HW.out.sorted hr hg)
      rw [HCL.out] at HW2
      clear hp hs hr hg
      go_wp2
      go_ret
      exact ⟨_, rfl, HW2.out⟩
end Go.Proofs.YtjpfalanoifpbaaDoor.X
end

section
set_option linter.unusedVariables false
set_option linter.unusedSimpArgs false
namespace Go.Proofs.YtjpfalanoifpbaaDoor.X
open Go.RowKit Go.Proofs.YtjpfalanoifpbaaDoorW.PrintWords Go.Proofs.YtjpfalanoifpbaaDoorW.PrintLast Go.Proofs.YtjpfalanoifpbaaDoorW.PrintMore Go.Proofs.YtjpfalanoifpbaaDoor.T
def StR (w : World) (A : Option Addr) (n c : Nat) (out : List (List It)) : Prop :=
  n = out.length ∧ (n = 0 ∨ ∃ b off, A = some ⟨b, off, none⟩ ∧ n ≤ c ∧ ∀ (i : Nat) s, out[i]? = some s → ∃ A' c', w.cell? ⟨b, off + i, none⟩ = some (.slice A' s.length c') ∧ Ir w A' s.length c' s)
theorem StR.later {w w' : World} {A : Option Addr} {n c : Nat} {out : List (List It)} (h : StR w A n c out) (hb : Below w.heap.size w w') : StR w' A n c out := by
  obtain ⟨h0, h | ⟨b, off, h1, h2, h3⟩⟩ := h
  · exact ⟨h0, .inl h⟩
  · refine ⟨h0, .inr ⟨b, off, h1, h2, fun i s hi => ?_⟩⟩
    obtain ⟨A', c', a, q⟩ := h3 i s hi
    exact ⟨A', c', (hb.cell (p := ⟨b, off + i, none⟩) (World.block_lt_of_cell? _ _ a)).trans a, q.later hb⟩
theorem StR.open {w : World} {A : Option Addr} {n c : Nat} {out : List (List It)} (h : StR w A n c out) (h0 : 0 < n) : ∃ b off, A = some ⟨b, off, none⟩ ∧ n ≤ c ∧ ∀ (i : Nat) s, out[i]? = some s → ∃ A' c', w.cell? ⟨b, off + i, none⟩ = some (.slice A' s.length c') ∧ Ir w A' s.length c' s := by
  rcases h.2 with h | h
  · omega
  · exact h
theorem ks_str {ty : TypeId} {w : World} {A : Option Addr} {n c : Nat} {out : List (List It)} (h : (Kd.slice ty KI).C w A n out) (hc : n ≤ c) : StR w A n c out := by
  refine ⟨h.1.symm, ?_⟩
  rcases Nat.eq_zero_or_pos n with h0 | h0
  · exact .inl h0
  · obtain ⟨ad, rfl, hr⟩ := h.2.2 h0
    have hl : out.length = n := h.1
    have key : ∀ j s, out[j]? = some s → ∃ A' c', w.cell? (ad.add j) = some (.slice A' s.length c') ∧ Ir w A' s.length c' s := fun j s hp => by
      obtain ⟨cs, hs, ⟨A', c', rfl, hle, hC⟩, hcell⟩ := hr j _ hp
      have := hcell 0 _ rfl
      rw [show j * (Kd.slice ty KI).sz + 0 = j from by show j * 1 + 0 = j; omega] at this
      exact ⟨A', c', this, ki_ir hC hle⟩
    have hsp : ad.spot = none := by
      have hp : out[0]? = some (out[0]'(by omega)) := List.getElem?_eq_getElem (by omega)
      obtain ⟨A', c', this, -⟩ := key 0 _ hp
      rw [show ad.add 0 = ad by simp [Addr.add]] at this
      exact World.cell?_spot this
    have ha : ∀ j, ad.add j = ⟨ad.block, ad.off + j, none⟩ := fun j => by
      unfold Addr.add
      by_cases hj : j = 0
      · subst hj
        rw [if_pos rfl, ← hsp]
        simp
      · rw [if_neg hj]
    refine .inr ⟨ad.block, ad.off, by rw [← hsp], hc, fun i s hi => ?_⟩
    rw [← ha]
    exact key i s hi
theorem ks_read {ty ty2 B : Nat} {w : World} {ok : Nat → Prop} {v : Value} {out : List (List It)} (h : Kd.R (Kd.slice ty KI) ty2 w B ok v out) : ∃ A c, v = .slice A out.length c ∧ StR w A out.length c out := by
  obtain ⟨A, c, rfl, hc, hC⟩ := Kd.R_reads h
  exact ⟨A, c, rfl, ks_str hC hc⟩
def Fnd (out : List (List It)) (l : List It) (r : Int) : Prop := (r = -1 ∧ l ∉ out) ∨ ∃ k : Nat, r = k ∧ k < out.length ∧ out[k]? = some l ∧ l ∈ out ∧ ∀ j, j < k → out[j]? ≠ some l
set_option maxHeartbeats 4000000 in
set_option maxRecDepth 100000 in
theorem sameS_calls {A1 A2 : Option Addr} {c1 c2 G : Nat} {s l : List It} {w : World} (h1 : Ir w A1 s.length c1 s) (hc : w.cell? ⟨G, 0, none⟩ = some (.slice A2 l.length c2)) (h2 : Ir w A2 l.length c2 l) (hn : s.length ≤ 1000 ∧ l.length ≤ 1000) (r : Bool) (hr : r = true ↔ s = l) :
    Calls Tryd.prog 113 #[.slice A1 s.length c1, .pointer (some ⟨G, 0, none⟩)] w fun e w' => e = .returned (.bool r) ∧ Below w.heap.size w w' := by
  have H := Lib.hid (eqI_calls h1 h2 hn r hr)
  clear h1 h2 hr
  go_enter Tryd.func113, Tryd.ntmps113
  go_wp2_with fail
  refine H.out.mono ?_
  rintro e w2 ⟨rfl, hb⟩
  have HB := Lib.hid hb
  clear hb
  go_wp2
  go_ret
  exact ⟨rfl, HB.out⟩
set_option maxHeartbeats 8000000 in
set_option maxRecDepth 100000 in
theorem idxS_calls {A A2 : Option Addr} {n c c2 G : Nat} {out : List (List It)} {l : List It} {w : World} (hS : StR w A n c out) (hn : n ≤ 1000) (hle : ∀ s ∈ out, s.length ≤ 1000) (hl : l.length ≤ 1000) (hc : w.cell? ⟨G, 0, none⟩ = some (.slice A2 l.length c2)) (h2 : Ir w A2 l.length c2 l) :
    Calls Tryd.prog 112 #[.slice A n c, .func (.func 113) #[] #[.pointer (some ⟨G, 0, none⟩)]] w fun e w' => (∃ r : Int, e = .returned (.int .i64 r) ∧ Fnd out l r) ∧ Below w.heap.size w w' := by
  have HS := Lib.hid hS
  have HL := Lib.hid hle
  have HC := Lib.hid hc
  have H2 := Lib.hid h2
  have HNO := Lib.hid hS.1
  have eg : ∀ args w, (callFunc 113 args).run Tryd.prog w = .ok (.enter 113 args) w := enters_of Tryd.func113 (by kernel_rfl) rfl
  clear hS hle hc h2
  go_enter Tryd.func112, Tryd.ntmps112
  go_wp2_with fail
  have HB := Lib.hid (Below.refl w.heap.size w)
  go_loopw [8] (fun i wr => ∃ k : Nat, k ≤ n ∧ i = .int .i64 k ∧ Hid (Below w.heap.size w wr) ∧ Hid (∀ j, j < k → out[j]? ≠ some l)) (fun i _ => n - (intOf i).toNat)
  case atStart => exact ⟨0, by omega, rfl, HB, Lib.hid (fun j hj => by omega)⟩
  case round =>
    clear HB
    obtain ⟨k, hk, rfl, HB, HN⟩ := hrel
    by_cases hkl : k < n
    · have hkI : (k : Int) < (n : Int) := by omega
      obtain ⟨b, off, rfl, hnc, hP⟩ := HS.out.open (by omega)
      obtain ⟨s, hs⟩ : ∃ s, out[k]? = some s := ⟨_, List.getElem?_eq_getElem (by have := HNO.out; omega)⟩
      obtain ⟨A', c', c0, hI⟩ := hP k s hs
      have c0' := (HB.out.cell (p := ⟨b, off + k, none⟩) (World.block_lt_of_cell? _ _ c0)).trans c0
      have HI := Lib.hid (hI.later HB.out)
      have HCC := Lib.hid ((HB.out.cell (p := ⟨G, 0, none⟩) (World.block_lt_of_cell? _ _ HC.out)).trans HC.out)
      have hkc : k < c := by omega
      have HSS := Lib.hid hs
      obtain ⟨r, hr⟩ : ∃ r : Bool, r = true ↔ s = l := ⟨decide (s = l), by simp⟩
      have HR := Lib.hid hr
      clear hs hP c0 hI hr
      go_wp2_with fail
      refine (sameS_calls HI.out HCC.out (H2.out.later HB.out) ⟨HL.out s (List.mem_of_getElem? HSS.out), hl⟩ r HR.out).mono ?_
      rintro e w2 ⟨rfl, hb2⟩
      have HB2 := Lib.hid (HB.out.trans (hb2.mono HB.out.size))
      clear hb2 c0'
      cases r with
      | true =>
        have HE := Lib.hid (HR.out.1 rfl)
        go_wp2
        go_ret
        exact ⟨⟨_, rfl, .inr ⟨k, rfl, by have := HNO.out; omega, by rw [HSS.out, HE.out], by rw [← HE.out]; exact List.mem_of_getElem? HSS.out, HN.out⟩⟩, HB2.out⟩
      | false =>
        have HE : Hid (s ≠ l) := Lib.hid (fun q => by have := HR.out.2 q; cases this)
        go_wp2_with fail
        refine ⟨⟨k + 1, by omega, by go_num, HB2, Lib.hid (fun j hj => ?_)⟩, by simp [intOf]; omega⟩
        by_cases e : j = k
        · rw [e, HSS.out]
          intro q
          injection q with q
          exact HE.out q
        · exact HN.out j (by omega)
    · obtain rfl : k = n := by omega
      go_wp2
      go_ret
      refine ⟨⟨_, rfl, .inl ⟨rfl, fun q => ?_⟩⟩, HB.out⟩
      obtain ⟨j, hj⟩ := List.getElem?_of_mem q
      exact HN.out j (by have := (List.getElem?_eq_some_iff.1 hj).1; have := HNO.out; omega) hj
end Go.Proofs.YtjpfalanoifpbaaDoor.X
end

section
set_option linter.unusedVariables false
set_option linter.unusedSimpArgs false
namespace Go.Proofs.YtjpfalanoifpbaaDoor.X
open Go.RowKit Go.Proofs.YtjpfalanoifpbaaDoorW.PrintWords Go.Proofs.YtjpfalanoifpbaaDoorW.PrintLast Go.Proofs.YtjpfalanoifpbaaDoorW.PrintMore Go.Proofs.YtjpfalanoifpbaaDoor.T
abbrev KS : Kd (List It) := Kd.slice 122 KI
abbrev KM : Kd Nat := Kd.scalar (fun r : Nat => Value.map (some r)) (fun _ => rfl)
abbrev GoL := List (Int × Nat)
def cells8 (gs vS vG : Value) (F : Nat → Nat) : Array Value := #[gs, vS, vG, .int .i64 (F 0), .int .i64 (F 1), .int .i64 (F 2), .int .i64 (F 3), .int .i64 (F 4)]
structure Tb (w0 w : World) (G : Nat) (gs vS vG : Value) (F : Nat → Nat) (out : List (List It)) (rs : List Nat) (ms : List GoL) : Prop where
  blk : w.heap[G]? = some (.cells (cells8 gs vS vG F) 116 (0, 0))
  st : Kd.R KS 121 w w0.heap.size (fun _ => True) vS out
  go : Kd.R KM 124 w w0.heap.size (fun _ => True) vG rs
  ln : rs.length = ms.length
  mp : ∀ (i r : Nat) m, rs[i]? = some r → ms[i]? = some m → IsM (Value.int .u8) natV w r m
  lo : ∀ r ∈ rs, w0.heap.size ≤ r
  nd : rs.Nodup
  bl : Below w0.heap.size w0 w
  hG : w0.heap.size ≤ G
section
variable {w0 w : World} {G : Nat} {gs vS vG : Value} {F : Nat → Nat} {out : List (List It)} {rs : List Nat} {ms : List GoL}
theorem Tb.lt (h : Tb w0 w G gs vS vG F out rs ms) : G < w.heap.size := (Array.getElem?_eq_some_iff.1 h.blk).1
theorem Tb.later {w1 : World} (h : Tb w0 w G gs vS vG F out rs ms) (hb : Below w.heap.size w w1) : Tb w0 w1 G gs vS vG F out rs ms :=
  ⟨(hb.block _ h.lt).trans h.blk, Kd.R_below h.st hb, Kd.R_below h.go hb, h.ln, fun i r m h1 h2 => (h.mp i r m h1 h2).below hb, h.lo, h.nd, h.bl.trans (hb.mono h.bl.size), h.hG⟩
theorem Tb.c0 (h : Tb w0 w G gs vS vG F out rs ms) : w.cell? ⟨G, 0, none⟩ = some gs := by rw [blk_cell h.blk]; rfl
theorem Tb.c1 (h : Tb w0 w G gs vS vG F out rs ms) : w.cell? ⟨G, 1, none⟩ = some vS := by rw [blk_cell h.blk]; rfl
theorem Tb.c2 (h : Tb w0 w G gs vS vG F out rs ms) : w.cell? ⟨G, 2, none⟩ = some vG := by rw [blk_cell h.blk]; rfl
theorem Tb.fz (h : Tb w0 w G gs vS vG F out rs ms) (i : Nat) : w.frozen? ⟨G, i, none⟩ = false := blk_frozen h.blk i
theorem Tb.map_ne (h : Tb w0 w G gs vS vG F out rs ms) {i r : Nat} (hr : rs[i]? = some r) {k : Nat} {cs : Array Value} {t : TypeId} (hk : w.heap[k]? = some (.cells cs t (0, 0))) : r ≠ k := by
  have hi := (List.getElem?_eq_some_iff.1 hr).1
  obtain ⟨m, hm⟩ : ∃ m, ms[i]? = some m := ⟨_, List.getElem?_eq_getElem (by rw [← h.ln]; exact hi)⟩
  obtain ⟨es, clock, hb, -⟩ := h.mp i r m hr hm
  rintro rfl
  rw [hk] at hb
  cases hb
theorem Tb.setS {w1 : World} {v1 : Value} {l : List It} (h : Tb w0 w G gs vS vG F out rs ms) (hv : Kd.R KS 121 w1 w0.heap.size (fun _ => True) v1 (out ++ [l])) (hb : Below w0.heap.size w0 w1) (hg : w.grownBy w1 vS.ownBlock) : Tb w0 (w1.setCell ⟨G, 1, none⟩ v1) G gs v1 vG F (out ++ [l]) rs ms := by
  obtain ⟨i1, ho1⟩ := Kd.R_own h.st
  have hGS : some G ≠ vS.ownBlock := fun e => by
    obtain ⟨cs, hc⟩ := own_typed ho1 G e.symm
    rw [h.blk] at hc
    injection hc with hc
    injection hc with _ hc
    exact absurd hc (by decide)
  have hG1 : w1.heap[G]? = some (.cells (cells8 gs vS vG F) 116 (0, 0)) := (hg.block G h.lt hGS).trans h.blk
  have hgo1 : Kd.R KM 124 w1 w0.heap.size (fun _ => True) vG rs := by
    refine Kd.R_mono (Kd.R_grown (ok := fun k => some k ≠ vS.ownBlock) (Kd.R_mono (Kd.R_bound h.go) fun k hk e => ?_) hg fun k hk => hk) (fun _ _ => trivial)
    obtain ⟨_, _, _, q, hq, cells, hc⟩ := hk
    obtain ⟨cs, hc2⟩ := own_typed ho1 k e.symm
    rw [hc] at hc2
    injection hc2 with hc2
    injection hc2 with _ hc2
    rw [hc2] at hq
    exact absurd hq (by decide)
  refine ⟨?_, Kd.R_set hv hG1 (by decide) 1 v1, Kd.R_set hgo1 hG1 (by decide) 1 v1, h.ln, fun i r m h1 h2 => ?_, h.lo, h.nd, hb.setCell (p := ⟨G, 1, none⟩) h.hG _, h.hG⟩
  · rw [blk_set hG1]
    rfl
  · have hm := h.mp i r m h1 h2
    have hlt := hm.lt
    have e1 : w1.heap[r]? = w.heap[r]? := hg.block r hlt (fun e => by
      obtain ⟨cs, hc⟩ := own_typed ho1 r e.symm
      exact h.map_ne h1 hc rfl)
    exact hm.of_heap ((Below.heap_setCell w1 ⟨G, 1, none⟩ v1 r (h.map_ne h1 h.blk)).trans e1)
theorem Tb.setG {w1 : World} {v1 : Value} {r : Nat} (h : Tb w0 w G gs vS vG F out rs ms) (hr : IsM (Value.int .u8) natV w r []) (hlo : w0.heap.size ≤ r) (hn : r ∉ rs) (hv : Kd.R KM 124 w1 w0.heap.size (fun _ => True) v1 (rs ++ [r])) (hb : Below w0.heap.size w0 w1) (hg : w.grownBy w1 vG.ownBlock) : Tb w0 (w1.setCell ⟨G, 2, none⟩ v1) G gs vS v1 F out (rs ++ [r]) (ms ++ [[]]) := by
  obtain ⟨i1, ho1⟩ := Kd.R_own h.go
  have hGS : some G ≠ vG.ownBlock := fun e => by
    obtain ⟨cs, hc⟩ := own_typed ho1 G e.symm
    rw [h.blk] at hc
    injection hc with hc
    injection hc with _ hc
    exact absurd hc (by decide)
  have hG1 : w1.heap[G]? = some (.cells (cells8 gs vS vG F) 116 (0, 0)) := (hg.block G h.lt hGS).trans h.blk
  have hst1 : Kd.R KS 121 w1 w0.heap.size (fun _ => True) vS out := by
    refine Kd.R_mono (Kd.R_grown (ok := fun k => some k ≠ vG.ownBlock) (Kd.R_mono (Kd.R_bound h.st) fun k hk e => ?_) hg fun k hk => hk) (fun _ _ => trivial)
    obtain ⟨_, _, _, q, hq, cells, hc⟩ := hk
    obtain ⟨cs, hc2⟩ := own_typed ho1 k e.symm
    rw [hc] at hc2
    injection hc2 with hc2
    injection hc2 with _ hc2
    rw [hc2] at hq
    exact absurd hq (by decide)
  have mv : ∀ (r' : Nat) m, IsM (Value.int .u8) natV w r' m → IsM (Value.int .u8) natV (w1.setCell ⟨G, 2, none⟩ v1) r' m := fun r' m hm => by
    have hne : ∀ (k : Nat) cs t, w.heap[k]? = some (.cells cs t (0, 0)) → r' ≠ k := fun k cs t hk => by
      obtain ⟨es, clock, hb2, -⟩ := hm
      rintro rfl
      rw [hk] at hb2
      cases hb2
    have e1 : w1.heap[r']? = w.heap[r']? := hg.block r' hm.lt (fun e => by
      obtain ⟨cs, hc⟩ := own_typed ho1 r' e.symm
      exact hne r' _ _ hc rfl)
    exact hm.of_heap ((Below.heap_setCell w1 ⟨G, 2, none⟩ v1 r' (hne G _ _ h.blk)).trans e1)
  refine ⟨?_, Kd.R_set hst1 hG1 (by decide) 2 v1, Kd.R_set hv hG1 (by decide) 2 v1, by rw [List.length_append, List.length_append, h.ln]; rfl, fun i r' m h1 h2 => ?_, fun r' hr' => ?_, ?_, hb.setCell (p := ⟨G, 2, none⟩) h.hG _, h.hG⟩
  · rw [blk_set hG1]
    rfl
  · by_cases hi : i < rs.length
    · rw [List.getElem?_append_left hi] at h1
      rw [List.getElem?_append_left (by rw [← h.ln]; exact hi)] at h2
      exact mv r' m (h.mp i r' m h1 h2)
    · have hi2 : i = rs.length := by
        have := (List.getElem?_eq_some_iff.1 h1).1
        simp at this
        omega
      subst hi2
      rw [h.ln] at h2
      simp at h1 h2
      subst h1 h2
      exact mv r [] hr
  · rcases List.mem_append.1 hr' with q | q
    · exact h.lo r' q
    · rw [List.mem_singleton] at q
      rw [q]
      exact hlo
  · rw [List.nodup_append]
    refine ⟨h.nd, by simp, fun a ha b hb2 e => ?_⟩
    rw [List.mem_singleton] at hb2
    subst hb2
    subst e
    exact hn ha
theorem Tb.put {w1 : World} {i r : Nat} {m m' : GoL} (h : Tb w0 w G gs vS vG F out rs ms) (hr : rs[i]? = some r) (hm : ms[i]? = some m) (hM : IsM (Value.int .u8) natV w1 r m') (hk : KeepBut w w1 r none) (hb : Below w0.heap.size w0 w1) : Tb w0 w1 G gs vS vG F out rs (ms.set i m') := by
  have hrG := h.map_ne hr h.blk
  have mvc : ∀ {α : Type} {d : Kd α} {e : Nat} {v : Value} {xs : List α}, Kd.R d e w w0.heap.size (fun _ => True) v xs → Kd.R d e w1 w0.heap.size (fun _ => True) v xs := fun hR => by
    refine Kd.R_mono (Kd.R_keep (ok := fun k => k ≠ r) (Kd.R_mono (Kd.R_bound hR) fun k hk2 e => ?_) hk fun k hk2 => hk2) (fun _ _ => trivial)
    obtain ⟨_, _, _, q, hq, cells, hc⟩ := hk2
    exact h.map_ne hr hc e.symm
  refine ⟨(hk.2 G h.lt (Ne.symm hrG) (by simp)).trans h.blk, mvc h.st, mvc h.go, by rw [List.length_set]; exact h.ln, fun j r' m2 h1 h2 => ?_, h.lo, h.nd, hb, h.hG⟩
  by_cases e : i = j
  · subst e
    rw [hr] at h1
    injection h1 with h1
    subst h1
    rw [List.getElem?_set_self (List.getElem?_eq_some_iff.1 hm).1] at h2
    injection h2 with h2
    subst h2
    exact hM
  · rw [List.getElem?_set_ne e] at h2
    have hm2 := h.mp j r' m2 h1 h2
    have hne : r' ≠ r := fun q => by
      subst q
      obtain ⟨a1, a2⟩ := List.getElem?_eq_some_iff.1 hr
      obtain ⟨b1, b2⟩ := List.getElem?_eq_some_iff.1 h1
      have hnd := h.nd
      unfold List.Nodup at hnd
      rw [List.pairwise_iff_getElem] at hnd
      rcases Nat.lt_or_ge i j with q | q
      · exact hnd i j a1 b1 q (by rw [a2, b2])
      · exact hnd j i b1 a1 (by omega) (by rw [a2, b2])
    exact hm2.of_heap (hk.2 r' hm2.lt hne (by simp))
end
section
variable (L : Nat → Int) (R : Nat → ByteArray) (n : Nat)
noncomputable def leadsTo (out : List (List It)) (st : List It) (c : Int) : Nat := out.findIdx (fun s => s == ovr L R n st c)
structure GoM (out : List (List It)) (st : List It) (cs : List Int) (m : GoL) : Prop where
  mem : ∀ c ∈ cs, nxt L R n st c ≠ [] → ovr L R n st c ∈ out
  get : ∀ c, findL m c = if c ∈ cs ∧ nxt L R n st c ≠ [] then some (leadsTo L R n out st c) else none
variable {L R n}
theorem GoM.start (out : List (List It)) (st : List It) : GoM L R n out st [] [] :=
  ⟨fun c hc => (by cases hc), fun c => by simp [findL]⟩
theorem leads_snoc {out : List (List It)} {st : List It} {c : Int} {l : List It} (h : ovr L R n st c ∈ out) : leadsTo L R n (out ++ [l]) st c = leadsTo L R n out st c := by
  unfold leadsTo
  rw [List.findIdx_append]
  have : out.findIdx (fun s => s == ovr L R n st c) < out.length := List.findIdx_lt_length_of_exists ⟨_, h, by simp⟩
  rw [if_pos this]
theorem GoM.snoc {out : List (List It)} {st l : List It} {cs : List Int} {m : GoL} (h : GoM L R n out st cs m) : GoM L R n (out ++ [l]) st cs m :=
  ⟨fun c hc hx => List.mem_append_left _ (h.mem c hc hx), fun c => by
    rw [h.get]
    by_cases q : c ∈ cs ∧ nxt L R n st c ≠ []
    · rw [if_pos q, if_pos q, leads_snoc (h.mem c q.1 q.2)]
    · rw [if_neg q, if_neg q]⟩
theorem GoM.skip {out : List (List It)} {st : List It} {cs : List Int} {m : GoL} {c : Int} (h : GoM L R n out st cs m) (hc : nxt L R n st c = []) : GoM L R n out st (cs ++ [c]) m :=
  ⟨fun d hd hx => by
    rcases List.mem_append.1 hd with q | q
    · exact h.mem d q hx
    · rw [List.mem_singleton] at q
      rw [q] at hx
      exact absurd hc hx, fun d => by
    rw [h.get]
    by_cases q : d = c
    · subst q
      rw [if_neg (fun z => z.2 hc), if_neg (fun z => z.2 hc)]
    · have : d ∈ cs ++ [c] ↔ d ∈ cs := by simp [q]
      simp only [this]⟩
theorem GoM.put {out : List (List It)} {st : List It} {cs : List Int} {m : GoL} {c : Int} (h : GoM L R n out st cs m) (hc : nxt L R n st c ≠ []) (ho : ovr L R n st c ∈ out) : GoM L R n out st (cs ++ [c]) (putL m c (leadsTo L R n out st c)) :=
  ⟨fun d hd hx => by
    rcases List.mem_append.1 hd with q | q
    · exact h.mem d q hx
    · rw [List.mem_singleton] at q
      rw [q]
      exact ho, fun d => by
    rw [findL_putL]
    by_cases q : c = d
    · subst q
      rw [if_pos rfl, if_pos ⟨by simp, hc⟩]
    · rw [if_neg q, h.get]
      have : d ∈ cs ++ [c] ↔ d ∈ cs := by simp [Ne.symm q]
      simp only [this]⟩
theorem fnd_leads {out : List (List It)} {st : List It} {c : Int} {k : Nat} (h : out[k]? = some (ovr L R n st c)) (hn : ∀ j, j < k → out[j]? ≠ some (ovr L R n st c)) : leadsTo L R n out st c = k := by
  unfold leadsTo
  obtain ⟨hk, e⟩ := List.getElem?_eq_some_iff.1 h
  rw [List.findIdx_eq hk]
  refine ⟨by simp [e], fun j hj => ?_⟩
  have := hn j hj
  rw [List.getElem?_eq_getElem (by omega)] at this
  simp only [beq_eq_false_iff_ne]
  exact fun q => this (by rw [q])
def GoA (L : Nat → Int) (R : Nat → ByteArray) (n : Nat) (out : List (List It)) (ms : List GoL) (cs : Nat → List Int) : Prop := ∀ (i : Nat) st m, out[i]? = some st → ms[i]? = some m → GoM L R n out st (cs i) m
theorem GoA.snoc {out : List (List It)} {ms : List GoL} {cs : Nat → List Int} {l : List It} (h : GoA L R n out ms cs) (hl : ms.length ≤ out.length) : GoA L R n (out ++ [l]) ms cs := fun i st m h1 h2 => by
  have hi := (List.getElem?_eq_some_iff.1 h2).1
  rw [List.getElem?_append_left (by omega)] at h1
  exact (h i st m h1 h2).snoc
end
theorem nxt_nodup {L : Nat → Int} {R : Nat → ByteArray} {n : Nat} {st : List It} (h : Asc st) (c : Int) : (nxt L R n st c).Nodup := by
  unfold nxt
  have h1 : (st.filter fun x => bh L R n x == c).Pairwise fun x y => cd x < cd y := List.Pairwise.filter _ h
  unfold List.Nodup
  rw [List.pairwise_map]
  refine h1.imp fun {a b} hab e => ?_
  obtain ⟨e1, e2⟩ := Prod.mk.inj e
  unfold cd at hab
  omega
theorem nxt_take {L : Nat → Int} {R : Nat → ByteArray} {n : Nat} {st : List It} {q : Nat} {x : It} (h : st[q]? = some x) (c : Int) : nxt L R n (st.take (q + 1)) c = if bh L R n x = c then nxt L R n (st.take q) c ++ [(x.1, x.2 + 1)] else nxt L R n (st.take q) c := by
  unfold nxt
  rw [take_succ_of h, List.filter_append, List.map_append]
  by_cases e : bh L R n x = c
  · rw [if_pos e]
    simp [e]
  · rw [if_neg e]
    simp [e]
structure Lv (W wr : World) (H : Nat) (v : Value) (l : List It) : Prop where
  blk : wr.heap[H]? = some (.cells #[v] 121 (0, 0))
  row : RI W.heap.size wr v l
  bl : Below W.heap.size W wr
  hH : W.heap.size ≤ H
  nl : l = [] → v = .slice none 0 0
section
variable {W wr : World} {H : Nat} {v : Value} {l : List It}
theorem Lv.start (W : World) : Lv W (W.alloc (.cells #[.slice none 0 0] 121)) W.heap.size (.slice none 0 0) [] :=
  ⟨blk_new W _, Kd.R_nil _ _ _ _ _, below_one _, Nat.le_refl _, fun _ => rfl⟩
theorem Lv.lt (h : Lv W wr H v l) : H < wr.heap.size := (Array.getElem?_eq_some_iff.1 h.blk).1
theorem Lv.later {w1 : World} (h : Lv W wr H v l) (hb : Below wr.heap.size wr w1) : Lv W w1 H v l :=
  ⟨(hb.block _ h.lt).trans h.blk, Kd.R_below h.row hb, h.bl.trans (hb.mono h.bl.size), h.hH, h.nl⟩
theorem Lv.c0 (h : Lv W wr H v l) : wr.cell? ⟨H, 0, none⟩ = some v := by rw [blk_cell h.blk]; rfl
theorem Lv.fz (h : Lv W wr H v l) : wr.frozen? ⟨H, 0, none⟩ = false := blk_frozen h.blk 0
theorem Lv.set {w1 : World} {v1 : Value} {l1 : List It} (h : Lv W wr H v l) (hv : RI W.heap.size w1 v1 l1) (hb : Below W.heap.size W w1) (hg : wr.grownBy w1 v.ownBlock) (h1 : l1 ≠ []) : Lv W (w1.setCell ⟨H, 0, none⟩ v1) H v1 l1 := by
  obtain ⟨i1, ho1⟩ := Kd.R_own h.row
  have hHS : some H ≠ v.ownBlock := fun e => by
    obtain ⟨cs, hc⟩ := own_typed ho1 H e.symm
    rw [h.blk] at hc
    injection hc with hc
    injection hc with _ hc
    exact absurd hc (by decide)
  have hH1 : w1.heap[H]? = some (.cells #[v] 121 (0, 0)) := (hg.block H h.lt hHS).trans h.blk
  refine ⟨?_, Kd.R_set hv hH1 (by decide) 0 v1, hb.setCell (p := ⟨H, 0, none⟩) h.hH _, h.hH, fun e => absurd e h1⟩
  rw [blk_set hH1]
  rfl
end
end Go.Proofs.YtjpfalanoifpbaaDoor.X
end
