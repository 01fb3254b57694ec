/- Texts of this claim, merged by a program (wip/tools/shake.py); what nothing names is left out. -/
import Derived.WideKeyPair
import Derived.Deep.Slices
import Derived.OpenShut
import Derived.DataElems
import Derived.Test.YtjpfalanoifpbaaDoorSfa
section
set_option linter.unusedVariables false
set_option linter.unusedSimpArgs false
namespace Go.Proofs.YtjpfalanoifpbaaDoor.X
open Go.RowKit Go.Proofs.YtjpfalanoifpbaaDoorW.PrintWords Go.Proofs.YtjpfalanoifpbaaDoorW.PrintLast Go.Proofs.YtjpfalanoifpbaaDoorW.PrintMore Go.Proofs.YtjpfalanoifpbaaDoor.T
def mnN (a b : Nat) : Nat := if a ≤ b then a else b
def cut12 (s : ByteArray) : ByteArray := s.extract 0 (mnN s.size 12)
theorem cut12_size (s : ByteArray) : (cut12 s).size = mnN s.size 12 := by
  unfold cut12 mnN
  rw [ByteArray.size_extract]
  split <;> omega
theorem cut12_self {s : ByteArray} (h : s.size ≤ 12) : cut12 s = s := by
  unfold cut12 mnN
  rw [if_pos h]
  exact ByteArray.extract_zero_size
theorem text_calls (s : ByteArray) (hs : s.size ≤ 9223372036854775807) (w : World) : Calls Tryd.prog 27 #[.string s] w fun e w' => e = .returned (.string (cut12 s)) ∧ w' = w := by
  have hm : min (s.size : Int) 12 = (mnN s.size 12 : Nat) := by unfold mnN; split <;> omega
  have hmn : mnN s.size 12 ≤ s.size := by unfold mnN; split <;> omega
  unfold cut12
  generalize mnN s.size 12 = m at hm hmn ⊢
  go_enter Tryd.func27, Tryd.ntmps27
  go_wp2
  go_ret
  exact ⟨rfl, rfl⟩
def flatR (L : Nat → Int) (R : Nat → ByteArray) : Nat → List Value
  | 0 => []
  | k + 1 => flatR L R k ++ [.int .u8 (L k), .string (R k)]
theorem flatR_length (L : Nat → Int) (R : Nat → ByteArray) : ∀ k, (flatR L R k).length = k * 2
  | 0 => rfl
  | k + 1 => by rw [flatR, List.length_append, flatR_length L R k]; simp; omega
theorem flatR_get (L : Nat → Int) (R : Nat → ByteArray) : ∀ k i, i < k → (flatR L R k)[i * 2]? = some (.int .u8 (L i)) ∧ (flatR L R k)[i * 2 + 1]? = some (.string (R i))
  | 0, i, h => by omega
  | k + 1, i, h => by
    have hl := flatR_length L R k
    rw [flatR]
    by_cases e : i = k
    · subst e
      rw [List.getElem?_append_right (by omega), List.getElem?_append_right (by omega), hl]
      simp
    · rw [List.getElem?_append_left (by omega), List.getElem?_append_left (by omega)]
      exact flatR_get L R k i (by omega)
theorem Sr.of_own {w : World} {base e n : Nat} {v : Value} {L : Nat → Int} {R : Nat → ByteArray} (h : w.ownsRow base e 2 v n (flatR L R n)) : ∃ A c, v = .slice A n c ∧ Sr w A n c L R := by
  obtain ⟨_, ⟨rfl, rfl⟩ | ⟨g, cap, cur, rfl, hg, hb, hn, _, hs, ht⟩⟩ := h
  · exact ⟨none, 0, rfl, .inl rfl⟩
  · refine ⟨_, cap, rfl, .inr ⟨g, 0, rfl, hn, ?_⟩⟩
    have key : ∀ j u, (flatR L R n)[j]? = some u → j < n * 2 → w.cell? ⟨g, 0 + j, none⟩ = some u := fun j u hu hj => by
      rw [← ht, List.getElem?_take, if_pos hj] at hu
      have hu' : cur[j]? = some u := by simpa using hu
      rw [Nat.zero_add]
      unfold World.cell?
      simp only [hb]
      simpa using hu'
    exact ⟨fun i hi => key _ _ (flatR_get L R n i hi).1 (by omega), fun i hi => by rw [Nat.add_assoc]; exact key _ _ (flatR_get L R n i hi).2 (by omega)⟩
theorem info60 : (Tryd.prog.info? 60).map (fun i => (i.zero, i.size, i.bytes)) = some (some (.agg #[.int .u8 0, .string ByteArray.empty]), 2, 24) := by kernel_rfl
theorem two_new (w : World) (t : TypeId) (u v : Value) : ∀ (j : Nat) z, ([u, v] : List Value)[j]? = some z → (w.alloc (.cells #[u, v] t)).cell? ((⟨w.heap.size, 0, none⟩ : Addr).add j) = some z := fun j z hz => by
  have hj : j = 0 ∨ j = 1 := by
    have := (List.getElem?_eq_some_iff.1 hz).1
    simp at this
    omega
  rcases hj with rfl | rfl
  · simp at hz
    simp [Addr.add, hz]
  · simp at hz
    simp [Addr.add, hz]
theorem own_growS {B : Nat} {u w w1 : World} {e sz n : Nat} {v : Value} {xs : List Value} (hb : Below B u w) (hs : w.ownsRow u.heap.size e sz v n xs) (hg : w.grownBy w1 v.ownBlock) (hB : B = u.heap.size := by rfl) : Below B u w1 := by
  subst hB
  refine hb.grown hg hb.size fun k hk => ?_
  obtain ⟨_, ⟨h, _⟩ | ⟨g, cap, cur, h, h2, _⟩⟩ := hs
  · rw [h] at hk
    simp [Value.ownBlock] at hk
  · rw [h] at hk
    simp [Value.ownBlock] at hk
    omega
theorem value_step {P : Program} {ops : Array Oper} {oi : Oper} {N : Option Tmp} {a : Act} {Q : Exit → Act → World → Prop} {K : Act → World → Prop} {W w1 : World} {v : Value} (hw : Region.wanted oi (yielded ops a.tmps) = true) (hN : oi.dst = N)
    (hrun : (execOp a.eval oi).run P W = .ok (.value v) w1) (h : K (a.put N v) w1) :
    if Region.wanted oi (yielded ops a.tmps) = true then Oper.wp P oi a W K Q else K (a.put N undef) W := by
  subst hN
  rw [if_pos hw]
  unfold Oper.wp
  rw [hrun]
  exact h
theorem append_step {P : Program} {ops : Array Oper} {oi : Oper} {N : Option Tmp} {a : Act} {Q : Exit → Act → World → Prop} {K : Act → World → Prop} {W : World} (hw : Region.wanted oi (yielded ops a.tmps) = true) (hN : oi.dst = N)
    (s x : Operand) (t : TypeId) (ho : oi.op = .call { callee := .builtin .append, args := #[s, x], argTypes := #[t, t] })
    (base : Nat) (e : TypeId) (i : TypeInfo) (z : Value) (size bytes : Nat) (ht : P.underlying t = some (.slice e)) (hi : P.info? e = some i) (hz : i.zero = some z)
    (hsize : i.size = size) (hby : i.bytes = bytes) (hzs : z.cells.size = size) (hsz : 0 < size)
    (v : Value) (n : Nat) (xs : List Value) (hs : a.eval s = v) (hown : W.ownsRow base e size v n xs)
    (ad : Addr) (m c : Nat) (news : List Value) (hx : a.eval x = .slice (some ad) m c) (hl : news.length = m * size) (hnews : ∀ j u, news[j]? = some u → W.cell? (ad.add j) = some u) (h1 : ∀ u ∈ news, u.oneCell' = true)
    (h63 : n + m ≤ maxLen) (hbytes : (n + m) * bytes ≤ 140737488355328) (hbase : base ≤ W.heap.size)
    (h : ∀ v' w', w'.ownsRow base e size v' (n + m) (xs ++ news) → W.grownBy w' v.ownBlock → K (a.put N v') w') :
    if Region.wanted oi (yielded ops a.tmps) = true then Oper.wp P oi a W K Q else K (a.put N undef) W := by
  obtain ⟨v', w', hr, h2, h3, _, _⟩ := run_append_own_at (P := P) W base t oi.type e i z size bytes ht hi hz hsize hby hzs hsz v n xs hown ad m c news hl hnews h1 h63 hbytes hbase
  refine value_step hw hN ?_ (h v' w' h2 h3)
  unfold execOp
  simp only [ho, resolve, invoke, builtin, Sem.run_bind, Sem.run_pure, Result.andThen_ok, List.map_toArray, List.map_cons, List.map_nil, hs, hx, hr]
set_option maxHeartbeats 8000000 in
set_option maxRecDepth 100000 in
theorem Of_calls (A : Option Addr) (n c : Nat) (L : Nat → Int) (R : Nat → ByteArray) (w : World) (hA : Sr w A n c L R) (hn : n ≤ 9223372036854775807) (hR : ∀ k, k < n → (R k).size ≤ 9223372036854775807) :
    Calls Tryd.prog 18 #[.slice A n c] w fun e w' => (∃ A' c', e = .returned (.slice A' (mnN n 11) c') ∧ Sr w' A' (mnN n 11) c' L (fun k => cut12 (R k))) ∧ Below w.heap.size w w' := by
  have HA := Lib.hid hA
  have HZ := Lib.hid hR
  clear hA hR
  go_enter Tryd.func18, Tryd.ntmps18
  go_wp2_with fail
  have HB := Lib.hid (Below.refl w.heap.size w)
  have HO : Hid (w.ownsRow w.heap.size 60 2 (.slice none 0 0) (mnN 0 11) (flatR L (fun k => cut12 (R k)) (mnN 0 11))) := Lib.hid (World.ownsRow_nil w w.heap.size 60 2)
  go_loopw [8, 3] (fun i v wr => ∃ k : Nat, k ≤ n ∧ i = .int .i64 k ∧ Hid (wr.ownsRow w.heap.size 60 2 v (mnN k 11) (flatR L (fun k => cut12 (R k)) (mnN k 11))) ∧ Hid (Below w.heap.size w wr)) (fun i _ _ => n - (intOf i).toNat)
  case atStart => exact ⟨0, by omega, rfl, HO, HB⟩
  case round =>
    clear HO HB
    obtain ⟨k, hk, rfl, HO, HB⟩ := hrel
    by_cases hlt : k < n
    · obtain ⟨b, off, rfl, hnc, hP⟩ := HA.out.open (by omega)
      have HP := Lib.hid hP
      have c0 := (hP.later HB.out).c0 k hlt
      have c1 := (hP.later HB.out).c1 k hlt
      have hz := HZ.out k hlt
      obtain ⟨l, hl⟩ : ∃ l, L k = l := ⟨_, rfl⟩
      obtain ⟨s, hs⟩ : ∃ s, R k = s := ⟨_, rfl⟩
      rw [hl] at c0
      rw [hs] at c1 hz
      have HLS := Lib.hid (And.intro hl hs)
      have hkc : k < c := by omega
      clear hl hs hP
      by_cases h11 : k < 11
      · have h11' : (k : Int) < 11 := by omega
        have hm1 : mnN k 11 = k := by unfold mnN; rw [if_pos (by omega)]
        have hm2 : mnN (k + 1) 11 = k + 1 := by unfold mnN; rw [if_pos (by omega)]
        rw [hm1] at HO
        have HM := Lib.hid hm2
        clear hm1 hm2
        go_wp2_with fail
        have hbA := below_one (w := wr) (.cells #[.int .u8 l, .string s] 44)
        obtain ⟨d0, d1⟩ := rule_new wr 44 l s
        have HBA := Lib.hid (HB.out.trans (hbA.mono HB.out.size))
        have HOA := Lib.hid (pw_own_below HO.out hbA)
        obtain ⟨w1, hw1⟩ : ∃ w1, w1 = wr.alloc (.cells #[.int .u8 l, .string s] 44) := ⟨_, rfl⟩
        rw [← hw1] at d0 d1 HBA HOA ⊢
        clear hw1 hbA c0 c1 HB HO
        generalize wr.heap.size = G at d0 d1 ⊢
        refine start_ (n := 10) (S := fun w' => w'.cell? ⟨G, 0, none⟩ = some (.int .u8 l) ∧ w'.cell? ⟨G, 1, none⟩ = some (.string s)) (ds := [7,8]) #[false, false, false, false, false, false, false, false, false, false] (by kernel_rfl) rfl rfl ⟨by simpa using d0, by simpa using d1⟩ (fun hHeld => ?_)
        refine pure_ (i := 0) (N := (some 15)) (v := ?_) (a' := ?_) #[true, false, false, false, false, false, false, false, false, false] rfl rfl (by kernel_rfl) (fun _ _ _ h => h) (Or.inl ⟨by rfl, ?_⟩) ?_ ?_
        rotate_left
        · intro w'; go_simp; first | done | with_reducible rfl
        rotate_left
        · simp only [Act.put, List.setIfInBounds_toArray, List.set_cons_zero, List.set_cons_succ, i64_w, i32_w]; rfl
        refine pure_ (i := 1) (N := (some 16)) (v := ?_) (a' := ?_) #[true, true, false, false, false, false, false, false, false, false] rfl rfl (by kernel_rfl) (fun _ _ _ h => h) (Or.inl ⟨by rfl, ?_⟩) ?_ ?_
        rotate_left
        · intro w'; go_simp; first | done | with_reducible rfl
        rotate_left
        · simp only [Act.put, List.setIfInBounds_toArray, List.set_cons_zero, List.set_cons_succ, i64_w, i32_w]; rfl
        refine take_ (i := 2) (N := (some 17)) (v := ?_) (a' := ?_) #[true, true, true, false, false, false, false, false, false, false] rfl rfl (by kernel_rfl) (fun _ _ _ h => h) (Or.inl ⟨by rfl, ?_⟩) hHeld ?_ ?_
        rotate_left
        · rintro w' ⟨s0, s1⟩; go_simp; first | done | with_reducible rfl
        rotate_left
        · simp only [Act.put, List.setIfInBounds_toArray, List.set_cons_zero, List.set_cons_succ, i64_w, i32_w]; rfl
        refine pure_ (i := 3) (N := (some 18)) (v := ?_) (a' := ?_) #[true, true, true, true, false, false, false, false, false, false] rfl rfl (by kernel_rfl) (fun _ _ _ h => h) (Or.inl ⟨by rfl, ?_⟩) ?_ ?_
        rotate_left
        · intro w'; go_simp; first | done | with_reducible rfl
        rotate_left
        · simp only [Act.put, List.setIfInBounds_toArray, List.set_cons_zero, List.set_cons_succ, i64_w, i32_w]; rfl
        refine take_ (i := 4) (N := (some 19)) (v := ?_) (a' := ?_) #[true, true, true, true, true, false, false, false, false, false] rfl rfl (by kernel_rfl) (fun _ _ _ h => h) (Or.inl ⟨by rfl, ?_⟩) hHeld ?_ ?_
        rotate_left
        · rintro w' ⟨s0, s1⟩; go_simp; first | done | with_reducible rfl
        rotate_left
        · simp only [Act.put, List.setIfInBounds_toArray, List.set_cons_zero, List.set_cons_succ, i64_w, i32_w]; rfl
        refine one_ (i := 5) (N := (some 20)) #[true, true, true, true, true, true, false, false, false, false] rfl rfl (by kernel_rfl) (by decide) (fun K hK => ?_)
        refine goes_ Tryd.func27 (by kernel_rfl) rfl #[.string s] (by rfl) rfl rfl (by (try simp only [List.map_toArray, List.map_cons, List.map_nil]); first | done | rfl) ?_
        refine (text_calls s hz _).mono ?_
        rintro e w2 ⟨rfl, rfl⟩
        refine ⟨_, rfl, ?_⟩
        refine hK.out _ _ hHeld (fun hHeld => ?_)
        clear hK K
        refine norm_ (a' := ?_) ?_ ?_
        rotate_left
        · show Act.put _ (some 20) _ = _; simp only [Act.put, List.setIfInBounds_toArray, List.set_cons_zero, List.set_cons_succ, i64_w, i32_w]; rfl
        refine pure_ (i := 6) (N := (some 21)) (v := ?_) (a' := ?_) #[true, true, true, true, true, true, true, false, false, false] rfl rfl (by kernel_rfl) (fun _ _ _ h => h) (Or.inl ⟨by rfl, ?_⟩) ?_ ?_
        rotate_left
        · intro w'; go_simp; first | done | with_reducible rfl
        rotate_left
        · simp only [Act.put, List.setIfInBounds_toArray, List.set_cons_zero, List.set_cons_succ, i64_w, i32_w]; rfl
        refine last_ (i := 7) (N := (some 22)) #[true, true, true, true, true, true, true, true, false, false] rfl rfl (by kernel_rfl) (by decide) (fun K hK => ?_)
        obtain ⟨wd, hwd⟩ : ∃ wd, wd = w1.drew := ⟨_, rfl⟩
        have HBD : Hid (Below w.heap.size w wd) := Lib.hid (by rw [hwd]; exact HBA.out.drew)
        have HOD : Hid (wd.ownsRow w.heap.size 60 2 u3 k (flatR L (fun k => cut12 (R k)) k)) := Lib.hid (by rw [hwd]; exact pw_own_below HOA.out (Below.refl _ w1).drew)
        first | rw [← hwd] | skip
        clear d0 d1 hHeld
        refine value_step (v := .slice (some ⟨wd.heap.size, 0, none⟩) 1 1) (w1 := wd.alloc (.cells #[.int .u8 l, .string (cut12 s)] 60)) (by rfl) rfl (by go_simp) ?_
        refine hK.out _ _ ?_
        clear hK K
        refine norm_ (a' := ?_) ?_ ?_
        rotate_left
        · show Act.put _ (some 22) _ = _; simp only [Act.put, List.setIfInBounds_toArray, List.set_cons_zero, List.set_cons_succ, i64_w, i32_w]; rfl
        have hbE := below_one (w := wd) (.cells #[.int .u8 l, .string (cut12 s)] 60)
        have HBE := Lib.hid (HBD.out.trans (hbE.mono HBD.out.size))
        have HOE := Lib.hid (pw_own_below HOD.out hbE)
        obtain ⟨i0, hi0, hz0, hz1, hz2⟩ := info_parts info60
        refine last_ (i := 8) (N := (some 23)) #[true, true, true, true, true, true, true, true, true, false] rfl rfl (by kernel_rfl) (by decide) (fun K hK => ?_)
        refine append_step (by rfl) rfl (.tmp 15) (.tmp 22) 27 rfl w.heap.size 60 i0 _ 2 24 Tryd.underlying27 hi0 hz0 hz1 hz2 rfl (by decide) u3 _ _ rfl HOE.out ⟨wd.heap.size, 0, none⟩ 1 1 [.int .u8 l, .string (cut12 s)] rfl rfl (two_new _ _ _ _) (by simp [Value.oneCell']) (by unfold maxLen; omega) (by omega) HBE.out.size ?_
        intro v1 w8 hown1 hgrow1
        have HO8 := Lib.hid hown1
        have HB8 := Lib.hid (own_growS HBE.out HOE.out hgrow1)
        clear hown1 hgrow1 hi0 hz0 hz1 hz2 hbE
        refine hK.out _ _ ?_
        clear hK K
        refine norm_ (a' := ?_) ?_ ?_
        rotate_left
        · show Act.put _ (some 23) _ = _; simp only [Act.put, List.setIfInBounds_toArray, List.set_cons_zero, List.set_cons_succ, i64_w, i32_w]; rfl
        refine pure_ (i := 9) (N := (some 3)) (v := ?_) (a' := ?_) #[true, true, true, true, true, true, true, true, true, true] rfl rfl (by kernel_rfl) (fun _ _ _ h => h) (Or.inl ⟨by rfl, ?_⟩) ?_ ?_
        rotate_left
        · intro w'; go_simp; first | done | with_reducible rfl
        rotate_left
        · simp only [Act.put, List.setIfInBounds_toArray, List.set_cons_zero, List.set_cons_succ, i64_w, i32_w]; rfl
        refine done_ (by kernel_rfl) ?_
        go_wp2_with fail
        refine ⟨⟨k + 1, by omega, by go_num, ?_, HB8⟩, by simp [intOf]; omega⟩
        rw [HM.out, flatR, HLS.out.1, HLS.out.2]
        exact HO8
      · have h11' : ¬ (k : Int) < 11 := by omega
        have hm1 : mnN (k + 1) 11 = mnN k 11 := by unfold mnN; rw [if_neg (by omega)]; split <;> omega
        have HM := Lib.hid hm1
        clear hm1
        go_wp2_with fail
        have hbA := below_one (w := wr) (.cells #[.int .u8 l, .string s] 44)
        have HBA := Lib.hid (HB.out.trans (hbA.mono HB.out.size))
        have HOA := Lib.hid (pw_own_below HO.out hbA)
        refine ⟨⟨k + 1, by omega, by go_num, ?_, HBA⟩, by simp [intOf]; omega⟩
        rw [HM.out]
        exact HOA
    · obtain rfl : k = n := by omega
      obtain ⟨A', c', rfl, hS⟩ := Sr.of_own HO.out
      have HS := Lib.hid hS
      clear hS HO
      go_wp2
      go_ret
      exact ⟨⟨A', c', rfl, HS.out⟩, HB.out⟩
end Go.Proofs.YtjpfalanoifpbaaDoor.X
end

section
set_option linter.unusedVariables false
set_option linter.unusedSimpArgs false
namespace Go.Proofs.YtjpfalanoifpbaaDoor.X
open Go.RowKit Go.Proofs.YtjpfalanoifpbaaDoorW.PrintWords Go.Proofs.YtjpfalanoifpbaaDoorW.PrintLast Go.Proofs.YtjpfalanoifpbaaDoorW.PrintMore Go.Proofs.YtjpfalanoifpbaaDoor.T
theorem five_load {w : World} {g : Nat} {F : Nat → Nat} {t : TypeId} (h : w.heap[g]? = some (.cells (cells5 F) t (0, 0))) : w.cell? ⟨g, 0, none⟩ = some (.int .i64 (F 0)) ∧ w.cell? ⟨g, 1, none⟩ = some (.int .i64 (F 1)) ∧ w.cell? ⟨g, 2, none⟩ = some (.int .i64 (F 2)) ∧ w.cell? ⟨g, 3, none⟩ = some (.int .i64 (F 3)) ∧ w.cell? ⟨g, 4, none⟩ = some (.int .i64 (F 4)) :=
  ⟨five_at h (by decide), five_at h (by decide), five_at h (by decide), five_at h (by decide), five_at h (by decide)⟩
set_option maxHeartbeats 8000000 in
set_option maxRecDepth 100000 in
theorem First_yes (A : Option Addr) (n c : Nat) (L : Nat → Int) (R : Nat → ByteArray) (w : World) (hA : Sr w A n c L R) (hg : Gram L R n) :
    Calls Tryd.prog 17 #[.slice A n c] w fun e w' => e = .returned (.tuple #[agg5 (firstN L R n), .int .i64 0]) ∧ Below w.heap.size w w' := by
  have HA := Lib.hid hA
  have HG := Lib.hid hg
  have h8 := hg.1.2
  have h4 : ∀ k, k < n → (R k).size ≤ 1000 := fun k hk => Nat.le_trans (hg.2 k hk).sz (by decide)
  have HV := Lib.hid fun (w : World) (h : Sr w A n c L R) => valid_calls A n c L R w h (by omega) h4 true (by simp [hg])
  clear hA hg h4
  go_enter Tryd.func17, Tryd.ntmps17
  go_wp2_with fail
  have hbA := below_one (w := w) (.cells (cells5 fun _ => 0) 23)
  have hkA := blk_new w (.cells (cells5 fun _ => 0) 23)
  obtain ⟨w0, hw0⟩ : ∃ w0, w0 = w.alloc (.cells (cells5 fun _ => 0) 23) := ⟨_, rfl⟩
  rw [← hw0] at hbA hkA
  unfold cells5 at hw0
  rw [show ((0 : Nat) : Int) = 0 from rfl] at hw0
  rw [← hw0]
  refine (HV.out w0 (HA.out.later hbA)).mono ?_
  rintro e w1 ⟨rfl, hb1⟩
  have hb := hbA.trans (hb1.mono hbA.size)
  have hk1 := (hb1.block _ (Array.getElem?_eq_some_iff.1 hkA).1).trans hkA
  have HB := Lib.hid hb
  have HK := Lib.hid hk1
  clear hb hk1 hb1 hbA hkA hw0
  go_wp2_with fail
  refine (first_calls A n c L R w1 (HA.out.later HB.out) HG.out.gr).mono ?_
  rintro e w2 ⟨rfl, hb2⟩
  have HB2 := Lib.hid (HB.out.trans (hb2.mono HB.out.size))
  have HK2 := Lib.hid ((hb2.block _ (Array.getElem?_eq_some_iff.1 HK.out).1).trans HK.out)
  clear hb2 HB HK
  obtain ⟨F, hFF⟩ : ∃ F, firstN L R n = F := ⟨_, rfl⟩
  rw [hFF]
  have HFF := Lib.hid hFF
  clear hFF
  unfold agg5
  have HLO : Hid (w.heap.size ≤ w.heap.size) := Lib.hid (Nat.le_refl _)
  obtain ⟨x0, x1, x2, x3, x4⟩ := five_load HK2.out
  have z0 := blk_frozen HK2.out 0
  have z1 := blk_frozen HK2.out 1
  have z2 := blk_frozen HK2.out 2
  have z3 := blk_frozen HK2.out 3
  have z4 := blk_frozen HK2.out 4
  go_wp2
  have n1 := five_fill (F := F) HK2.out
  have n2 := fill_below (F := F) HB2.out HLO.out
  unfold fill5 at n1 n2
  clear x0 x1 x2 x3 x4 z0 z1 z2 z3 z4
  generalize ((((w2.setCell ⟨w.heap.size, 0, none⟩ (.int .i64 (F 0))).setCell ⟨w.heap.size, 1, none⟩ (.int .i64 (F 1))).setCell ⟨w.heap.size, 2, none⟩ (.int .i64 (F 2))).setCell ⟨w.heap.size, 3, none⟩ (.int .i64 (F 3))).setCell ⟨w.heap.size, 4, none⟩ (.int .i64 (F 4)) = W5 at n1 n2 ⊢
  obtain ⟨x0, x1, x2, x3, x4⟩ := five_load n1
  exact bodyPost_ret (v := .tuple #[agg5 F, .int .i64 0]) (by simp [results, Tryd.f17, go_sem, agg5, x0, x1, x2, x3, x4]) rfl ⟨by rw [HFF.out], n2⟩
set_option maxHeartbeats 8000000 in
set_option maxRecDepth 100000 in
theorem First_no (A : Option Addr) (n c : Nat) (L : Nat → Int) (R : Nat → ByteArray) (w : World) (hA : Sr w A n c L R) (hn : n ≤ 1000) (hsz : ∀ k, k < n → (R k).size ≤ 1000) (hg : ¬ Gram L R n) :
    Calls Tryd.prog 17 #[.slice A n c] w fun e w' => e = .returned (.tuple #[agg5 (fun _ => 0), .int .i64 2]) ∧ Below w.heap.size w w' := by
  have HA := Lib.hid hA
  have HV := Lib.hid fun (w : World) (h : Sr w A n c L R) => valid_calls A n c L R w h hn hsz false (by simp [hg])
  clear hA hg hsz
  go_enter Tryd.func17, Tryd.ntmps17
  go_wp2_with fail
  have hbA := below_one (w := w) (.cells (cells5 fun _ => 0) 23)
  have hkA := blk_new w (.cells (cells5 fun _ => 0) 23)
  obtain ⟨w0, hw0⟩ : ∃ w0, w0 = w.alloc (.cells (cells5 fun _ => 0) 23) := ⟨_, rfl⟩
  rw [← hw0] at hbA hkA
  unfold cells5 at hw0
  rw [show ((0 : Nat) : Int) = 0 from rfl] at hw0
  rw [← hw0]
  refine (HV.out w0 (HA.out.later hbA)).mono ?_
  rintro e w2 ⟨rfl, hb1⟩
  have hb := hbA.trans (hb1.mono hbA.size)
  have hk1 := (hb1.block _ (Array.getElem?_eq_some_iff.1 hkA).1).trans hkA
  have HB2 := Lib.hid hb
  have HK2 := Lib.hid hk1
  clear hb hk1 hb1 hbA hkA hw0
  have HLO : Hid (w.heap.size ≤ w.heap.size) := Lib.hid (Nat.le_refl _)
  obtain ⟨F, hF⟩ : ∃ F : Nat → Nat, F = fun _ => 0 := ⟨_, rfl⟩
  have hF0 : ((F 0 : Nat) : Int) = 0 ∧ ((F 1 : Nat) : Int) = 0 ∧ ((F 2 : Nat) : Int) = 0 ∧ ((F 3 : Nat) : Int) = 0 ∧ ((F 4 : Nat) : Int) = 0 := by rw [hF]; exact ⟨rfl, rfl, rfl, rfl, rfl⟩
  have HF0 := Lib.hid hF0
  obtain ⟨x0, x1, x2, x3, x4⟩ := five_load HK2.out
  have z0 := blk_frozen HK2.out 0
  have z1 := blk_frozen HK2.out 1
  have z2 := blk_frozen HK2.out 2
  have z3 := blk_frozen HK2.out 3
  have z4 := blk_frozen HK2.out 4
  have HFF := Lib.hid hF
  clear hF hF0
  go_wp2
  have n1 := five_fill (F := F) HK2.out
  have n2 := fill_below (F := F) HB2.out HLO.out
  unfold fill5 at n1 n2
  rw [HF0.out.1, HF0.out.2.1, HF0.out.2.2.1, HF0.out.2.2.2.1, HF0.out.2.2.2.2] at n1 n2
  clear x0 x1 x2 x3 x4 z0 z1 z2 z3 z4
  generalize ((((w2.setCell ⟨w.heap.size, 0, none⟩ (.int .i64 0)).setCell ⟨w.heap.size, 1, none⟩ (.int .i64 0)).setCell ⟨w.heap.size, 2, none⟩ (.int .i64 0)).setCell ⟨w.heap.size, 3, none⟩ (.int .i64 0)).setCell ⟨w.heap.size, 4, none⟩ (.int .i64 0) = W5 at n1 n2 ⊢
  obtain ⟨x0, x1, x2, x3, x4⟩ := five_load n1
  refine bodyPost_ret (v := .tuple #[agg5 F, .int .i64 2]) (by simp [results, Tryd.f17, go_sem, agg5, x0, x1, x2, x3, x4]) rfl ⟨?_, n2⟩
  rw [HFF.out]
set_option maxHeartbeats 8000000 in
set_option maxRecDepth 100000 in
theorem Next_yes (A : Option Addr) (n c : Nat) (L : Nat → Int) (R : Nat → ByteArray) (w : World) (hA : Sr w A n c L R) (hg : Gram L R n) :
    Calls Tryd.prog 19 #[.slice A n c] w fun e w' => e = .returned (.tuple #[agg5 (nextN L R n 25), .int .i64 0]) ∧ Below w.heap.size w w' := by
  have HA := Lib.hid hA
  have HG := Lib.hid hg
  have h8 := hg.1.2
  have h4 : ∀ k, k < n → (R k).size ≤ 1000 := fun k hk => Nat.le_trans (hg.2 k hk).sz (by decide)
  have HV := Lib.hid fun (w : World) (h : Sr w A n c L R) => valid_calls A n c L R w h (by omega) h4 true (by simp [hg])
  clear hA hg h4
  go_enter Tryd.func19, Tryd.ntmps19
  go_wp2_with fail
  have hbA := below_one (w := w) (.cells (cells5 fun _ => 0) 23)
  have hkA := blk_new w (.cells (cells5 fun _ => 0) 23)
  obtain ⟨w0, hw0⟩ : ∃ w0, w0 = w.alloc (.cells (cells5 fun _ => 0) 23) := ⟨_, rfl⟩
  rw [← hw0] at hbA hkA
  unfold cells5 at hw0
  rw [show ((0 : Nat) : Int) = 0 from rfl] at hw0
  rw [← hw0]
  refine (HV.out w0 (HA.out.later hbA)).mono ?_
  rintro e w1 ⟨rfl, hb1⟩
  have hb := hbA.trans (hb1.mono hbA.size)
  have hk1 := (hb1.block _ (Array.getElem?_eq_some_iff.1 hkA).1).trans hkA
  have HB := Lib.hid hb
  have HK := Lib.hid hk1
  clear hb hk1 hb1 hbA hkA hw0
  go_wp2_with fail
  refine (next_calls A n c L R w1 (HA.out.later HB.out) HG.out.gr).mono ?_
  rintro e w2 ⟨rfl, hb2⟩
  have HB2 := Lib.hid (HB.out.trans (hb2.mono HB.out.size))
  have HK2 := Lib.hid ((hb2.block _ (Array.getElem?_eq_some_iff.1 HK.out).1).trans HK.out)
  clear hb2 HB HK
  obtain ⟨F, hFF⟩ : ∃ F, nextN L R n 25 = F := ⟨_, rfl⟩
  rw [hFF]
  have HFF := Lib.hid hFF
  clear hFF
  unfold agg5
  have HLO : Hid (w.heap.size ≤ w.heap.size) := Lib.hid (Nat.le_refl _)
  obtain ⟨x0, x1, x2, x3, x4⟩ := five_load HK2.out
  have z0 := blk_frozen HK2.out 0
  have z1 := blk_frozen HK2.out 1
  have z2 := blk_frozen HK2.out 2
  have z3 := blk_frozen HK2.out 3
  have z4 := blk_frozen HK2.out 4
  go_wp2
  have n1 := five_fill (F := F) HK2.out
  have n2 := fill_below (F := F) HB2.out HLO.out
  unfold fill5 at n1 n2
  clear x0 x1 x2 x3 x4 z0 z1 z2 z3 z4
  generalize ((((w2.setCell ⟨w.heap.size, 0, none⟩ (.int .i64 (F 0))).setCell ⟨w.heap.size, 1, none⟩ (.int .i64 (F 1))).setCell ⟨w.heap.size, 2, none⟩ (.int .i64 (F 2))).setCell ⟨w.heap.size, 3, none⟩ (.int .i64 (F 3))).setCell ⟨w.heap.size, 4, none⟩ (.int .i64 (F 4)) = W5 at n1 n2 ⊢
  obtain ⟨x0, x1, x2, x3, x4⟩ := five_load n1
  exact bodyPost_ret (v := .tuple #[agg5 F, .int .i64 0]) (by simp [results, Tryd.f19, go_sem, agg5, x0, x1, x2, x3, x4]) rfl ⟨by rw [HFF.out], n2⟩
set_option maxHeartbeats 8000000 in
set_option maxRecDepth 100000 in
theorem Next_no (A : Option Addr) (n c : Nat) (L : Nat → Int) (R : Nat → ByteArray) (w : World) (hA : Sr w A n c L R) (hn : n ≤ 1000) (hsz : ∀ k, k < n → (R k).size ≤ 1000) (hg : ¬ Gram L R n) :
    Calls Tryd.prog 19 #[.slice A n c] w fun e w' => e = .returned (.tuple #[agg5 (fun _ => 0), .int .i64 2]) ∧ Below w.heap.size w w' := by
  have HA := Lib.hid hA
  have HV := Lib.hid fun (w : World) (h : Sr w A n c L R) => valid_calls A n c L R w h hn hsz false (by simp [hg])
  clear hA hg hsz
  go_enter Tryd.func19, Tryd.ntmps19
  go_wp2_with fail
  have hbA := below_one (w := w) (.cells (cells5 fun _ => 0) 23)
  have hkA := blk_new w (.cells (cells5 fun _ => 0) 23)
  obtain ⟨w0, hw0⟩ : ∃ w0, w0 = w.alloc (.cells (cells5 fun _ => 0) 23) := ⟨_, rfl⟩
  rw [← hw0] at hbA hkA
  unfold cells5 at hw0
  rw [show ((0 : Nat) : Int) = 0 from rfl] at hw0
  rw [← hw0]
  refine (HV.out w0 (HA.out.later hbA)).mono ?_
  rintro e w2 ⟨rfl, hb1⟩
  have hb := hbA.trans (hb1.mono hbA.size)
  have hk1 := (hb1.block _ (Array.getElem?_eq_some_iff.1 hkA).1).trans hkA
  have HB2 := Lib.hid hb
  have HK2 := Lib.hid hk1
  clear hb hk1 hb1 hbA hkA hw0
  have HLO : Hid (w.heap.size ≤ w.heap.size) := Lib.hid (Nat.le_refl _)
  obtain ⟨F, hF⟩ : ∃ F : Nat → Nat, F = fun _ => 0 := ⟨_, rfl⟩
  have hF0 : ((F 0 : Nat) : Int) = 0 ∧ ((F 1 : Nat) : Int) = 0 ∧ ((F 2 : Nat) : Int) = 0 ∧ ((F 3 : Nat) : Int) = 0 ∧ ((F 4 : Nat) : Int) = 0 := by rw [hF]; exact ⟨rfl, rfl, rfl, rfl, rfl⟩
  have HF0 := Lib.hid hF0
  obtain ⟨x0, x1, x2, x3, x4⟩ := five_load HK2.out
  have z0 := blk_frozen HK2.out 0
  have z1 := blk_frozen HK2.out 1
  have z2 := blk_frozen HK2.out 2
  have z3 := blk_frozen HK2.out 3
  have z4 := blk_frozen HK2.out 4
  have HFF := Lib.hid hF
  clear hF hF0
  go_wp2
  have n1 := five_fill (F := F) HK2.out
  have n2 := fill_below (F := F) HB2.out HLO.out
  unfold fill5 at n1 n2
  rw [HF0.out.1, HF0.out.2.1, HF0.out.2.2.1, HF0.out.2.2.2.1, HF0.out.2.2.2.2] at n1 n2
  clear x0 x1 x2 x3 x4 z0 z1 z2 z3 z4
  generalize ((((w2.setCell ⟨w.heap.size, 0, none⟩ (.int .i64 0)).setCell ⟨w.heap.size, 1, none⟩ (.int .i64 0)).setCell ⟨w.heap.size, 2, none⟩ (.int .i64 0)).setCell ⟨w.heap.size, 3, none⟩ (.int .i64 0)).setCell ⟨w.heap.size, 4, none⟩ (.int .i64 0) = W5 at n1 n2 ⊢
  obtain ⟨x0, x1, x2, x3, x4⟩ := five_load n1
  refine bodyPost_ret (v := .tuple #[agg5 F, .int .i64 2]) (by simp [results, Tryd.f19, go_sem, agg5, x0, x1, x2, x3, x4]) rfl ⟨?_, n2⟩
  rw [HFF.out]
set_option maxHeartbeats 8000000 in
set_option maxRecDepth 100000 in
theorem Empty_yes (A : Option Addr) (n c : Nat) (L : Nat → Int) (R : Nat → ByteArray) (w : World) (hA : Sr w A n c L R) (hg : Gram L R n) :
    Calls Tryd.prog 20 #[.slice A n c] w fun e w' => e = .returned (.tuple #[.int .i64 (emptyN L R n : Nat), .int .i64 0]) ∧ Below w.heap.size w w' := by
  have HA := Lib.hid hA
  have HG := Lib.hid hg
  have h8 := hg.1.2
  have h4 : ∀ k, k < n → (R k).size ≤ 1000 := fun k hk => Nat.le_trans (hg.2 k hk).sz (by decide)
  have HV := Lib.hid fun (w : World) (h : Sr w A n c L R) => valid_calls A n c L R w h (by omega) h4 true (by simp [hg])
  clear hA hg h4
  go_enter Tryd.func20, Tryd.ntmps20
  go_wp2_with fail
  refine (HV.out w HA.out).mono ?_
  rintro e w1 ⟨rfl, hb1⟩
  have HB := Lib.hid hb1
  clear hb1
  go_wp2_with fail
  refine (empty_calls A n c L R w1 (HA.out.later HB.out) HG.out.gr).mono ?_
  rintro e w2 ⟨rfl, hb2⟩
  have HB2 := Lib.hid (HB.out.trans (hb2.mono HB.out.size))
  clear hb2 HB
  go_wp2
  go_ret2
  exact ⟨rfl, HB2.out⟩
set_option maxHeartbeats 8000000 in
set_option maxRecDepth 100000 in
theorem Empty_no (A : Option Addr) (n c : Nat) (L : Nat → Int) (R : Nat → ByteArray) (w : World) (hA : Sr w A n c L R) (hn : n ≤ 1000) (hsz : ∀ k, k < n → (R k).size ≤ 1000) (hg : ¬ Gram L R n) :
    Calls Tryd.prog 20 #[.slice A n c] w fun e w' => e = .returned (.tuple #[.int .i64 0, .int .i64 2]) ∧ Below w.heap.size w w' := by
  have HA := Lib.hid hA
  have HV := Lib.hid fun (w : World) (h : Sr w A n c L R) => valid_calls A n c L R w h hn hsz false (by simp [hg])
  clear hA hg hsz
  go_enter Tryd.func20, Tryd.ntmps20
  go_wp2_with fail
  refine (HV.out w HA.out).mono ?_
  rintro e w1 ⟨rfl, hb1⟩
  have HB := Lib.hid hb1
  clear hb1
  go_wp2
  go_ret2
  exact ⟨rfl, HB.out⟩
end Go.Proofs.YtjpfalanoifpbaaDoor.X
end

section
set_option linter.unusedVariables false
set_option linter.unusedSimpArgs false
namespace Go.Proofs.YtjpfalanoifpbaaDoor.X
open Go.RowKit Go.Proofs.YtjpfalanoifpbaaDoorW.PrintWords Go.Proofs.YtjpfalanoifpbaaDoorW.PrintLast Go.Proofs.YtjpfalanoifpbaaDoorW.PrintMore Go.Proofs.YtjpfalanoifpbaaDoor.T
def sB : ByteArray := ⟨#[98]⟩
theorem sB_ch : ch sB 0 = 98 := by decide
theorem sB_size : sB.size = 1 := rfl
theorem beg_B (F : Nat → Nat) (E : Nat) : beg F E sB 0 0 = (2, false) := by
  rw [beg, if_pos (by decide), sB_ch, if_neg (by decide)]
  rfl
theorem first_B : firstN (fun _ => 65) (fun _ => sB) 1 = fun j => if j = 0 then 2 else 0 := by
  have hT : ∀ E F, fTo (fun _ => 65) (fun _ => sB) E F 1 = upd F 0 2 := fun E F => by
    rw [fTo, fTo, beg_B]
    rfl
  have key : ∀ E m, rep (fun F => fTo (fun _ => 65) (fun _ => sB) E F 1) (m + 1) (fun _ => 0) = fun j => if j = 0 then 2 else 0 := by
    intro E m
    induction m with
    | zero =>
      rw [rep, rep, hT]
      funext j
      unfold upd
      split <;> simp_all
    | succ m ih =>
      rw [rep, ih, hT]
      funext j
      unfold upd
      split <;> simp_all
  exact key _ 24
theorem five_eq23 (a b c d e : Int) (w : World) : (Op.equalIn 10000 23 (.agg #[.int .i64 a, .int .i64 b, .int .i64 c, .int .i64 d, .int .i64 e]) (.agg #[.int .i64 a, .int .i64 b, .int .i64 c, .int .i64 d, .int .i64 e])).run Tryd.prog w = .ok true w := by
  have u3 := Tryd.underlying3
  have a3 := Tryd.isAgg3
  have z3 := Tryd.sizeOf3
  rw [show (10000 : Nat) = 9999 + 1 from rfl, Op.equalIn]
  simp only [Sem.run_bind, run_underlying Tryd.underlying23, Result.andThen_ok]
  simp only [Std.Legacy.Range.forIn_eq_forIn_range', Std.Legacy.Range.size, Nat.sub_zero, Nat.add_sub_cancel, Nat.div_one, List.range'_succ, List.range'_zero, List.forIn_cons, List.forIn_nil]
  go_simp
theorem gram_B : Gram (fun _ => 65) (fun _ => sB) 1 := by
  refine ⟨by omega, fun k hk => ⟨by decide, by rw [sB_size]; omega, fun i hi => ?_, fun j hj => by omega⟩⟩
  rw [sB_size] at hi
  obtain rfl : i = 0 := by omega
  exact .inr (by decide)
set_option maxHeartbeats 4000000 in
set_option maxRecDepth 100000 in
theorem awake_calls (w : World) : Calls Tryd.prog 22 #[] w fun e w' => e = .returned (.bool true) ∧ Below w.heap.size w w' := by
  go_enter Tryd.func22, Tryd.ntmps22
  go_wp2_with fail
  have hbA := below_one (w := w) (.cells #[.int .u8 65, .string sB] 60)
  obtain ⟨d0, d1⟩ := rule_new w 60 65 sB
  obtain ⟨w0, hw0⟩ : ∃ w0, w0 = w.alloc (.cells #[.int .u8 65, .string sB] 60) := ⟨_, rfl⟩
  rw [← hw0] at hbA d0 d1
  unfold sB at hw0
  rw [← hw0]
  have hS : Sr w0 (some ⟨w.heap.size, 0, none⟩) 1 1 (fun _ => 65) (fun _ => sB) := .inr ⟨w.heap.size, 0, rfl, Nat.le_refl _, fun i hi => by
    obtain rfl : i = 0 := by omega
    exact d0, fun i hi => by
    obtain rfl : i = 0 := by omega
    exact d1⟩
  refine (First_yes _ 1 1 _ _ w0 hS gram_B).mono ?_
  rintro e w1 ⟨rfl, hb1⟩
  have HB := Lib.hid (hbA.trans (hb1.mono hbA.size))
  rw [first_B]
  clear hw0 hb1 hbA d0 d1 hS
  unfold agg5
  have h23 : Tryd.prog.eqGuardType Tryd.prog.depth 23 = false := by kernel_rfl
  have q23 := five_eq23 2 0 0 0 0
  go_wp2
  have hbA := below_one (w := w1) (.cells (cells5 fun j => if j = 0 then 2 else 0) 23)
  simp [cells5] at hbA
  have HB2 := Lib.hid (HB.out.trans (hbA.mono HB.out.size))
  go_ret
  exact ⟨rfl, HB2.out⟩
end Go.Proofs.YtjpfalanoifpbaaDoor.X
end

section
set_option linter.unusedVariables false
set_option linter.unusedSimpArgs false
namespace Go.Proofs.YtjpfalanoifpbaaDoor.X
open Go.RowKit Go.Proofs.YtjpfalanoifpbaaDoorW.PrintWords Go.Proofs.YtjpfalanoifpbaaDoorW.PrintLast Go.Proofs.YtjpfalanoifpbaaDoorW.PrintMore Go.Proofs.YtjpfalanoifpbaaDoor.T
theorem Sr.congr {w : World} {A : Option Addr} {n c : Nat} {L : Nat → Int} {R R' : Nat → ByteArray} (h : Sr w A n c L R') (hR : ∀ k, k < n → R' k = R k) : Sr w A n c L R := by
  rcases h with h | ⟨b, off, h1, h2, h3⟩
  · exact .inl h
  · exact .inr ⟨b, off, h1, h2, h3.c0, fun i hi => by rw [← hR i hi]; exact h3.c1 i hi⟩
theorem Gram.congr {n : Nat} {L : Nat → Int} {R R' : Nat → ByteArray} (h : Gram L R' n) (hR : ∀ k, k < n → R' k = R k) : Gram L R n := by
  refine ⟨h.1, fun k hk => ?_⟩
  have q := h.2 k hk
  refine ⟨q.p, by rw [← hR k hk]; exact q.sz, by rw [← hR k hk]; exact q.ok, fun j hj => ?_⟩
  rw [← hR k hk, ← hR j (by omega)]
  exact q.new j hj
theorem mnN_le (a b : Nat) : mnN a b ≤ a ∧ mnN a b ≤ b := by unfold mnN; split <;> omega
theorem cut_gram {n : Nat} {L : Nat → Int} {R : Nat → ByteArray} (h : Gram L (fun k => cut12 (R k)) (mnN n 11)) : Gram L R n := by
  have h8 := h.1
  have hn : mnN n 11 = n := by unfold mnN at h8 ⊢; split <;> simp_all <;> omega
  rw [hn] at h
  refine h.congr fun k hk => cut12_self ?_
  have := (h.2 k hk).sz
  simp only [cut12_size] at this
  unfold mnN at this
  split at this <;> omega
theorem gram_cut {n : Nat} {L : Nat → Int} {R : Nat → ByteArray} (h : Gram L R n) : mnN n 11 = n ∧ ∀ k, k < n → cut12 (R k) = R k := by
  have h8 := h.1
  refine ⟨by unfold mnN; split <;> omega, fun k hk => cut12_self (Nat.le_trans (h.2 k hk).sz (by decide))⟩
theorem Of_yes (A : Option Addr) (n c : Nat) (L : Nat → Int) (R : Nat → ByteArray) (w : World) (hA : Sr w A n c L R) (hn : n ≤ 9223372036854775807) (hR : ∀ k, k < n → (R k).size ≤ 9223372036854775807) (hg : Gram L R n) :
    Calls Tryd.prog 18 #[.slice A n c] w fun e w' => (∃ A' c', e = .returned (.slice A' n c') ∧ Sr w' A' n c' L R) ∧ Below w.heap.size w w' := by
  refine (Of_calls A n c L R w hA hn hR).mono ?_
  obtain ⟨h1, h2⟩ := gram_cut hg
  rintro e w1 ⟨⟨A', c', rfl, hS⟩, hb⟩
  rw [h1] at hS ⊢
  exact ⟨⟨A', c', rfl, hS.congr h2⟩, hb⟩
set_option maxHeartbeats 8000000 in
set_option maxRecDepth 100000 in
theorem First_law_no (A : Option Addr) (n c : Nat) (L : Nat → Int) (R : Nat → ByteArray) (w : World) (hA : Sr w A n c L R) (hn : n ≤ 9223372036854775807) (hR : ∀ k, k < n → (R k).size ≤ 9223372036854775807) (hg : ¬ Gram L R n) :
    Calls Tryd.prog 3 #[.slice A n c] w fun e w' => e = .returned (.bool true) ∧ Below w.heap.size w w' := by
  have HO := Lib.hid (fun (w : World) (h : Sr w A n c L R) => Of_calls A n c L R w h hn hR)
  have HG := Lib.hid (fun (w : World) (h : Sr w A n c L R) => Grammar_calls A n c L R w h hn false (by simp [hg]))
  have hng : ¬ Gram L (fun k => cut12 (R k)) (mnN n 11) := fun q => hg (cut_gram q)
  have hsz : ∀ k, k < mnN n 11 → (cut12 (R k)).size ≤ 1000 := fun k _ => by rw [cut12_size]; have := mnN_le (R k).size 12; omega
  have h11 := mnN_le n 11
  have HF := Lib.hid (fun (A' : Option Addr) (c' : Nat) (w : World) h => First_no A' (mnN n 11) c' L (fun k => cut12 (R k)) w h (by omega) hsz hng)
  have HN := Lib.hid (fun (A' : Option Addr) (c' : Nat) (w : World) h => Next_no A' (mnN n 11) c' L (fun k => cut12 (R k)) w h (by omega) hsz hng)
  have HE := Lib.hid (fun (A' : Option Addr) (c' : Nat) (w : World) h => Empty_no A' (mnN n 11) c' L (fun k => cut12 (R k)) w h (by omega) hsz hng)
  have HA := Lib.hid hA
  clear hA hR hg hng hsz h11
  generalize mnN n 11 = m at HO HF HN HE
  go_enter Tryd.func3, Tryd.ntmps3
  go_wp2_with fail
  refine (HO.out w HA.out).mono ?_
  rintro e w1 ⟨⟨A1, c1, rfl, hS1⟩, hb1⟩
  have HB1 := Lib.hid hb1
  have HS1 := Lib.hid hS1
  clear hb1 hS1
  go_wp2_with fail
  refine (HF.out A1 c1 w1 HS1.out).mono ?_
  rintro e w2 ⟨rfl, hb2⟩
  have HB2 := Lib.hid (HB1.out.trans (hb2.mono HB1.out.size))
  clear hb2 HB1 HS1
  unfold agg5
  go_wp2_with fail
  have hb3 := below_one (w := w2) (.cells (cells5 fun _ => 0) 23)
  have hk3 := blk_new w2 (.cells (cells5 fun _ => 0) 23)
  obtain ⟨w3, hw3⟩ : ∃ w3, w3 = w2.alloc (.cells (cells5 fun _ => 0) 23) := ⟨_, rfl⟩
  rw [← hw3] at hb3 hk3
  unfold cells5 at hw3
  rw [show ((0 : Nat) : Int) = 0 from rfl] at hw3
  rw [← hw3]
  have HB3 := Lib.hid (HB2.out.trans (hb3.mono HB2.out.size))
  have HK3 := Lib.hid hk3
  clear hb3 hk3 hw3 HB2
  generalize w2.heap.size = g3 at HK3 ⊢
  refine (HO.out w3 (HA.out.later HB3.out)).mono ?_
  rintro e w4 ⟨⟨A4, c4, rfl, hS4⟩, hb4⟩
  have HB4 := Lib.hid (HB3.out.trans (hb4.mono HB3.out.size))
  have HS4 := Lib.hid hS4
  have HK4 := Lib.hid ((hb4.block _ (Array.getElem?_eq_some_iff.1 HK3.out).1).trans HK3.out)
  clear hb4 hS4 HB3 HK3
  go_wp2_with fail
  refine (HN.out A4 c4 w4 HS4.out).mono ?_
  rintro e w5 ⟨rfl, hb5⟩
  have HB5 := Lib.hid (HB4.out.trans (hb5.mono HB4.out.size))
  have HK5 := Lib.hid ((hb5.block _ (Array.getElem?_eq_some_iff.1 HK4.out).1).trans HK4.out)
  clear hb5 HB4 HS4 HK4
  unfold agg5
  go_wp2_with fail
  have hb6 := below_one (w := w5) (.cells (cells5 fun _ => 0) 23)
  have hk6 := blk_new w5 (.cells (cells5 fun _ => 0) 23)
  obtain ⟨w6, hw6⟩ : ∃ w6, w6 = w5.alloc (.cells (cells5 fun _ => 0) 23) := ⟨_, rfl⟩
  rw [← hw6] at hb6 hk6
  unfold cells5 at hw6
  rw [show ((0 : Nat) : Int) = 0 from rfl] at hw6
  rw [← hw6]
  have HB6 := Lib.hid (HB5.out.trans (hb6.mono HB5.out.size))
  have HK6 := Lib.hid ((hb6.block _ (Array.getElem?_eq_some_iff.1 HK5.out).1).trans HK5.out)
  have HJ6 := Lib.hid hk6
  clear hb6 hk6 hw6 HB5 HK5
  generalize w5.heap.size = g6 at HJ6 ⊢
  refine (HO.out w6 (HA.out.later HB6.out)).mono ?_
  rintro e w7 ⟨⟨A7, c7, rfl, hS7⟩, hb7⟩
  have HB7 := Lib.hid (HB6.out.trans (hb7.mono HB6.out.size))
  have HS7 := Lib.hid hS7
  have HK7 := Lib.hid ((hb7.block _ (Array.getElem?_eq_some_iff.1 HK6.out).1).trans HK6.out)
  have HJ7 := Lib.hid ((hb7.block _ (Array.getElem?_eq_some_iff.1 HJ6.out).1).trans HJ6.out)
  clear hb7 hS7 HB6 HK6 HJ6
  go_wp2_with fail
  refine (HE.out A7 c7 w7 HS7.out).mono ?_
  rintro e w8 ⟨rfl, hb8⟩
  have HB8 := Lib.hid (HB7.out.trans (hb8.mono HB7.out.size))
  have HK8 := Lib.hid ((hb8.block _ (Array.getElem?_eq_some_iff.1 HK7.out).1).trans HK7.out)
  have HJ8 := Lib.hid ((hb8.block _ (Array.getElem?_eq_some_iff.1 HJ7.out).1).trans HJ7.out)
  clear hb8 HB7 HS7 HK7 HJ7
  go_wp2_with fail
  refine (HG.out w8 (HA.out.later HB8.out)).mono ?_
  rintro e w9 ⟨rfl, hb9⟩
  have HB9 := Lib.hid (HB8.out.trans (hb9.mono HB8.out.size))
  obtain ⟨x0, x1, x2, x3, x4⟩ := five_load ((hb9.block _ (Array.getElem?_eq_some_iff.1 HK8.out).1).trans HK8.out)
  obtain ⟨y0, y1, y2, y3, y4⟩ := five_load ((hb9.block _ (Array.getElem?_eq_some_iff.1 HJ8.out).1).trans HJ8.out)
  clear hb9 HB8 HK8 HJ8
  have h23 : Tryd.prog.eqGuardType Tryd.prog.depth 23 = false := by kernel_rfl
  have q23 := five_eq23 0 0 0 0 0
  go_wp2_with fail
  refine (awake_calls w9).mono ?_
  rintro e w10 ⟨rfl, hb10⟩
  have HB10 := Lib.hid (HB9.out.trans (hb10.mono HB9.out.size))
  clear hb10
  go_wp2
  go_ret
  exact ⟨rfl, HB10.out⟩
end Go.Proofs.YtjpfalanoifpbaaDoor.X
end

section
set_option linter.unusedVariables false
set_option linter.unusedSimpArgs false
namespace Go.Proofs.YtjpfalanoifpbaaDoor.X
open Go.RowKit Go.Proofs.YtjpfalanoifpbaaDoorW.PrintWords Go.Proofs.YtjpfalanoifpbaaDoorW.PrintLast Go.Proofs.YtjpfalanoifpbaaDoorW.PrintMore Go.Proofs.YtjpfalanoifpbaaDoor.T
set_option maxHeartbeats 16000000 in
set_option maxRecDepth 100000 in
theorem First_law_yes (A : Option Addr) (n c : Nat) (L : Nat → Int) (R : Nat → ByteArray) (w : World) (hA : Sr w A n c L R) (hn : n ≤ 9223372036854775807) (hR : ∀ k, k < n → (R k).size ≤ 9223372036854775807) (hg : Gram L R n) :
    Calls Tryd.prog 3 #[.slice A n c] w fun e w' => e = .returned (.bool true) ∧ Below w.heap.size w w' := by
  have HO := Lib.hid (fun (w : World) (h : Sr w A n c L R) => Of_yes A n c L R w h hn hR hg)
  have HG := Lib.hid (fun (w : World) (h : Sr w A n c L R) => Grammar_calls A n c L R w h hn true (by simp [hg]))
  have HF := Lib.hid (fun (A' : Option Addr) (c' : Nat) (w : World) h => First_yes A' n c' L R w h hg)
  have HN := Lib.hid (fun (A' : Option Addr) (c' : Nat) (w : World) h => Next_yes A' n c' L R w h hg)
  have HE := Lib.hid (fun (A' : Option Addr) (c' : Nat) (w : World) h => Empty_yes A' n c' L R w h hg)
  have HRF := Lib.hid (fun (A' : Option Addr) (c' : Nat) (w : World) h => rFirst_calls A' n c' L R w h hg.gr)
  have HRN := Lib.hid (fun (A' : Option Addr) (c' : Nat) (w : World) h => rNext_calls A' n c' L R w h hg.gr)
  have HRE := Lib.hid (fun (A' : Option Addr) (c' : Nat) (w : World) h => rEmpty_calls A' n c' L R w h hg.gr)
  rw [next_stands hg.gr.ok hg.gr.n1] at HRN
  generalize firstN L R n = F1 at HF HRF
  generalize nextN L R n 25 = F2 at HN HRN
  generalize emptyN L R n = E0 at HE HRE
  have HA := Lib.hid hA
  clear hA hR hg
  go_enter Tryd.func3, Tryd.ntmps3
  go_wp2_with fail
  refine (HO.out w HA.out).mono ?_
  rintro e w1 ⟨⟨A1, c1, rfl, hS1⟩, hb1⟩
  have HB1 := Lib.hid hb1
  have HS1 := Lib.hid hS1
  clear hb1 hS1
  go_wp2_with fail
  refine (HF.out A1 c1 w1 HS1.out).mono ?_
  rintro e w2 ⟨rfl, hb2⟩
  have HB2 := Lib.hid (HB1.out.trans (hb2.mono HB1.out.size))
  clear hb2 HB1 HS1
  unfold agg5
  go_wp2_with fail
  have hb3 := below_one (w := w2) (.cells (cells5 F1) 23)
  have hk3 := blk_new w2 (.cells (cells5 F1) 23)
  obtain ⟨w3, hw3⟩ : ∃ w3, w3 = w2.alloc (.cells (cells5 F1) 23) := ⟨_, rfl⟩
  rw [← hw3] at hb3 hk3
  unfold cells5 at hw3
  rw [← hw3]
  have HB3 := Lib.hid (HB2.out.trans (hb3.mono HB2.out.size))
  have HK3 := Lib.hid hk3
  clear hb3 hk3 hw3 HB2
  generalize w2.heap.size = g3 at HK3 ⊢
  refine (HO.out w3 (HA.out.later HB3.out)).mono ?_
  rintro e w4 ⟨⟨A4, c4, rfl, hS4⟩, hb4⟩
  have HB4 := Lib.hid (HB3.out.trans (hb4.mono HB3.out.size))
  have HS4 := Lib.hid hS4
  have HK4 := Lib.hid ((hb4.block _ (Array.getElem?_eq_some_iff.1 HK3.out).1).trans HK3.out)
  clear hb4 hS4 HB3 HK3
  go_wp2_with fail
  refine (HN.out A4 c4 w4 HS4.out).mono ?_
  rintro e w5 ⟨rfl, hb5⟩
  have HB5 := Lib.hid (HB4.out.trans (hb5.mono HB4.out.size))
  have HK5 := Lib.hid ((hb5.block _ (Array.getElem?_eq_some_iff.1 HK4.out).1).trans HK4.out)
  clear hb5 HB4 HS4 HK4
  unfold agg5
  go_wp2_with fail
  have hb6 := below_one (w := w5) (.cells (cells5 F2) 23)
  have hk6 := blk_new w5 (.cells (cells5 F2) 23)
  obtain ⟨w6, hw6⟩ : ∃ w6, w6 = w5.alloc (.cells (cells5 F2) 23) := ⟨_, rfl⟩
  rw [← hw6] at hb6 hk6
  unfold cells5 at hw6
  rw [← hw6]
  have HB6 := Lib.hid (HB5.out.trans (hb6.mono HB5.out.size))
  have HK6 := Lib.hid ((hb6.block _ (Array.getElem?_eq_some_iff.1 HK5.out).1).trans HK5.out)
  have HJ6 := Lib.hid hk6
  clear hb6 hk6 hw6 HB5 HK5
  generalize w5.heap.size = g6 at HJ6 ⊢
  refine (HO.out w6 (HA.out.later HB6.out)).mono ?_
  rintro e w7 ⟨⟨A7, c7, rfl, hS7⟩, hb7⟩
  have HB7 := Lib.hid (HB6.out.trans (hb7.mono HB6.out.size))
  have HS7 := Lib.hid hS7
  have HK7 := Lib.hid ((hb7.block _ (Array.getElem?_eq_some_iff.1 HK6.out).1).trans HK6.out)
  have HJ7 := Lib.hid ((hb7.block _ (Array.getElem?_eq_some_iff.1 HJ6.out).1).trans HJ6.out)
  clear hb7 hS7 HB6 HK6 HJ6
  go_wp2_with fail
  refine (HE.out A7 c7 w7 HS7.out).mono ?_
  rintro e w8 ⟨rfl, hb8⟩
  have HB8 := Lib.hid (HB7.out.trans (hb8.mono HB7.out.size))
  have HK8 := Lib.hid ((hb8.block _ (Array.getElem?_eq_some_iff.1 HK7.out).1).trans HK7.out)
  have HJ8 := Lib.hid ((hb8.block _ (Array.getElem?_eq_some_iff.1 HJ7.out).1).trans HJ7.out)
  clear hb8 HB7 HS7 HK7 HJ7
  go_wp2_with fail
  refine (HG.out w8 (HA.out.later HB8.out)).mono ?_
  rintro e w9 ⟨rfl, hb9⟩
  have HB9 := Lib.hid (HB8.out.trans (hb9.mono HB8.out.size))
  have HK9 := Lib.hid ((hb9.block _ (Array.getElem?_eq_some_iff.1 HK8.out).1).trans HK8.out)
  have HJ9 := Lib.hid ((hb9.block _ (Array.getElem?_eq_some_iff.1 HJ8.out).1).trans HJ8.out)
  clear hb9 HB8 HK8 HJ8
  have h23 : Tryd.prog.eqGuardType Tryd.prog.depth 23 = false := by kernel_rfl
  have q23 := five_eq23 (F1 0) (F1 1) (F1 2) (F1 3) (F1 4)
  have r23 := five_eq23 (F2 0) (F2 1) (F2 2) (F2 3) (F2 4)
  go_wp2_with fail
  have HBd : Hid (Below w.heap.size w w9.drew) := Lib.hid HB9.out.drew
  have HKd : Hid (w9.drew.heap[g3]? = some (.cells (cells5 F1) 23 (0, 0))) := Lib.hid HK9.out
  have HJd : Hid (w9.drew.heap[g6]? = some (.cells (cells5 F2) 23 (0, 0))) := Lib.hid HJ9.out
  have HB0 := HBd
  have HK0 := HKd
  have HJ0 := HJd
  clear HBd HKd HJd HB9 HK9 HJ9
  refine start_ (n := 32) (S := fun w' => w'.cell? ⟨g3, 0, none⟩ = some (.int .i64 (F1 0)) ∧ w'.cell? ⟨g3, 1, none⟩ = some (.int .i64 (F1 1)) ∧ w'.cell? ⟨g3, 2, none⟩ = some (.int .i64 (F1 2)) ∧ w'.cell? ⟨g3, 3, none⟩ = some (.int .i64 (F1 3)) ∧ w'.cell? ⟨g3, 4, none⟩ = some (.int .i64 (F1 4)) ∧ w'.cell? ⟨g6, 0, none⟩ = some (.int .i64 (F2 0)) ∧ w'.cell? ⟨g6, 1, none⟩ = some (.int .i64 (F2 1)) ∧ w'.cell? ⟨g6, 2, none⟩ = some (.int .i64 (F2 2)) ∧ w'.cell? ⟨g6, 3, none⟩ = some (.int .i64 (F2 3)) ∧ w'.cell? ⟨g6, 4, none⟩ = some (.int .i64 (F2 4))) (ds := []) #[false, false, false, false, false, false, false, false, false, false, false, false, false, false, false, false, false, false, false, false, false, false, false, false, false, false, false, false, false, false, false, false] (by kernel_rfl) rfl rfl ⟨(five_load HK0.out).1, (five_load HK0.out).2.1, (five_load HK0.out).2.2.1, (five_load HK0.out).2.2.2.1, (five_load HK0.out).2.2.2.2, (five_load HJ0.out).1, (five_load HJ0.out).2.1, (five_load HJ0.out).2.2.1, (five_load HJ0.out).2.2.2.1, (five_load HJ0.out).2.2.2.2⟩ (fun hHeld => ?_)
  refine take_ (i := 0) (N := (some 57)) (v := ?_) (a' := ?_) #[true, false, false, false, false, false, false, false, false, false, false, false, false, false, false, false, false, false, false, false, false, false, false, false, false, false, false, false, false, false, false, false] rfl rfl (by kernel_rfl) (fun _ _ _ h => h) (Or.inl ⟨by rfl, ?_⟩) hHeld ?_ ?_
  rotate_left
  · rintro w' ⟨s0, s1, s2, s3, s4, s5, s6, s7, s8, s9⟩; go_simp; first | done | with_reducible rfl
  rotate_left
  · simp only [Act.put, List.setIfInBounds_toArray, List.set_cons_zero, List.set_cons_succ, i64_w, i32_w]; rfl
  refine pure_ (i := 1) (N := (some 58)) (v := ?_) (a' := ?_) #[true, true, false, false, false, false, false, false, false, false, false, false, false, false, false, false, false, false, false, false, false, false, false, false, false, false, false, false, false, false, false, false] rfl rfl (by kernel_rfl) (fun _ _ _ h => h) (Or.inl ⟨by rfl, ?_⟩) ?_ ?_
  rotate_left
  · intro w'; go_simp; first | done | with_reducible rfl
  rotate_left
  · simp only [Act.put, List.setIfInBounds_toArray, List.set_cons_zero, List.set_cons_succ, i64_w, i32_w]; rfl
  refine one_ (i := 2) (N := (some 59)) #[true, true, true, false, false, false, false, false, false, false, false, false, false, false, false, false, false, false, false, false, false, false, false, false, false, false, false, false, false, false, false, false] rfl rfl (by kernel_rfl) (by decide) (fun K hK => ?_)
  refine goes_ Tryd.func23 (by kernel_rfl) rfl #[.slice A n c] (by rfl) rfl rfl (by (try simp only [List.map_toArray, List.map_cons, List.map_nil]); first | done | rfl) ?_
  refine (HRF.out A c _ (HA.out.later HB0.out)).mono ?_
  rintro e w10 ⟨rfl, hb10⟩
  refine ⟨_, rfl, ?_⟩
  have HB10 := Lib.hid (HB0.out.trans (hb10.mono HB0.out.size))
  have HK10 := Lib.hid ((hb10.block _ (Array.getElem?_eq_some_iff.1 HK0.out).1).trans HK0.out)
  have HJ10 := Lib.hid ((hb10.block _ (Array.getElem?_eq_some_iff.1 HJ0.out).1).trans HJ0.out)
  clear hb10 HB0 HK0 HJ0
  unfold agg5
  refine hK.out _ _ ⟨(five_load HK10.out).1, (five_load HK10.out).2.1, (five_load HK10.out).2.2.1, (five_load HK10.out).2.2.2.1, (five_load HK10.out).2.2.2.2, (five_load HJ10.out).1, (five_load HJ10.out).2.1, (five_load HJ10.out).2.2.1, (five_load HJ10.out).2.2.2.1, (five_load HJ10.out).2.2.2.2⟩ (fun hHeld => ?_)
  clear hK K
  refine norm_ (a' := ?_) ?_ ?_
  rotate_left
  · show Act.put _ (some 59) _ = _; simp only [Act.put, List.setIfInBounds_toArray, List.set_cons_zero, List.set_cons_succ, i64_w, i32_w]; rfl
  refine pure_ (i := 3) (N := (some 60)) (v := (.bool true)) (a' := ?_) #[true, true, true, true, false, false, false, false, false, false, false, false, false, false, false, false, false, false, false, false, false, false, false, false, false, false, false, false, false, false, false, false] rfl rfl (by kernel_rfl) (fun _ _ _ h => h) (Or.inl ⟨by rfl, ?_⟩) ?_ ?_
  · intro w'; go_simp; first | done | with_reducible rfl
  rotate_left
  · simp only [Act.put, List.setIfInBounds_toArray, List.set_cons_zero, List.set_cons_succ, i64_w, i32_w]; rfl
  refine pure_ (i := 4) (N := (some 61)) (v := ?_) (a' := ?_) #[true, true, true, true, true, false, false, false, false, false, false, false, false, false, false, false, false, false, false, false, false, false, false, false, false, false, false, false, false, false, false, false] rfl rfl (by kernel_rfl) (fun _ _ _ h => h) (Or.inl ⟨by rfl, ?_⟩) ?_ ?_
  rotate_left
  · intro w'; go_simp; first | done | with_reducible rfl
  rotate_left
  · simp only [Act.put, List.setIfInBounds_toArray, List.set_cons_zero, List.set_cons_succ, i64_w, i32_w]; rfl
  refine take_ (i := 5) (N := (some 62)) (v := ?_) (a' := ?_) #[true, true, true, true, true, true, false, false, false, false, false, false, false, false, false, false, false, false, false, false, false, false, false, false, false, false, false, false, false, false, false, false] rfl rfl (by kernel_rfl) (fun _ _ _ h => h) (Or.inl ⟨by rfl, ?_⟩) hHeld ?_ ?_
  rotate_left
  · rintro w' ⟨s0, s1, s2, s3, s4, s5, s6, s7, s8, s9⟩; go_simp; first | done | with_reducible rfl
  rotate_left
  · simp only [Act.put, List.setIfInBounds_toArray, List.set_cons_zero, List.set_cons_succ, i64_w, i32_w]; rfl
  refine pure_ (i := 6) (N := (some 63)) (v := ?_) (a' := ?_) #[true, true, true, true, true, true, true, false, false, false, false, false, false, false, false, false, false, false, false, false, false, false, false, false, false, false, false, false, false, false, false, false] rfl rfl (by kernel_rfl) (fun _ _ _ h => h) (Or.inl ⟨by rfl, ?_⟩) ?_ ?_
  rotate_left
  · intro w'; go_simp; first | done | with_reducible rfl
  rotate_left
  · simp only [Act.put, List.setIfInBounds_toArray, List.set_cons_zero, List.set_cons_succ, i64_w, i32_w]; rfl
  refine one_ (i := 7) (N := (some 64)) #[true, true, true, true, true, true, true, true, false, false, false, false, false, false, false, false, false, false, false, false, false, false, false, false, false, false, false, false, false, false, false, false] rfl rfl (by kernel_rfl) (by decide) (fun K hK => ?_)
  refine goes_ Tryd.func24 (by kernel_rfl) rfl #[.slice A n c] (by rfl) rfl rfl (by (try simp only [List.map_toArray, List.map_cons, List.map_nil]); first | done | rfl) ?_
  refine (HRN.out A c _ (HA.out.later HB10.out)).mono ?_
  rintro e w11 ⟨rfl, hb11⟩
  refine ⟨_, rfl, ?_⟩
  have HB11 := Lib.hid (HB10.out.trans (hb11.mono HB10.out.size))
  have HK11 := Lib.hid ((hb11.block _ (Array.getElem?_eq_some_iff.1 HK10.out).1).trans HK10.out)
  have HJ11 := Lib.hid ((hb11.block _ (Array.getElem?_eq_some_iff.1 HJ10.out).1).trans HJ10.out)
  clear hb11 HB10 HK10 HJ10
  unfold agg5
  refine hK.out _ _ ⟨(five_load HK11.out).1, (five_load HK11.out).2.1, (five_load HK11.out).2.2.1, (five_load HK11.out).2.2.2.1, (five_load HK11.out).2.2.2.2, (five_load HJ11.out).1, (five_load HJ11.out).2.1, (five_load HJ11.out).2.2.1, (five_load HJ11.out).2.2.2.1, (five_load HJ11.out).2.2.2.2⟩ (fun hHeld => ?_)
  clear hK K
  refine norm_ (a' := ?_) ?_ ?_
  rotate_left
  · show Act.put _ (some 64) _ = _; simp only [Act.put, List.setIfInBounds_toArray, List.set_cons_zero, List.set_cons_succ, i64_w, i32_w]; rfl
  refine pure_ (i := 8) (N := (some 65)) (v := (.bool true)) (a' := ?_) #[true, true, true, true, true, true, true, true, true, false, false, false, false, false, false, false, false, false, false, false, false, false, false, false, false, false, false, false, false, false, false, false] rfl rfl (by kernel_rfl) (fun _ _ _ h => h) (Or.inl ⟨by rfl, ?_⟩) ?_ ?_
  · intro w'; go_simp; first | done | with_reducible rfl
  rotate_left
  · simp only [Act.put, List.setIfInBounds_toArray, List.set_cons_zero, List.set_cons_succ, i64_w, i32_w]; rfl
  refine pure_ (i := 9) (N := (some 66)) (v := ?_) (a' := ?_) #[true, true, true, true, true, true, true, true, true, true, false, false, false, false, false, false, false, false, false, false, false, false, false, false, false, false, false, false, false, false, false, false] rfl rfl (by kernel_rfl) (fun _ _ _ h => h) (Or.inl ⟨by rfl, ?_⟩) ?_ ?_
  rotate_left
  · intro w'; go_simp; first | done | with_reducible rfl
  rotate_left
  · simp only [Act.put, List.setIfInBounds_toArray, List.set_cons_zero, List.set_cons_succ, i64_w, i32_w]; rfl
  refine pure_ (i := 10) (N := (some 67)) (v := ?_) (a' := ?_) #[true, true, true, true, true, true, true, true, true, true, true, false, false, false, false, false, false, false, false, false, false, false, false, false, false, false, false, false, false, false, false, false] rfl rfl (by kernel_rfl) (fun _ _ _ h => h) (Or.inl ⟨by rfl, ?_⟩) ?_ ?_
  rotate_left
  · intro w'; go_simp; first | done | with_reducible rfl
  rotate_left
  · simp only [Act.put, List.setIfInBounds_toArray, List.set_cons_zero, List.set_cons_succ, i64_w, i32_w]; rfl
  refine pure_ (i := 11) (N := (some 68)) (v := ?_) (a' := ?_) #[true, true, true, true, true, true, true, true, true, true, true, true, false, false, false, false, false, false, false, false, false, false, false, false, false, false, false, false, false, false, false, false] rfl rfl (by kernel_rfl) (fun _ _ _ h => h) (Or.inl ⟨by rfl, ?_⟩) ?_ ?_
  rotate_left
  · intro w'; go_simp; first | done | with_reducible rfl
  rotate_left
  · simp only [Act.put, List.setIfInBounds_toArray, List.set_cons_zero, List.set_cons_succ, i64_w, i32_w]; rfl
  refine pure_ (i := 12) (N := (some 69)) (v := ?_) (a' := ?_) #[true, true, true, true, true, true, true, true, true, true, true, true, true, false, false, false, false, false, false, false, false, false, false, false, false, false, false, false, false, false, false, false] rfl rfl (by kernel_rfl) (fun _ _ _ h => h) (Or.inl ⟨by rfl, ?_⟩) ?_ ?_
  rotate_left
  · intro w'; go_simp; first | done | with_reducible rfl
  rotate_left
  · simp only [Act.put, List.setIfInBounds_toArray, List.set_cons_zero, List.set_cons_succ, i64_w, i32_w]; rfl
  refine one_ (i := 13) (N := (some 70)) #[true, true, true, true, true, true, true, true, true, true, true, true, true, true, false, false, false, false, false, false, false, false, false, false, false, false, false, false, false, false, false, false] rfl rfl (by kernel_rfl) (by decide) (fun K hK => ?_)
  refine goes_ Tryd.func25 (by kernel_rfl) rfl #[.slice A n c] (by rfl) rfl rfl (by (try simp only [List.map_toArray, List.map_cons, List.map_nil]); first | done | rfl) ?_
  refine (HRE.out A c _ (HA.out.later HB11.out)).mono ?_
  rintro e w12 ⟨rfl, hb12⟩
  refine ⟨_, rfl, ?_⟩
  have HB12 := Lib.hid (HB11.out.trans (hb12.mono HB11.out.size))
  have HK12 := Lib.hid ((hb12.block _ (Array.getElem?_eq_some_iff.1 HK11.out).1).trans HK11.out)
  have HJ12 := Lib.hid ((hb12.block _ (Array.getElem?_eq_some_iff.1 HJ11.out).1).trans HJ11.out)
  clear hb12 HB11 HK11 HJ11
  refine hK.out _ _ ⟨(five_load HK12.out).1, (five_load HK12.out).2.1, (five_load HK12.out).2.2.1, (five_load HK12.out).2.2.2.1, (five_load HK12.out).2.2.2.2, (five_load HJ12.out).1, (five_load HJ12.out).2.1, (five_load HJ12.out).2.2.1, (five_load HJ12.out).2.2.2.1, (five_load HJ12.out).2.2.2.2⟩ (fun hHeld => ?_)
  clear hK K
  refine norm_ (a' := ?_) ?_ ?_
  rotate_left
  · show Act.put _ (some 70) _ = _; simp only [Act.put, List.setIfInBounds_toArray, List.set_cons_zero, List.set_cons_succ, i64_w, i32_w]; rfl
  refine pure_ (i := 14) (N := (some 71)) (v := ?_) (a' := ?_) #[true, true, true, true, true, true, true, true, true, true, true, true, true, true, true, false, false, false, false, false, false, false, false, false, false, false, false, false, false, false, false, false] rfl rfl (by kernel_rfl) (fun _ _ _ h => h) (Or.inl ⟨by rfl, ?_⟩) ?_ ?_
  rotate_left
  · intro w'; go_simp; first | done | with_reducible rfl
  rotate_left
  · simp only [Act.put, List.setIfInBounds_toArray, List.set_cons_zero, List.set_cons_succ, i64_w, i32_w]; rfl
  refine pure_ (i := 15) (N := (some 72)) (v := ?_) (a' := ?_) #[true, true, true, true, true, true, true, true, true, true, true, true, true, true, true, true, false, false, false, false, false, false, false, false, false, false, false, false, false, false, false, false] rfl rfl (by kernel_rfl) (fun _ _ _ h => h) (Or.inl ⟨by rfl, ?_⟩) ?_ ?_
  rotate_left
  · intro w'; go_simp; first | done | with_reducible rfl
  rotate_left
  · simp only [Act.put, List.setIfInBounds_toArray, List.set_cons_zero, List.set_cons_succ, i64_w, i32_w]; rfl
  refine pure_ (i := 16) (N := (some 73)) (v := ?_) (a' := ?_) #[true, true, true, true, true, true, true, true, true, true, true, true, true, true, true, true, true, false, false, false, false, false, false, false, false, false, false, false, false, false, false, false] rfl rfl (by kernel_rfl) (fun _ _ _ h => h) (Or.inl ⟨by rfl, ?_⟩) ?_ ?_
  rotate_left
  · intro w'; go_simp; first | done | with_reducible rfl
  rotate_left
  · simp only [Act.put, List.setIfInBounds_toArray, List.set_cons_zero, List.set_cons_succ, i64_w, i32_w]; rfl
  refine pure_ (i := 17) (N := (some 74)) (v := ?_) (a' := ?_) #[true, true, true, true, true, true, true, true, true, true, true, true, true, true, true, true, true, true, false, false, false, false, false, false, false, false, false, false, false, false, false, false] rfl rfl (by kernel_rfl) (fun _ _ _ h => h) (Or.inl ⟨by rfl, ?_⟩) ?_ ?_
  rotate_left
  · intro w'; go_simp; first | done | with_reducible rfl
  rotate_left
  · simp only [Act.put, List.setIfInBounds_toArray, List.set_cons_zero, List.set_cons_succ, i64_w, i32_w]; rfl
  refine pure_ (i := 18) (N := (some 75)) (v := ?_) (a' := ?_) #[true, true, true, true, true, true, true, true, true, true, true, true, true, true, true, true, true, true, true, false, false, false, false, false, false, false, false, false, false, false, false, false] rfl rfl (by kernel_rfl) (fun _ _ _ h => h) (Or.inl ⟨by rfl, ?_⟩) ?_ ?_
  rotate_left
  · intro w'; go_simp; first | done | with_reducible rfl
  rotate_left
  · simp only [Act.put, List.setIfInBounds_toArray, List.set_cons_zero, List.set_cons_succ, i64_w, i32_w]; rfl
  refine pure_ (i := 19) (N := (some 76)) (v := ?_) (a' := ?_) #[true, true, true, true, true, true, true, true, true, true, true, true, true, true, true, true, true, true, true, true, false, false, false, false, false, false, false, false, false, false, false, false] rfl rfl (by kernel_rfl) (fun _ _ _ h => h) (Or.inl ⟨by rfl, ?_⟩) ?_ ?_
  rotate_left
  · intro w'; go_simp; first | done | with_reducible rfl
  rotate_left
  · simp only [Act.put, List.setIfInBounds_toArray, List.set_cons_zero, List.set_cons_succ, i64_w, i32_w]; rfl
  refine pure_ (i := 20) (N := (some 77)) (v := ?_) (a' := ?_) #[true, true, true, true, true, true, true, true, true, true, true, true, true, true, true, true, true, true, true, true, true, false, false, false, false, false, false, false, false, false, false, false] rfl rfl (by kernel_rfl) (fun _ _ _ h => h) (Or.inl ⟨by rfl, ?_⟩) ?_ ?_
  rotate_left
  · intro w'; go_simp; first | done | with_reducible rfl
  rotate_left
  · simp only [Act.put, List.setIfInBounds_toArray, List.set_cons_zero, List.set_cons_succ, i64_w, i32_w]; rfl
  refine pure_ (i := 21) (N := (some 78)) (v := ?_) (a' := ?_) #[true, true, true, true, true, true, true, true, true, true, true, true, true, true, true, true, true, true, true, true, true, true, false, false, false, false, false, false, false, false, false, false] rfl rfl (by kernel_rfl) (fun _ _ _ h => h) (Or.inl ⟨by rfl, ?_⟩) ?_ ?_
  rotate_left
  · intro w'; go_simp; first | done | with_reducible rfl
  rotate_left
  · simp only [Act.put, List.setIfInBounds_toArray, List.set_cons_zero, List.set_cons_succ, i64_w, i32_w]; rfl
  refine pure_ (i := 22) (N := (some 79)) (v := ?_) (a' := ?_) #[true, true, true, true, true, true, true, true, true, true, true, true, true, true, true, true, true, true, true, true, true, true, true, false, false, false, false, false, false, false, false, false] rfl rfl (by kernel_rfl) (fun _ _ _ h => h) (Or.inl ⟨by rfl, ?_⟩) ?_ ?_
  rotate_left
  · intro w'; go_simp; first | done | with_reducible rfl
  rotate_left
  · simp only [Act.put, List.setIfInBounds_toArray, List.set_cons_zero, List.set_cons_succ, i64_w, i32_w]; rfl
  refine pure_ (i := 23) (N := (some 80)) (v := ?_) (a' := ?_) #[true, true, true, true, true, true, true, true, true, true, true, true, true, true, true, true, true, true, true, true, true, true, true, true, false, false, false, false, false, false, false, false] rfl rfl (by kernel_rfl) (fun _ _ _ h => h) (Or.inl ⟨by rfl, ?_⟩) ?_ ?_
  rotate_left
  · intro w'; go_simp; first | done | with_reducible rfl
  rotate_left
  · simp only [Act.put, List.setIfInBounds_toArray, List.set_cons_zero, List.set_cons_succ, i64_w, i32_w]; rfl
  refine pure_ (i := 24) (N := (some 81)) (v := ?_) (a' := ?_) #[true, true, true, true, true, true, true, true, true, true, true, true, true, true, true, true, true, true, true, true, true, true, true, true, true, false, false, false, false, false, false, false] rfl rfl (by kernel_rfl) (fun _ _ _ h => h) (Or.inl ⟨by rfl, ?_⟩) ?_ ?_
  rotate_left
  · intro w'; go_simp; first | done | with_reducible rfl
  rotate_left
  · simp only [Act.put, List.setIfInBounds_toArray, List.set_cons_zero, List.set_cons_succ, i64_w, i32_w]; rfl
  refine pure_ (i := 25) (N := (some 82)) (v := ?_) (a' := ?_) #[true, true, true, true, true, true, true, true, true, true, true, true, true, true, true, true, true, true, true, true, true, true, true, true, true, true, false, false, false, false, false, false] rfl rfl (by kernel_rfl) (fun _ _ _ h => h) (Or.inl ⟨by rfl, ?_⟩) ?_ ?_
  rotate_left
  · intro w'; go_simp; first | done | with_reducible rfl
  rotate_left
  · simp only [Act.put, List.setIfInBounds_toArray, List.set_cons_zero, List.set_cons_succ, i64_w, i32_w]; rfl
  refine pure_ (i := 26) (N := (some 83)) (v := ?_) (a' := ?_) #[true, true, true, true, true, true, true, true, true, true, true, true, true, true, true, true, true, true, true, true, true, true, true, true, true, true, true, false, false, false, false, false] rfl rfl (by kernel_rfl) (fun _ _ _ h => h) (Or.inl ⟨by rfl, ?_⟩) ?_ ?_
  rotate_left
  · intro w'; go_simp; first | done | with_reducible rfl
  rotate_left
  · simp only [Act.put, List.setIfInBounds_toArray, List.set_cons_zero, List.set_cons_succ, i64_w, i32_w]; rfl
  refine pure_ (i := 27) (N := (some 84)) (v := ?_) (a' := ?_) #[true, true, true, true, true, true, true, true, true, true, true, true, true, true, true, true, true, true, true, true, true, true, true, true, true, true, true, true, false, false, false, false] rfl rfl (by kernel_rfl) (fun _ _ _ h => h) (Or.inl ⟨by rfl, ?_⟩) ?_ ?_
  rotate_left
  · intro w'; go_simp; first | done | with_reducible rfl
  rotate_left
  · simp only [Act.put, List.setIfInBounds_toArray, List.set_cons_zero, List.set_cons_succ, i64_w, i32_w]; rfl
  refine pure_ (i := 28) (N := (some 85)) (v := ?_) (a' := ?_) #[true, true, true, true, true, true, true, true, true, true, true, true, true, true, true, true, true, true, true, true, true, true, true, true, true, true, true, true, true, false, false, false] rfl rfl (by kernel_rfl) (fun _ _ _ h => h) (Or.inl ⟨by rfl, ?_⟩) ?_ ?_
  rotate_left
  · intro w'; go_simp; first | done | with_reducible rfl
  rotate_left
  · simp only [Act.put, List.setIfInBounds_toArray, List.set_cons_zero, List.set_cons_succ, i64_w, i32_w]; rfl
  refine one_ (i := 29) (N := (some 86)) #[true, true, true, true, true, true, true, true, true, true, true, true, true, true, true, true, true, true, true, true, true, true, true, true, true, true, true, true, true, true, false, false] rfl rfl (by kernel_rfl) (by decide) (fun K hK => ?_)
  refine goes_ Tryd.func22 (by kernel_rfl) rfl #[] (by rfl) rfl rfl (by (try simp only [List.map_toArray, List.map_cons, List.map_nil]); first | done | rfl) ?_
  refine (awake_calls _).mono ?_
  rintro e w13 ⟨rfl, hb13⟩
  refine ⟨_, rfl, ?_⟩
  have HB13 := Lib.hid (HB12.out.trans (hb13.mono HB12.out.size))
  have HK13 := Lib.hid ((hb13.block _ (Array.getElem?_eq_some_iff.1 HK12.out).1).trans HK12.out)
  have HJ13 := Lib.hid ((hb13.block _ (Array.getElem?_eq_some_iff.1 HJ12.out).1).trans HJ12.out)
  clear hb13 HB12 HK12 HJ12
  refine hK.out _ _ ⟨(five_load HK13.out).1, (five_load HK13.out).2.1, (five_load HK13.out).2.2.1, (five_load HK13.out).2.2.2.1, (five_load HK13.out).2.2.2.2, (five_load HJ13.out).1, (five_load HJ13.out).2.1, (five_load HJ13.out).2.2.1, (five_load HJ13.out).2.2.2.1, (five_load HJ13.out).2.2.2.2⟩ (fun hHeld => ?_)
  clear hK K
  refine norm_ (a' := ?_) ?_ ?_
  rotate_left
  · show Act.put _ (some 86) _ = _; simp only [Act.put, List.setIfInBounds_toArray, List.set_cons_zero, List.set_cons_succ, i64_w, i32_w]; rfl
  refine pure_ (i := 30) (N := (some 87)) (v := ?_) (a' := ?_) #[true, true, true, true, true, true, true, true, true, true, true, true, true, true, true, true, true, true, true, true, true, true, true, true, true, true, true, true, true, true, true, false] rfl rfl (by kernel_rfl) (fun _ _ _ h => h) (Or.inl ⟨by rfl, ?_⟩) ?_ ?_
  rotate_left
  · intro w'; go_simp; first | done | with_reducible rfl
  rotate_left
  · simp only [Act.put, List.setIfInBounds_toArray, List.set_cons_zero, List.set_cons_succ, i64_w, i32_w]; rfl
  refine pure_ (i := 31) (N := (some 2)) (v := ?_) (a' := ?_) #[true, true, true, true, true, true, true, true, true, true, true, true, true, true, true, true, true, true, true, true, true, true, true, true, true, true, true, true, true, true, true, true] rfl rfl (by kernel_rfl) (fun _ _ _ h => h) (Or.inl ⟨by rfl, ?_⟩) ?_ ?_
  rotate_left
  · intro w'; go_simp; first | done | with_reducible rfl
  rotate_left
  · simp only [Act.put, List.setIfInBounds_toArray, List.set_cons_zero, List.set_cons_succ, i64_w, i32_w]; rfl
  refine done_ (by kernel_rfl) ?_
  go_wp2
  go_ret
  exact ⟨rfl, HB13.out⟩
end Go.Proofs.YtjpfalanoifpbaaDoor.X
end

section
set_option linter.unusedVariables false
namespace Go.Proofs.YtjpfalanoifpbaaDoor.X
open Go.RowKit Go.WideShapes Go.WideMaps Go.Deep Go.ChangeShapes Go.Proofs.YtjpfalanoifpbaaDoorW.PrintWords Go.Proofs.YtjpfalanoifpbaaDoorW.PrintLast Go.Proofs.YtjpfalanoifpbaaDoorW.PrintMore Go.Proofs.YtjpfalanoifpbaaDoor.T
theorem cells44 : Tryd.prog.cellsOf 44 = 2 := by kernel_rfl
theorem cells5_ : Tryd.prog.cellsOf 5 = 1 := by kernel_rfl
theorem cells9_ : Tryd.prog.cellsOf 9 = 1 := by kernel_rfl
set_option maxRecDepth 10000 in
theorem rule_trod {H : Type} {enc : TypeId × Value → H} {w : World} {base : Nat} {sp : Nat → Bool} {held : Bool} {fuel : Nat} {cs : List Value} {x : DataW H × List MemPlace} (h : DataW.trod enc Tryd.prog w base sp held fuel 44 cs = some x) : ∃ (a : Int) (s : ByteArray), cs = [.int .u8 a, .string s] ∧ s.size ≤ 9223372036854775807 := by
  obtain ⟨y0, y1, m, _, hl, h0, h1⟩ := trod_struct2 Tryd.underlying44 h
  rw [cells44] at hl
  match cs, hl with
  | [c0, c1], _ =>
    dsimp only at h0 h1
    rw [cells5_] at h0
    rw [cells9_] at h1
    obtain ⟨a, e0, _⟩ := DataW.trod_int Tryd.underlying5 h0
    obtain ⟨s, e1, _, hs⟩ := DataW.trod_string Tryd.underlying9 h1
    simp at e0 e1
    unfold maxLen at hs
    exact ⟨a, s, by rw [e0, e1], by omega⟩
theorem open_rls {H : Type} {enc : TypeId × Value → H} {w : World} {base : Nat} {held : Bool} {fuel : Nat} {A : Option Addr} {n c : Nat} {x : DataW H × List MemPlace} (h : DataW.trod enc Tryd.prog w base (fun _ => true) held fuel 22 [.slice A n c] = some x) :
    (∃ L R, Sr w A n c L R ∧ ∀ k, k < n → (R k).size ≤ 9223372036854775807) ∧ n ≤ 9223372036854775807 ∧ c ≤ 9223372036854775807 := by
  rcases open_slice Tryd.underlying22 h with ⟨hcs, _⟩ | ⟨a, len, cap, m, k, D, Pl, hcs, _, hl, hm, hmm, _, hx⟩
  · simp at hcs
    obtain ⟨rfl, rfl, rfl⟩ := hcs
    exact ⟨⟨fun _ => 0, fun _ => ByteArray.empty, .inl rfl, fun k hk => by omega⟩, by decide, by decide⟩
  · simp at hcs
    obtain ⟨rfl, rfl, rfl⟩ := hcs
    unfold maxLen at hm
    refine ⟨?_, by omega, by omega⟩
    rcases Nat.eq_zero_or_pos n with h0 | h0
    · exact ⟨fun _ => 0, fun _ => ByteArray.empty, .inl h0, fun k hk => by omega⟩
    · have hnm : n ≤ m := by rw [hmm]; simpa using hl
      obtain ⟨f, hf⟩ := choose_lt (α := Int × ByteArray) (n := n) (p := fun i q => w.cell? (a.add (i * 2)) = some (.int .u8 q.1) ∧ w.cell? (a.add (i * 2 + 1)) = some (.string q.2) ∧ q.2.size ≤ 9223372036854775807) (fun i hi => by
        obtain ⟨cs', h1, h2⟩ := hx i (by omega)
        obtain ⟨p, q, rfl, hq⟩ := rule_trod h2
        rw [cells44] at h1
        obtain ⟨_, _, h3⟩ := World.cells?_some h1
        refine ⟨(p, q), ?_, ?_, hq⟩
        · have := h3 0 (by decide)
          rw [Addr.add_add] at this
          simpa using this
        · have := h3 1 (by decide)
          rw [Addr.add_add] at this
          simpa using this)
      have hsp : a.spot = none := by
        have := (hf 0 h0).1
        rw [show a.add (0 * 2) = a by simp [Addr.add]] at this
        exact World.cell?_spot this
      have ha : ∀ j, a.add j = ⟨a.block, a.off + j, none⟩ := fun j => by
        unfold Addr.add
        by_cases hj : j = 0
        · subst hj
          rw [if_pos rfl, ← hsp]
          simp
        · rw [if_neg hj]
      refine ⟨fun i => (f i).1, fun i => (f i).2, .inr ⟨a.block, a.off, ?_, hl, fun i hi => ?_, fun i hi => ?_⟩, fun i hi => (hf i hi).2.2⟩
      · rw [← hsp]
      · rw [← ha]; exact (hf i hi).1
      · rw [Nat.add_assoc, ← ha]; exact (hf i hi).2.1
theorem open_rlsT {H : Type} {enc : TypeId × Value → H} {w : World} {base : Nat} {held : Bool} {A : Option Addr} {n c : Nat} {d : DataW H} {pl : List MemPlace} (h : DataW.Trod enc Tryd.prog w base (fun _ => true) held 22 (.slice A n c) d pl) :
    (∃ L R, Sr w A n c L R ∧ ∀ k, k < n → (R k).size ≤ 9223372036854775807) ∧ n ≤ 9223372036854775807 ∧ c ≤ 9223372036854775807 := by
  obtain ⟨m, hm⟩ := h
  exact open_rls hm
theorem TablesFirst.calls (A : Option Addr) (n c : Nat) (L : Nat → Int) (R : Nat → ByteArray) (w : World) (hA : Sr w A n c L R) (hR : ∀ k, k < n → (R k).size ≤ 9223372036854775807) (hn : n ≤ 9223372036854775807) (hc : c ≤ 9223372036854775807) :
    Calls Tryd.prog 3 #[.slice A n c] w fun e w' => e = .returned (.bool true) ∧ Below w.heap.size w w' := by
  by_cases hg : Gram L R n
  · exact First_law_yes A n c L R w hA hn hR hg
  · exact First_law_no A n c L R w hA hn hR hg
#print axioms TablesFirst.calls
end Go.Proofs.YtjpfalanoifpbaaDoor.X
end
