import Derived.Test.YtjffhhalmicodaaLr
import Derived.Test.YtjffhhalmicodaaPCx2
set_option linter.unusedVariables false
set_option linter.unusedSimpArgs false
namespace Go.Proofs.Ytjffhhalmicodaa.L
open Go.RowKit Go.Proofs.YtjffhhalmicodaaW.PrintWords Go.Proofs.YtjffhhalmicodaaW.PrintLast Go.Proofs.YtjffhhalmicodaaW.PrintMore Go.Proofs.Ytjffhhalmicodaa.X
open Go.Proofs.Ytjffhhalmicodaa.PC (comfitlaw08_FixesOthers.f comfitlaw08_FixesOthers.j0 comfitlaw08_FixesOthers.j1)

/-- what is written is read -/
theorem parse_of : ∀ f b n l, WF f → Sc b f → (str f).length < n → parse n (str f ++ l) b = some (f, l) := by
  intro f
  induction f with
  | mark neg j =>
    intro b n l hw hs hn
    have hj : j ≤ 3 := hw
    have hm : isMk (48 + j) = true := isMk_iff.2 (by omega)
    cases neg with
    | true =>
      obtain ⟨n, rfl⟩ : ∃ m, n = m + 1 := ⟨n - 1, by omega⟩
      show parse (n + 1) (45 :: (48 + j) :: l) b = _
      rw [parse_cons, if_neg (by decide), if_pos rfl, parseDash, if_pos hm, Nat.add_sub_cancel_left]
    | false =>
      obtain ⟨n, rfl⟩ : ∃ m, n = m + 1 := ⟨n - 1, by omega⟩
      show parse (n + 1) ((48 + j) :: l) b = _
      rw [parse_cons, if_pos hm, Nat.add_sub_cancel_left]
  | con c =>
    intro b n l hw hs hn
    have hc : c = 116 ∨ c = 102 := hw
    obtain ⟨n, rfl⟩ : ∃ m, n = m + 1 := ⟨n - 1, by omega⟩
    show parse (n + 1) (c :: l) b = _
    rw [parse_cons, if_neg (by rw [isMk_iff]; omega), if_neg (by omega), if_pos hc]
  | var c =>
    intro b n l hw hs hn
    have hc : 120 ≤ c ∧ c ≤ 122 := hw
    obtain ⟨n, rfl⟩ : ∃ m, n = m + 1 := ⟨n - 1, by omega⟩
    show parse (n + 1) (c :: l) b = _
    rw [parse_cons, if_neg (by rw [isMk_iff]; omega), if_neg (by omega), if_neg (by omega), if_pos (isLt_iff.2 hc), if_pos (show c ∈ b from hs)]
  | two c p q ihp ihq =>
    intro b n l hw hs hn
    have hc : c = 38 ∨ c = 124 := hw.1
    simp only [str, List.length_cons, List.length_append] at hn
    obtain ⟨n, rfl⟩ : ∃ m, n = m + 1 := ⟨n - 1, by omega⟩
    show parse (n + 1) (c :: ((str p ++ str q) ++ l)) b = _
    rw [parse_cons, if_neg (by rw [isMk_iff]; omega), if_neg (by omega), if_neg (by omega), if_neg (by rw [isLt_iff]; omega), if_neg (by omega), if_pos hc, List.append_assoc, ihp b n _ hw.2.1 hs.1 (by omega)]
    simp only [Option.bind_some]
    rw [ihq b n _ hw.2.2 hs.2 (by omega)]
    rfl
  | one c p ihp =>
    intro b n l hw hs hn
    have hc : c = 60 ∨ c = 91 := hw.1
    simp only [str, List.length_cons] at hn
    obtain ⟨n, rfl⟩ : ∃ m, n = m + 1 := ⟨n - 1, by omega⟩
    show parse (n + 1) (c :: (str p ++ l)) b = _
    rw [parse_cons, if_neg (by rw [isMk_iff]; omega), if_neg (by omega), if_neg (by omega), if_neg (by rw [isLt_iff]; omega), if_neg (by omega), if_neg (by omega), if_pos hc, ihp b n _ hw.2 hs (by omega)]
    rfl
  | fix c x p ihp =>
    intro b n l hw hs hn
    have hc : c = 109 ∨ c = 103 := hw.1
    simp only [str, List.length_cons] at hn
    obtain ⟨n, rfl⟩ : ∃ m, n = m + 1 := ⟨n - 1, by omega⟩
    show parse (n + 1) (c :: (x :: (str p ++ l))) b = _
    rw [parse_cons, if_neg (by rw [isMk_iff]; omega), if_neg (by omega), if_neg (by omega), if_neg (by rw [isLt_iff]; omega), if_pos hc, parseFix, if_pos ⟨isLt_iff.2 hw.2.1, hs.1⟩, ihp (b ++ [x]) n _ hw.2.2 hs.2 (by omega)]
    rfl
theorem whole_of {f : Fm} (hw : WF f) (hs : Sc [] f) : whole (str f) = some f := by
  unfold whole
  have h := parse_of f [] ((str f).length + 1) [] hw hs (by omega)
  rw [List.append_nil] at h
  rw [h]
  rfl

theorem dual_wf : ∀ f, WF f → WF (dual f) := by
  intro f
  induction f with
  | mark neg j => exact fun h => h
  | con c =>
    intro h
    have h : c = 116 ∨ c = 102 := h
    show opp c = 116 ∨ opp c = 102
    rcases h with rfl | rfl
    · exact .inr rfl
    · exact .inl rfl
  | var c => exact fun h => h
  | two c p q ihp ihq =>
    intro h
    have hc : c = 38 ∨ c = 124 := h.1
    refine ⟨?_, ihp h.2.1, ihq h.2.2⟩
    rcases hc with rfl | rfl
    · exact .inr rfl
    · exact .inl rfl
  | one c p ihp =>
    intro h
    have hc : c = 60 ∨ c = 91 := h.1
    refine ⟨?_, ihp h.2⟩
    rcases hc with rfl | rfl
    · exact .inr rfl
    · exact .inl rfl
  | fix c x p ihp =>
    intro h
    have hc : c = 109 ∨ c = 103 := h.1
    refine ⟨?_, h.2.1, ihp h.2.2⟩
    rcases hc with rfl | rfl
    · exact .inr rfl
    · exact .inl rfl
theorem dual_sc : ∀ f b, Sc b f → Sc b (dual f) := by
  intro f
  induction f with
  | mark neg j => exact fun _ h => h
  | con c => exact fun _ h => h
  | var c => exact fun _ h => h
  | two c p q ihp ihq => exact fun b h => ⟨ihp b h.1, ihq b h.2⟩
  | one c p ihp => exact fun b h => ihp b h
  | fix c x p ihp => exact fun b h => ⟨h.1, ihp _ h.2⟩
theorem opp_opp {c : Nat} (h : IsOp c) : opp (opp c) = c := by
  rcases h with rfl | rfl | rfl | rfl | rfl | rfl | rfl | rfl <;> rfl
theorem dual_dual : ∀ f, WF f → dual (dual f) = f := by
  intro f
  induction f with
  | mark neg j => intro _; cases neg <;> rfl
  | con c =>
    intro h
    have h : c = 116 ∨ c = 102 := h
    show Fm.con (opp (opp c)) = _
    rw [opp_opp (by unfold IsOp; omega)]
  | var c => intro _; rfl
  | two c p q ihp ihq =>
    intro h
    have hc : c = 38 ∨ c = 124 := h.1
    show Fm.two (opp (opp c)) (dual (dual p)) (dual (dual q)) = _
    rw [opp_opp (by unfold IsOp; omega), ihp h.2.1, ihq h.2.2]
  | one c p ihp =>
    intro h
    have hc : c = 60 ∨ c = 91 := h.1
    show Fm.one (opp (opp c)) (dual (dual p)) = _
    rw [opp_opp (by unfold IsOp; omega), ihp h.2]
  | fix c x p ihp =>
    intro h
    have hc : c = 109 ∨ c = 103 := h.1
    show Fm.fix (opp (opp c)) x (dual (dual p)) = _
    rw [opp_opp (by unfold IsOp; omega), ihp h.2.2]

/-- all other states -/
def compl (nx : List Int) (a : Int) : Int := bits .andNot .i64 (allOf nx) a
section
variable {nx mk : List Int} (hv : VW nx mk)
include hv
theorem compl_in {a : Int} (ha : InS nx.length a) : InS nx.length (compl nx a) := by
  have := hv.le
  exact andNot_in (by omega) (by omega) (all_in (by omega)) ha
theorem tb_compl {a : Int} (ha : InS nx.length a) {i : Nat} (hi : i < nx.length) : tb (compl nx a) i = !tb a i := by
  have := hv.le
  rw [compl, tb_andNot (by omega) (by omega) (all_in (by omega)) ha, tb_all (by omega)]
  simp [hi]
theorem compl_eq {a b : Int} (ha : InS nx.length a) (hb : InS nx.length b) (h : ∀ i, i < nx.length → tb a i = !tb b i) : a = compl nx b :=
  inS_ext ha (compl_in hv hb) fun i hi => by rw [tb_compl hv hb hi]; exact h i hi

theorem dual_V : ∀ f, WF f → ∀ b, Lets b → Sc b f → ∀ s t : Sets, InE nx.length s → InE nx.length t → (∀ c, c ∈ b → getL c t = compl nx (getL c s)) → V nx mk (dual f) t = compl nx (V nx mk f s) := by
  have hle := hv.le
  intro f
  induction f with
  | mark neg j =>
    intro hw b hb hsc s t hs ht hr
    have hm := mset_spec hv (show j ≤ 3 from hw)
    cases neg with
    | true =>
      show mset mk j = compl nx (bits .andNot .i64 (allOf nx) (mset mk j))
      refine compl_eq hv hm.1 (compl_in hv hm.1) fun i hi => ?_
      rw [show bits .andNot .i64 (allOf nx) (mset mk j) = compl nx (mset mk j) from rfl, tb_compl hv hm.1 hi, Bool.not_not]
    | false => rfl
  | con c =>
    intro hw b hb hsc s t hs ht hr
    have hc : c = 116 ∨ c = 102 := hw
    rcases hc with rfl | rfl
    · show (0 : Int) = compl nx (allOf nx)
      refine compl_eq hv (inS_zero _) (all_in (by omega)) fun i hi => ?_
      rw [tb_zero, tb_all (by omega)]
      simp [hi]
    · show allOf nx = compl nx 0
      refine compl_eq hv (all_in (by omega)) (inS_zero _) fun i hi => ?_
      rw [tb_zero, tb_all (by omega)]
      simp [hi]
  | var c =>
    intro hw b hb hsc s t hs ht hr
    exact hr c hsc
  | two c p q ihp ihq =>
    intro hw b hb hsc s t hs ht hr
    have hc : c = 38 ∨ c = 124 := hw.1
    have ep := ihp hw.2.1 b hb hsc.1 s t hs ht hr
    have eq := ihq hw.2.2 b hb hsc.2 s t hs ht hr
    have ip := (V_spec hv p hw.2.1).1 s hs
    have iq := (V_spec hv q hw.2.2).1 s hs
    rcases hc with rfl | rfl
    · show bits .or .i64 (V nx mk (dual p) t) (V nx mk (dual q) t) = compl nx (bits .and .i64 (V nx mk p s) (V nx mk q s))
      rw [ep, eq]
      refine compl_eq hv (or_in (by omega) (compl_in hv ip) (compl_in hv iq)) (and_in (by omega) ip iq) fun i hi => ?_
      rw [tb_or (n := nx.length) (m := nx.length) (by omega) (by omega) (compl_in hv ip) (compl_in hv iq), tb_and (n := nx.length) (m := nx.length) (by omega) (by omega) ip iq, tb_compl hv ip hi, tb_compl hv iq hi, Bool.not_and]
    · show bits .and .i64 (V nx mk (dual p) t) (V nx mk (dual q) t) = compl nx (bits .or .i64 (V nx mk p s) (V nx mk q s))
      rw [ep, eq]
      refine compl_eq hv (and_in (by omega) (compl_in hv ip) (compl_in hv iq)) (or_in (by omega) ip iq) fun i hi => ?_
      rw [tb_and (n := nx.length) (m := nx.length) (by omega) (by omega) (compl_in hv ip) (compl_in hv iq), tb_or (n := nx.length) (m := nx.length) (by omega) (by omega) ip iq, tb_compl hv ip hi, tb_compl hv iq hi, Bool.not_or]
  | one c p ihp =>
    intro hw b hb hsc s t hs ht hr
    have hc : c = 60 ∨ c = 91 := hw.1
    have ep := ihp hw.2 b hb hsc s t hs ht hr
    have ip := (V_spec hv p hw.2).1 s hs
    rcases hc with rfl | rfl
    · show boxTo nx (V nx mk (dual p) t) = compl nx (stepTo nx (V nx mk p s))
      rw [ep]
      refine compl_eq hv (tb_box (by omega) _).1 (tb_step (by omega) _).1 fun i hi => ?_
      rw [(tb_box (by omega) _).2, (tb_step (by omega) _).2, decide_eq_true hi, Bool.true_and, Bool.true_and]
      have h1 := andNot_zero (n := nx.length) (by omega) (hv.next i hi) (compl_in hv ip)
      have h2 := and_zero (n := nx.length) (by omega) (hv.next i hi) ip
      have h3 : bits .andNot .i64 (rd nx i) (compl nx (V nx mk p s)) = 0 ↔ bits .and .i64 (rd nx i) (V nx mk p s) = 0 := by
        rw [h1, h2]
        constructor
        · intro g j hj
          rcases Nat.lt_or_ge j nx.length with hl | hl
          · have := g j hj
            rw [tb_compl hv ip hl] at this
            simpa using this
          · exact tb_ge ip hl
        · intro g j hj
          have hl : j < nx.length := by
            rcases Nat.lt_or_ge j nx.length with hl | hl
            · exact hl
            · rw [tb_ge (hv.next i hi) hl] at hj; cases hj
          rw [tb_compl hv ip hl, g j hj]
          rfl
      by_cases hz : bits .and .i64 (rd nx i) (V nx mk p s) = 0
      · rw [h3.2 hz, hz]; rfl
      · have hz2 : ¬ bits .andNot .i64 (rd nx i) (compl nx (V nx mk p s)) = 0 := fun e => hz (h3.1 e)
        rw [beq_eq_false_iff_ne.2 hz2, bne_iff_ne.2 hz]
        rfl
    · show stepTo nx (V nx mk (dual p) t) = compl nx (boxTo nx (V nx mk p s))
      rw [ep]
      refine compl_eq hv (tb_step (by omega) _).1 (tb_box (by omega) _).1 fun i hi => ?_
      rw [(tb_box (by omega) _).2, (tb_step (by omega) _).2, decide_eq_true hi, Bool.true_and, Bool.true_and]
      have h1 := and_zero (n := nx.length) (by omega) (hv.next i hi) (compl_in hv ip)
      have h2 := andNot_zero (n := nx.length) (by omega) (hv.next i hi) ip
      have h3 : bits .and .i64 (rd nx i) (compl nx (V nx mk p s)) = 0 ↔ bits .andNot .i64 (rd nx i) (V nx mk p s) = 0 := by
        rw [h1, h2]
        constructor
        · intro g j hj
          have hl : j < nx.length := by
            rcases Nat.lt_or_ge j nx.length with hl | hl
            · exact hl
            · rw [tb_ge (hv.next i hi) hl] at hj; cases hj
          have := g j hj
          rw [tb_compl hv ip hl] at this
          simpa using this
        · intro g j hj
          have hl : j < nx.length := by
            rcases Nat.lt_or_ge j nx.length with hl | hl
            · exact hl
            · rw [tb_ge (hv.next i hi) hl] at hj; cases hj
          rw [tb_compl hv ip hl, g j hj]
          rfl
      by_cases hz : bits .andNot .i64 (rd nx i) (V nx mk p s) = 0
      · rw [h3.2 hz, hz]; rfl
      · have hz2 : ¬ bits .and .i64 (rd nx i) (compl nx (V nx mk p s)) = 0 := fun e => hz (h3.1 e)
        rw [bne_iff_ne.2 hz2, beq_eq_false_iff_ne.2 hz]
        rfl
  | fix c x p ihp =>
    intro hw b hb hsc s t hs ht hr
    have hc : c = 109 ∨ c = 103 := hw.1
    have hb2 : Lets (b ++ [x]) := fun c hc => by
      rcases List.mem_append.1 hc with h | h
      · exact hb c h
      · rw [List.mem_singleton.1 h]; exact hw.2.1
    have step : ∀ u, InS nx.length u → V nx mk (dual p) (setL x (compl nx u) t) = compl nx (V nx mk p (setL x u s)) := fun u hu =>
      ihp hw.2.2 (b ++ [x]) hb2 hsc.2 _ _ (inE_set hs x hu) (inE_set ht x (compl_in hv hu)) (fun d hd => by
        rw [getL_setL, getL_setL]
        by_cases e : d = x
        · rw [if_pos (by rw [e]), if_pos (by rw [e])]
        · have hdb : d ∈ b := by
            rcases List.mem_append.1 hd with h | h
            · exact h
            · exact absurd (List.mem_singleton.1 h) e
          rw [if_neg (key_ne (hb d hdb) hw.2.1 e), if_neg (key_ne (hb d hdb) hw.2.1 e)]
          exact hr d hdb)
    have hin : ∀ k, InS nx.length (it (fun u => V nx mk p (setL x u s)) (i0Of nx c) k) := it_in (i0_in hv c) (F_in hv hw.2.2 hs)
    have h0 : i0Of nx (opp c) = compl nx (i0Of nx c) := by
      rcases hc with rfl | rfl
      · show allOf nx = compl nx 0
        refine compl_eq hv (all_in (by omega)) (inS_zero _) fun i hi => ?_
        rw [tb_zero, tb_all (by omega)]
        simp [hi]
      · show (0 : Int) = compl nx (allOf nx)
        refine compl_eq hv (inS_zero _) (all_in (by omega)) fun i hi => ?_
        rw [tb_zero, tb_all (by omega)]
        simp [hi]
    have key : ∀ k, it (fun u => V nx mk (dual p) (setL x u t)) (i0Of nx (opp c)) k = compl nx (it (fun u => V nx mk p (setL x u s)) (i0Of nx c) k) := by
      intro k
      induction k with
      | zero => exact h0
      | succ k ih =>
        show V nx mk (dual p) (setL x (it (fun u => V nx mk (dual p) (setL x u t)) (i0Of nx (opp c)) k) t) = _
        rw [ih, step _ (hin k)]
        rfl
    exact key nx.length
end

theorem Pure_FixesOthers (nx mk : List Int) (a : ByteArray) : ∃ k, comfitlaw08_FixesOthers.f k nx mk a = some true := by
  obtain ⟨k0, hk0⟩ := ready nx mk a
  have hn : fixes_Not.f (txt a) = fixes_Not.f a := by unfold fixes_Not.f; rw [txt_whole]
  have j0t : ∀ k x, k0 ≤ k → comfitlaw08_FixesOthers.j0 (k + 1) a x 3 true nx mk = some true := by
    intro k x hk
    rw [comfitlaw08_FixesOthers.j0, if_pos rfl, if_pos rfl, (hk0 k hk).awake]
    rfl
  have bad : ∀ x, fixes_Not.f a = some (x, 3) → ∃ k, comfitlaw08_FixesOthers.f k nx mk a = some true := by
    intro x e
    refine ⟨k0 + 1, ?_⟩
    unfold comfitlaw08_FixesOthers.f
    rw [text_eq]
    simp only [Option.bind_some, hn, e]
    rw [if_neg (by decide)]
    exact j0t k0 x (Nat.le_refl _)
  cases hi : IsB a with
  | false =>
    refine bad ⟨#[]⟩ ?_
    unfold fixes_Not.f
    unfold IsB at hi
    cases hw : wholeS 40 a with
    | none => rfl
    | some f => rw [hw] at hi; cases hi
  | true =>
    obtain ⟨f, h1, h2, h3⟩ := wholeS_some hi
    obtain ⟨hs, hw⟩ := whole_str h2
    have hsc := whole_sc h2
    by_cases hz : (nb f).size ≤ 40
    · have hdw := dual_wf f hw
      have hds := dual_sc f [] hsc
      have hnb := nb_str f hw
      have hwn : whole (cs (nb f)) = some (dual f) := by rw [hnb]; exact whole_of hdw hds
      have hwn2 : wholeS 40 (nb f) = some (dual f) := by unfold wholeS; rw [if_pos hz]; exact hwn
      have hin : IsB (nb f) = true := by unfold IsB; rw [hwn2]; rfl
      have hback : cs (nb (dual f)) = cs a := by rw [nb_str _ hdw, dual_dual f hw, hs]
      have hbsz : (nb (dual f)).size ≤ 40 := by rw [← cs_length, hback, cs_length]; exact h3
      have hbl : (nb (dual f)).toList = a.toList := by
        rw [ByteArray.toList_eq, ByteArray.toList_eq]
        unfold cs at hback
        exact List.map_inj_right (fun x y e => UInt8.toNat_inj.1 e) |>.1 hback
      have e1 : fixes_Not.f a = some (nb f, 0) := by
        unfold fixes_Not.f
        rw [h1]
        simp only
        rw [if_pos hz]
      have e2 : fixes_Not.f (nb f) = some (nb (dual f), 0) := by
        unfold fixes_Not.f
        rw [hwn2]
        simp only
        rw [if_pos hbsz]
      have ta : txt a = a := txt_of hi
      have tn : txt (nb f) = nb f := txt_of hin
      -- the last part
      have last : ∃ k1, k0 ≤ k1 ∧ comfitlaw08_FixesOthers.j1 (k1 + 1) a (nb f) false nx mk = some true := by
        by_cases hv : VW nx mk
        · have hle := hv.le
          obtain ⟨k1, g1, _⟩ := Holds_some hv h1
          obtain ⟨k2, g2, _⟩ := Holds_some hv hwn2
          rw [ta] at g1
          rw [tn] at g2
          have hk : k0 ≤ max k0 (max k1 k2) := Nat.le_max_left _ _
          have hdv := dual_V hv f hw [] (fun c hc => by cases hc) hsc (0, 0, 0) (0, 0, 0) (inE_zero _) (inE_zero _) (fun c hc => by cases hc)
          have hvi := (V_spec hv f hw).1 _ (inE_zero nx.length)
          have c1 : bits .and .i64 (V nx mk f (0, 0, 0)) (V nx mk (dual f) (0, 0, 0)) = 0 := by
            rw [hdv, and_zero (n := nx.length) (by omega) hvi (compl_in hv hvi)]
            intro i hti
            rcases Nat.lt_or_ge i nx.length with hl | hl
            · rw [tb_compl hv hvi hl, hti]; rfl
            · exact tb_ge (compl_in hv hvi) hl
          have c2 : bits .or .i64 (V nx mk f (0, 0, 0)) (V nx mk (dual f) (0, 0, 0)) = wrap64 ((shl .i64 1 (nx.length : Int)) - 1) := by
            rw [hdv]
            refine inS_ext (or_in (by omega) hvi (compl_in hv hvi)) (all_in (nx := nx) (by omega)) fun i hl => ?_
            rw [tb_or (n := nx.length) (m := nx.length) (by omega) (by omega) hvi (compl_in hv hvi), tb_compl hv hvi hl]
            show _ = tb (allOf nx) i
            rw [tb_all (by omega)]
            simp [hl]
          refine ⟨max k0 (max k1 k2), hk, ?_⟩
          rw [comfitlaw08_FixesOthers.j1, if_neg (by decide), Of_eq]
          simp only [Option.bind_some]
          rw [lift (fun k => fixes_Holds.mono _ _ _ k) g1 (show k1 ≤ max k0 (max k1 k2) by omega)]
          simp only [Option.bind_some]
          rw [lift (fun k => fixes_Holds.mono _ _ _ k) g2 (show k2 ≤ max k0 (max k1 k2) by omega)]
          simp only [Option.bind_some]
          rw [(hk0 _ hk).valid true (by simp [hv])]
          simp only [Option.bind_some]
          rw [if_pos trivial, if_pos trivial, if_pos trivial, if_pos c1, if_pos c2, (hk0 _ hk).awake]
          rfl
        · have g1 := Holds_bad hv a k0
          have g2 := Holds_bad hv (nb f) k0
          rw [ta] at g1
          rw [tn] at g2
          refine ⟨k0, Nat.le_refl _, ?_⟩
          rw [comfitlaw08_FixesOthers.j1, if_neg (by decide), Of_eq]
          simp only [Option.bind_some]
          rw [g1]
          simp only [Option.bind_some]
          rw [g2]
          simp only [Option.bind_some]
          rw [(hk0 k0 (Nat.le_refl _)).valid false (by simp [hv])]
          simp only [Option.bind_some]
          rw [if_neg (by decide), if_pos trivial, if_pos trivial, (hk0 k0 (Nat.le_refl _)).awake]
          rfl
      obtain ⟨k1, hk1, hl⟩ := last
      refine ⟨k1 + 1 + 1, ?_⟩
      unfold comfitlaw08_FixesOthers.f
      rw [text_eq]
      simp only [Option.bind_some, hn, e1]
      rw [if_pos trivial, (hk0 _ (show k0 ≤ k1 + 1 + 1 by omega)).is, hi]
      simp only [Option.bind_some, Bool.not_true]
      rw [comfitlaw08_FixesOthers.j0, if_neg (by decide), e2]
      simp only [Option.bind_some]
      rw [if_pos trivial, show ((nb (dual f)).toList != a.toList) = false by rw [hbl]; simp, hl]
    · refine bad ⟨#[]⟩ ?_
      unfold fixes_Not.f
      rw [h1]
      simp only
      rw [if_neg hz]
end Go.Proofs.Ytjffhhalmicodaa.L
