import Derived.Test.YtjffhhalmicodaaLh
import Derived.Test.YtjffhhalmicodaaPDx1
import Derived.Laws.Bits64
import Derived.KernelRfl
set_option linter.unusedVariables false
set_option linter.unusedSimpArgs false
namespace Go.Proofs.Ytjffhhalmicodaa.L
open Go.RowKit Go.Proofs.YtjffhhalmicodaaW.PrintWords Go.Proofs.YtjffhhalmicodaaW.PrintLast Go.Proofs.YtjffhhalmicodaaW.PrintMore Go.Proofs.Ytjffhhalmicodaa.X
open Go.Proofs.Ytjffhhalmicodaa.PD (comfitlaw08_FixesWays.f comfitlaw08_FixesWays.j0 comfitlaw08_FixesWays.l0)

section
variable {nx mk : List Int} (hv : VW nx mk)
include hv
theorem reach_facts {s : Int} (hs : InS nx.length s) : InS nx.length (reachTo nx s nx.length) ∧ Sub s (reachTo nx s nx.length) ∧ Sub (stepTo nx (reachTo nx s nx.length)) (reachTo nx s nx.length) ∧
    ∀ M, InS nx.length M → Sub s M → Sub (stepTo nx M) M → Sub (reachTo nx s nx.length) M := by
  have hle := hv.le
  rw [reach_it]
  have hin := it_in hs (fun t ht => R_in hv ht)
  have up : ∀ t, InS nx.length t → Sub t (bits .or .i64 t (stepTo nx t)) := fun t ht i hi => by
    rw [tb_or (by omega) (by omega) ht (tb_step (by omega) t).1, hi]; rfl
  have stand := chain_stands (F := fun t => bits .or .i64 t (stepTo nx t)) (c := it (fun t => bits .or .i64 t (stepTo nx t)) s) (φ := fun k => card nx.length (it (fun t => bits .or .i64 t (stepTo nx t)) s k)) (n := nx.length) (fun k => rfl) (fun k => card_le) (fun k => card_mono (up _ (hin k))) (fun k h => (card_eq (hin k) (hin (k + 1)) (up _ (hin k)) h.symm).symm) nx.length (Nat.le_refl _)
  refine ⟨hin _, ?_, ?_, ?_⟩
  · have hs0 : ∀ k, Sub s (it (fun t => bits .or .i64 t (stepTo nx t)) s k) := by
      intro k
      induction k with
      | zero => exact Sub.refl _
      | succ k ih => exact ih.trans (up _ (hin k))
    exact hs0 _
  · intro i hi
    have e : bits .or .i64 (it (fun t => bits .or .i64 t (stepTo nx t)) s nx.length) (stepTo nx (it (fun t => bits .or .i64 t (stepTo nx t)) s nx.length)) = it (fun t => bits .or .i64 t (stepTo nx t)) s nx.length := stand
    rw [← e, tb_or (by omega) (by omega) (hin _) (tb_step (by omega) _).1, hi, Bool.or_true]
  · intro M hM h1 h2
    have : ∀ k, Sub (it (fun t => bits .or .i64 t (stepTo nx t)) s k) M := by
      intro k
      induction k with
      | zero => exact h1
      | succ k ih =>
        intro i hi
        have hi' : tb (bits .or .i64 (it (fun t => bits .or .i64 t (stepTo nx t)) s k) (stepTo nx (it (fun t => bits .or .i64 t (stepTo nx t)) s k))) i = true := hi
        rw [tb_or (by omega) (by omega) (hin k) (tb_step (by omega) _).1, Bool.or_eq_true] at hi'
        rcases hi' with hi' | hi'
        · exact ih i hi'
        · exact h2 i (step_mono hv (hin k) hM ih i hi')
    exact this _
theorem always_facts {s : Int} (hs : InS nx.length s) : InS nx.length (alwaysTo nx s nx.length) ∧ Sub (alwaysTo nx s nx.length) s ∧ Sub (alwaysTo nx s nx.length) (stepTo nx (alwaysTo nx s nx.length)) ∧
    ∀ M, InS nx.length M → Sub M s → Sub M (stepTo nx M) → Sub M (alwaysTo nx s nx.length) := by
  have hle := hv.le
  rw [always_it]
  have hin := it_in hs (fun t ht => A_in hv ht)
  have down : ∀ t, InS nx.length t → Sub (bits .and .i64 t (stepTo nx t)) t := fun t ht i hi => by
    rw [tb_and (by omega) (by omega) ht (tb_step (by omega) t).1, Bool.and_eq_true] at hi; exact hi.1
  have stand := chain_stands (F := fun t => bits .and .i64 t (stepTo nx t)) (c := it (fun t => bits .and .i64 t (stepTo nx t)) s) (φ := fun k => nx.length - card nx.length (it (fun t => bits .and .i64 t (stepTo nx t)) s k)) (n := nx.length) (fun k => rfl) (fun k => Nat.sub_le _ _) (fun k => by
      have := card_mono (n := nx.length) (down _ (hin k))
      show _ - _ ≤ _ - card nx.length (bits .and .i64 (it (fun t => bits .and .i64 t (stepTo nx t)) s k) (stepTo nx (it (fun t => bits .and .i64 t (stepTo nx t)) s k)))
      omega) (fun k h => by
      have h1 := card_mono (n := nx.length) (down _ (hin k))
      have h2 := card_le (n := nx.length) (a := it (fun t => bits .and .i64 t (stepTo nx t)) s k)
      have h3 : nx.length - card nx.length (bits .and .i64 (it (fun t => bits .and .i64 t (stepTo nx t)) s k) (stepTo nx (it (fun t => bits .and .i64 t (stepTo nx t)) s k))) = nx.length - card nx.length (it (fun t => bits .and .i64 t (stepTo nx t)) s k) := h
      exact card_eq (hin (k + 1)) (hin k) (down _ (hin k)) (by show card nx.length (bits .and .i64 (it (fun t => bits .and .i64 t (stepTo nx t)) s k) (stepTo nx (it (fun t => bits .and .i64 t (stepTo nx t)) s k))) = _; omega)) nx.length (Nat.le_refl _)
  refine ⟨hin _, ?_, ?_, ?_⟩
  · have hs0 : ∀ k, Sub (it (fun t => bits .and .i64 t (stepTo nx t)) s k) s := by
      intro k
      induction k with
      | zero => exact Sub.refl _
      | succ k ih => exact Sub.trans (down _ (hin k)) ih
    exact hs0 _
  · intro i hi
    have e : bits .and .i64 (it (fun t => bits .and .i64 t (stepTo nx t)) s nx.length) (stepTo nx (it (fun t => bits .and .i64 t (stepTo nx t)) s nx.length)) = it (fun t => bits .and .i64 t (stepTo nx t)) s nx.length := stand
    rw [← e, tb_and (by omega) (by omega) (hin _) (tb_step (by omega) _).1, Bool.and_eq_true] at hi
    exact hi.2
  · intro M hM h1 h2
    have : ∀ k, Sub M (it (fun t => bits .and .i64 t (stepTo nx t)) s k) := by
      intro k
      induction k with
      | zero => exact h1
      | succ k ih =>
        intro i hi
        show tb (bits .and .i64 (it (fun t => bits .and .i64 t (stepTo nx t)) s k) (stepTo nx (it (fun t => bits .and .i64 t (stepTo nx t)) s k))) i = true
        rw [tb_and (by omega) (by omega) (hin k) (tb_step (by omega) _).1, Bool.and_eq_true]
        exact ⟨ih i hi, step_mono hv hM (hin k) ih i (h2 i hi)⟩
    exact this _

/-- the least set is what is reached -/
theorem least_reach {j : Nat} (hj : j ≤ 3) : V nx mk (.fix 109 120 (.two 124 (.mark false j) (.one 60 (.var 120)))) (0, 0, 0) = reachTo nx (mset mk j) nx.length := by
  have hle := hv.le
  have hs := (mset_spec hv hj).1
  obtain ⟨r1, r2, r3, r4⟩ := reach_facts hv hs
  have hb : WF (.two 124 (.mark false j) (.one 60 (.var 120))) := ⟨.inr rfl, hj, .inl rfl, by decide, by decide⟩
  have hz := inE_zero nx.length
  have hF := F_in hv (x := 120) hb hz
  have hin : ∀ k, InS nx.length (it (fun t => bits .or .i64 (mset mk j) (stepTo nx t)) 0 k) := it_in (inS_zero _) hF
  have stand := it_stands hv (g := False) hF (F_mono hv hb hz) nx.length (Nat.le_refl _)
  have e : bits .or .i64 (mset mk j) (stepTo nx (it (fun t => bits .or .i64 (mset mk j) (stepTo nx t)) 0 nx.length)) = it (fun t => bits .or .i64 (mset mk j) (stepTo nx t)) 0 nx.length := stand
  refine sub_antisymm (hin nx.length) r1 ?_ (r4 _ (hin nx.length) ?_ ?_)
  · have : ∀ k, Sub (it (fun t => bits .or .i64 (mset mk j) (stepTo nx t)) 0 k) (reachTo nx (mset mk j) nx.length) := by
      intro k
      induction k with
      | zero => exact sub_zero _
      | succ k ih =>
        intro i hi
        have hi' : tb (bits .or .i64 (mset mk j) (stepTo nx (it (fun t => bits .or .i64 (mset mk j) (stepTo nx t)) 0 k))) i = true := hi
        rw [tb_or (by omega) (by omega) hs (tb_step (by omega) _).1, Bool.or_eq_true] at hi'
        rcases hi' with hi' | hi'
        · exact r2 i hi'
        · exact r3 i (step_mono hv (hin k) r1 ih i hi')
    exact this _
  · intro i hi
    show tb (it (fun t => bits .or .i64 (mset mk j) (stepTo nx t)) 0 nx.length) i = true
    rw [← e, tb_or (by omega) (by omega) hs (tb_step (by omega) _).1, hi]
    rfl
  · intro i hi
    have hi' : tb (stepTo nx (it (fun t => bits .or .i64 (mset mk j) (stepTo nx t)) 0 nx.length)) i = true := hi
    show tb (it (fun t => bits .or .i64 (mset mk j) (stepTo nx t)) 0 nx.length) i = true
    rw [← e, tb_or (by omega) (by omega) hs (tb_step (by omega) _).1, hi', Bool.or_true]
/-- the greatest set is where one can stay -/
theorem most_always {j : Nat} (hj : j ≤ 3) : V nx mk (.fix 103 120 (.two 38 (.mark false j) (.one 60 (.var 120)))) (0, 0, 0) = alwaysTo nx (mset mk j) nx.length := by
  have hle := hv.le
  have hs := (mset_spec hv hj).1
  obtain ⟨r1, r2, r3, r4⟩ := always_facts hv hs
  have hb : WF (.two 38 (.mark false j) (.one 60 (.var 120))) := ⟨.inl rfl, hj, .inl rfl, by decide, by decide⟩
  have hz := inE_zero nx.length
  have hF := F_in hv (x := 120) hb hz
  have ha := all_in (nx := nx) (by omega)
  have hin : ∀ k, InS nx.length (it (fun t => bits .and .i64 (mset mk j) (stepTo nx t)) (allOf nx) k) := it_in ha hF
  have stand := it_stands hv (g := True) hF (F_mono hv hb hz) nx.length (Nat.le_refl _)
  have e : bits .and .i64 (mset mk j) (stepTo nx (it (fun t => bits .and .i64 (mset mk j) (stepTo nx t)) (allOf nx) nx.length)) = it (fun t => bits .and .i64 (mset mk j) (stepTo nx t)) (allOf nx) nx.length := stand
  have spl : ∀ i, tb (it (fun t => bits .and .i64 (mset mk j) (stepTo nx t)) (allOf nx) nx.length) i = true → tb (mset mk j) i = true ∧ tb (stepTo nx (it (fun t => bits .and .i64 (mset mk j) (stepTo nx t)) (allOf nx) nx.length)) i = true := by
    intro i hi
    rw [← e, tb_and (by omega) (by omega) hs (tb_step (by omega) _).1, Bool.and_eq_true] at hi
    exact hi
  refine sub_antisymm (hin nx.length) r1 (r4 _ (hin nx.length) (fun i hi => (spl i hi).1) (fun i hi => (spl i hi).2)) ?_
  have : ∀ k, Sub (alwaysTo nx (mset mk j) nx.length) (it (fun t => bits .and .i64 (mset mk j) (stepTo nx t)) (allOf nx) k) := by
    intro k
    induction k with
    | zero => exact sub_all (by omega) r1
    | succ k ih =>
      intro i hi
      show tb (bits .and .i64 (mset mk j) (stepTo nx (it (fun t => bits .and .i64 (mset mk j) (stepTo nx t)) (allOf nx) k))) i = true
      rw [tb_and (by omega) (by omega) hs (tb_step (by omega) _).1, Bool.and_eq_true]
      exact ⟨r2 i hi, step_mono hv r1 (hin k) ih i (r3 i hi)⟩
  exact this _
end

theorem dig_of (a : Int) : ∃ j : Nat, j ≤ 3 ∧ wrap64 (Int.tmod (IntKind.u64.wrap a) 4) = (j : Int) := by
  rw [IntKind.wrap_u64]
  have h0 : 0 ≤ a % 18446744073709551616 := Int.emod_nonneg _ (by decide)
  rw [Int.tmod_eq_emod_of_nonneg h0]
  refine ⟨(a % 18446744073709551616 % 4).toNat, by omega, ?_⟩
  unfold wrap64
  omega
def dg (j : Nat) : ByteArray := ⟨#[UInt8.ofNat (48 + j)]⟩
theorem enc_0 : Go.Utf8.encode (wrap32 (wrap64 (48 + ((0 : Nat) : Int)))) = dg 0 := by kernel_rfl
theorem enc_1 : Go.Utf8.encode (wrap32 (wrap64 (48 + ((1 : Nat) : Int)))) = dg 1 := by kernel_rfl
theorem enc_2 : Go.Utf8.encode (wrap32 (wrap64 (48 + ((2 : Nat) : Int)))) = dg 2 := by kernel_rfl
theorem enc_3 : Go.Utf8.encode (wrap32 (wrap64 (48 + ((3 : Nat) : Int)))) = dg 3 := by kernel_rfl
theorem enc_of {j : Nat} (hj : j ≤ 3) : Go.Utf8.encode (wrap32 (wrap64 (48 + (j : Int)))) = dg j := by
  have h : j = 0 ∨ j = 1 ∨ j = 2 ∨ j = 3 := by omega
  rcases h with rfl | rfl | rfl | rfl
  · exact enc_0
  · exact enc_1
  · exact enc_2
  · exact enc_3
theorem cs_dg {j : Nat} (hj : j ≤ 3) : cs (dg j) = [48 + j] := by
  unfold cs dg
  simp
  omega

theorem whole_mark {j : Nat} (hj : j ≤ 3) : whole [48 + j] = some (.mark false j) := by
  have h : j = 0 ∨ j = 1 ∨ j = 2 ∨ j = 3 := by omega
  rcases h with rfl | rfl | rfl | rfl <;> rfl
theorem whole_least {j : Nat} (hj : j ≤ 3) : whole [109, 120, 124, 48 + j, 60, 120] = some (.fix 109 120 (.two 124 (.mark false j) (.one 60 (.var 120)))) := by
  have h : j = 0 ∨ j = 1 ∨ j = 2 ∨ j = 3 := by omega
  rcases h with rfl | rfl | rfl | rfl <;> rfl
theorem whole_most {j : Nat} (hj : j ≤ 3) : whole [103, 120, 38, 48 + j, 60, 120] = some (.fix 103 120 (.two 38 (.mark false j) (.one 60 (.var 120)))) := by
  have h : j = 0 ∨ j = 1 ∨ j = 2 ∨ j = 3 := by omega
  rcases h with rfl | rfl | rfl | rfl <;> rfl
theorem cs_app' (a b : ByteArray) : cs (a ++ b) = cs a ++ cs b := by
  unfold cs
  simp
theorem Holds_at {nx mk : List Int} (hv : VW nx mk) {a : ByteArray} {f : Fm} (hw : whole (cs a) = some f) (hl : (cs a).length ≤ 40) : ∃ k, fixes_Holds.f k (nx.take 9) (mk.take 9) a = some (V nx mk f (0, 0, 0), 0) := by
  have h1 : wholeS 40 a = some f := by unfold wholeS; rw [if_pos (by rw [← cs_length]; exact hl)]; exact hw
  have hi : IsB a = true := by unfold IsB; rw [h1]; rfl
  obtain ⟨k, h, _⟩ := Holds_some hv h1
  rw [txt_of hi] at h
  exact ⟨k, h⟩

theorem ways_loop {nx mk : List Int} (hl : mk.length ≤ 6) {j : Nat} (hj : j ≤ 3) {b : ByteArray} {s : Int} {K : Nat} (tail : comfitlaw08_FixesWays.l0 (K + 1) (j : Int) b s (rmarkTo mk j mk.length) mk (mk.length : Int) (mk.length : Int) nx mk = some true) :
    ∀ d i : Nat, i + d = mk.length → comfitlaw08_FixesWays.l0 (K + 1 + d) (j : Int) b s (rmarkTo mk j i) mk (mk.length : Int) (i : Int) nx mk = some true := by
  intro d
  induction d with
  | zero =>
    intro i hi
    obtain rfl : i = mk.length := by omega
    exact tail
  | succ d ih =>
    intro i hi
    have hw : wrap64 ((i : Int) + 1) = ((i + 1 : Nat) : Int) := by unfold wrap64; omega
    have h := ih (i + 1) (by omega)
    rw [← Nat.add_assoc, comfitlaw08_FixesWays.l0, if_pos (by omega), if_pos (by omega), if_pos (by omega), if_pos (by omega), hw]
    rw [rmarkTo] at h
    have e1 : shr .i64 (rd mk i) (j : Int) = rd mk i / 2 ^ j := by
      unfold shr
      rw [show min (j : Int).toNat IntKind.i64.bits = j by simp [IntKind.bits]; omega]
    have e2 : shl .i64 (Go.bits .and .i64 (rd mk i / 2 ^ j) 1) (i : Int) = wrap64 (bits .and .i64 (rd mk i / 2 ^ j) 1 * 2 ^ min i 64) := by
      rw [shl, i64_w, show min (i : Int).toNat IntKind.i64.bits = min i 64 by simp [IntKind.bits]]
    rw [e1, e2]
    exact h

theorem Pure_FixesWays (nx mk : List Int) (a : Int) : ∃ k, comfitlaw08_FixesWays.f k nx mk a = some true := by
  obtain ⟨k0, hk0⟩ := ready nx mk ByteArray.empty
  obtain ⟨j, hj, hd⟩ := dig_of a
  have he := enc_of hj
  have hw1 : whole (cs (dg j)) = some (.mark false j) := by rw [cs_dg hj]; exact whole_mark hj
  have hws : wholeS 40 (dg j) = some (.mark false j) := by unfold wholeS; rw [if_pos (show (dg j).size ≤ 40 from (by decide : 1 ≤ 40))]; exact hw1
  have hib : IsB (dg j) = true := by unfold IsB; rw [hws]; rfl
  by_cases hv : VW nx mk
  · have hle := hv.le
    have hs := (mset_spec hv hj).1
    obtain ⟨r1, r2, r3, r4⟩ := reach_facts hv hs
    obtain ⟨q1, q2, q3, q4⟩ := always_facts hv hs
    obtain ⟨k1, g1⟩ := Holds_at hv hw1 (by rw [cs_dg hj]; exact (by decide : 1 ≤ 40))
    have hc2 : cs (((⟨#[109, 120, 124]⟩ : ByteArray) ++ dg j) ++ (⟨#[60, 120]⟩ : ByteArray)) = [109, 120, 124, 48 + j, 60, 120] := by rw [cs_app', cs_app', cs_dg hj]; rfl
    have hc3 : cs (((⟨#[103, 120, 38]⟩ : ByteArray) ++ dg j) ++ (⟨#[60, 120]⟩ : ByteArray)) = [103, 120, 38, 48 + j, 60, 120] := by rw [cs_app', cs_app', cs_dg hj]; rfl
    obtain ⟨k2, g2⟩ := Holds_at hv (a := ((⟨#[109, 120, 124]⟩ : ByteArray) ++ dg j) ++ (⟨#[60, 120]⟩ : ByteArray)) (by rw [hc2]; exact whole_least hj) (by rw [hc2]; exact (by decide : 6 ≤ 40))
    obtain ⟨k3, g3⟩ := Holds_at hv (a := ((⟨#[103, 120, 38]⟩ : ByteArray) ++ dg j) ++ (⟨#[60, 120]⟩ : ByteArray)) (by rw [hc3]; exact whole_most hj) (by rw [hc3]; exact (by decide : 6 ≤ 40))
    rw [least_reach hv hj] at g2
    rw [most_always hv hj] at g3
    have g1' : fixes_Holds.f k1 (nx.take 9) (mk.take 9) (dg j) = some (mset mk j, 0) := g1
    have hr : fixes_Reach.f (nx.take 9) (mk.take 9) (mset mk j) = some (reachTo nx (mset mk j) nx.length, 0) := by
      unfold fixes_Reach.f
      rw [(take_of hv).1, (take_of hv).2, isSet_true hv hs]
      rfl
    have ha : fixes_Always.f (nx.take 9) (mk.take 9) (mset mk j) = some (alwaysTo nx (mset mk j) nx.length, 0) := by
      unfold fixes_Always.f
      rw [(take_of hv).1, (take_of hv).2, isSet_true hv hs]
      rfl
    have z1 : bits .andNot .i64 (mset mk j) (reachTo nx (mset mk j) nx.length) = 0 := (andNot_zero (n := nx.length) (by omega) hs r1).2 r2
    have z2 : bits .andNot .i64 (alwaysTo nx (mset mk j) nx.length) (mset mk j) = 0 := (andNot_zero (n := nx.length) (by omega) q1 hs).2 q2
    have hsz : (dg j).size = 1 := rfl
    have hsz2 : ((⟨#[109, 120, 124]⟩ : ByteArray) ++ dg j).size = 4 := by rw [ByteArray.size_append, hsz]; rfl
    have hsz3 : ((⟨#[103, 120, 38]⟩ : ByteArray) ++ dg j).size = 4 := by rw [ByteArray.size_append, hsz]; rfl
    let K := max (max k0 k1) (max k2 k3)
    have hK0 : k0 ≤ K := by omega
    have hK2 : k2 ≤ K := by omega
    have hK3 : k3 ≤ K := by omega
    have tail : comfitlaw08_FixesWays.l0 (K + 1) (j : Int) (dg j) (mset mk j) (rmarkTo mk j mk.length) mk (mk.length : Int) (mk.length : Int) nx mk = some true := by
      rw [comfitlaw08_FixesWays.l0, if_neg (by omega), Of_eq]
      simp only [Option.bind_some, hr, ha]
      rw [hsz, if_pos (by decide), hsz2, if_pos (by decide), lift (fun k => fixes_Holds.mono _ _ _ k) g2 hK2]
      simp only [Option.bind_some]
      rw [hsz3, if_pos (by decide), lift (fun k => fixes_Holds.mono _ _ _ k) g3 hK3]
      simp only [Option.bind_some]
      have hm : mset mk j = rmarkTo mk j mk.length := by
        rw [rmarkTo_eq hj mk.length (by rw [hv.len]; omega) (fun i hi => hv.marks i (by rw [hv.len] at hi; exact hi))]
        rfl
      rw [if_pos hm, if_pos trivial, if_pos trivial, if_pos trivial, if_pos trivial, if_pos trivial, if_pos trivial, if_pos z1, if_pos z2, (hk0 K hK0).awake]
      rfl
    have loop := ways_loop (by rw [hv.len]; exact hle) hj tail
    refine ⟨K + 1 + mk.length + 1, ?_⟩
    unfold comfitlaw08_FixesWays.f
    rw [Of_eq, hd, he]
    simp only [Option.bind_some]
    rw [lift (fun k => fixes_Holds.mono _ _ _ k) g1' (show k1 ≤ K + 1 + mk.length + 1 by omega)]
    simp only [Option.bind_some]
    rw [if_pos trivial, (hk0 _ (show k0 ≤ K + 1 + mk.length + 1 by omega)).valid true (by simp [hv])]
    simp only [Option.bind_some, Bool.not_true]
    rw [comfitlaw08_FixesWays.j0, if_neg (by decide)]
    exact loop mk.length 0 (by omega)
  · have g := Holds_bad hv (dg j) (k0 + 1)
    rw [txt_of hib] at g
    refine ⟨k0 + 1, ?_⟩
    unfold comfitlaw08_FixesWays.f
    rw [Of_eq, hd, he]
    simp only [Option.bind_some]
    rw [g]
    simp only [Option.bind_some]
    rw [if_neg (by decide), comfitlaw08_FixesWays.j0, if_pos rfl, if_pos rfl, (hk0 k0 (Nat.le_refl _)).awake]
    rfl
end Go.Proofs.Ytjffhhalmicodaa.L
