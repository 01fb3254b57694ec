/- Texts of this claim, merged by a program (wip/tools/shake.py); what nothing names is left out. -/
import Derived.Test.YtjffhhalmicodaaProg
import Derived.Below
import Derived.Deep.Draws
import Derived.Deep.AppendLies
import Derived.Maps.AppendAt
import Derived.OwnWalk
import Derived.Laws.BytesArg
import Derived.Laws.MakeOwn
import Derived.Laws.OwnMore
import Derived.Deep.OwnRows
import Derived.Tactics
import Derived.Lib.ConvBytes
import Derived.Laws.Slices
import Derived.WalkKit
import Derived.KernelRfl
import Derived.RowKit3
import Derived.Deep.LoopGhost
import Derived.Deep.QuietTactic
import Derived.BigQuiet
import Derived.WideLaws
import Derived.Deep.DeepCutAuto
import Derived.Deep.CutBlock
import Derived.Deep.RegionHeld3
import Derived.Laws.Rows
import Derived.Lib.AppendStr
import Derived.ArgAppend
import Derived.Laws.IdiomCopy
import Derived.OrdersHeld
import Derived.Laws.BitsLemmas
import Derived.RowKit
import Derived.Test.YtjffhhalmicodaaSde
section
set_option linter.unusedVariables false
set_option linter.unusedSimpArgs false
namespace Go.Proofs.Ytjffhhalmicodaa.X
open Go.RowKit Go.Proofs.G.PrintWords Go.Proofs.G.PrintLast Go.Proofs.G.PrintMore
set_option maxRecDepth 100000 in
set_option maxHeartbeats 4000000 in
theorem tell_one (nx mk : List Int) (L : List (List Int)) (d s t : Nat) (r : ByteArray) (A0 : Option Addr) (c0 : Nat) (A1 : Option Addr) (c1 : Nat) (AL : Option Addr) (cL : Nat) (w : World) (hr0 : Kd.C (Kd.int .i64) w A0 nx.length nx) (hc0 : nx.length ≤ c0) (hr1 : Kd.C (Kd.int .i64) w A1 mk.length mk) (hc1 : mk.length ≤ c1) (hrL : Kd.C (Kd.slice 3 (Kd.int .i64)) w AL L.length L) (hcL : L.length ≤ cL)
    (hdL : d < L.length) (hbl : ∀ j, j < L.length → (L.getD j []).length = nx.length) (hs : s < nx.length) (ht : t < nx.length) (h61 : nx.length ≤ 61) (hL : L.length ≤ 1000) (hnm : nx.length ≤ mk.length) (T : Nat → Nat → Nat → Option ByteArray) (IH : TellC nx mk L T) (e : Nat) (hdec : decTo L s t d = e + 1) (hs1 : someF T nx L (e + 1) s t ⟨#[60]⟩ ⟨#[38]⟩ ⟨#[116]⟩ false = some (r, true)) :
    Calls Try.prog 67 #[.agg #[.slice A0 nx.length c0, .slice A1 mk.length c1], .slice AL L.length cL, .int .i64 d, .int .i64 s, .int .i64 t] w fun e w' => e = .returned (.string r) ∧ Below w.heap.size w w' := by
  have hu := Try.underlying28
  obtain ⟨bL, oL, rfl, _⟩ := rows_at hrL (by omega)
  have HBL := Lib.hid hbl
  have HDEC := Lib.hid hdec
  have HS1 := Lib.hid hs1
  have HIH := Lib.hid IH
  clear hs1 IH
  have HR0 := Lib.hid hr0
  have HR1 := Lib.hid hr1
  have HRL := Lib.hid hrL
  clear hr0 hr1 hrL hbl hdec
  go_enter Try.func67, Try.ntmps67
  go_wp2_with (first | ((with_reducible refine gate_dst (N := 5) rfl ?_); refine box_event ?hg (N := 5) ?hd (cs := #[.slice A0 nx.length c0, .slice A1 mk.length c1]) (t := 28) ?hr ?_; (case hd => rfl); (case hg => rfl); (case hr => first | (go_simp; done) | (go_simp; rfl)); intro gw hgw wa hbw hbb; have HT0 := Lib.hid (show TS w gw A0 A1 (some ⟨bL, oL, none⟩) c0 c1 nx mk L wa from ⟨bst (Below.refl w.heap.size w) hbb, hbw, Kd.C_below HR0.out hbb, Kd.C_below HR1.out hbb, Kd.C_below HRL.out hbb⟩); clear hgw hbw hbb HR0 HR1 HRL) | fail)
  go_loopw [2] (fun v2 wr => ∃ d' : Nat, d' ≤ d ∧ v2 = .int .i64 d' ∧ Hid (decTo L s t d' = decTo L s t d) ∧ Hid (TS w gw A0 A1 (some ⟨bL, oL, none⟩) c0 c1 nx mk L wr)) (fun v2 _ => (intOf v2).toNat)
  case atStart => exact ⟨d, Nat.le_refl _, rfl, Lib.hid rfl, HT0⟩
  case round =>
    clear HT0
    obtain ⟨d', hd', rfl, HD, HT⟩ := hrel
    cases d' with
    | zero => exact absurd (HD.out.trans HDEC.out) (by simp [decTo])
    | succ e' =>
      obtain ⟨b', o', e1_, hLc⟩ := rows_at HT.out.rL (by omega)
      obtain ⟨rfl, rfl⟩ : bL = b' ∧ oL = o' := by injection e1_ with e1_; injection e1_ with e1 e2; exact ⟨e1, e2⟩
      obtain ⟨A2, c2, q1, q2, q3⟩ := hLc e' (by omega)
      have hbe := HBL.out e' (by omega)
      have hdq := HD.out
      rw [decTo] at hdq
      generalize L.getD e' [] = row at q1 q2 q3 hbe hdq
      obtain ⟨b2, o2, rfl, _, hrc⟩ := ints_at q3 (by omega)
      have p1 := hrc s (by omega)
      have p2 := hrc t (by omega)
      have hsr : (s : Int) < (row.length : Int) := by omega
      have htr : (t : Int) < (row.length : Int) := by omega
      have hd1 : ((e' : Int) + 1 - 1) = (e' : Int) := by omega
      clear hrc q3 e1_ hLc hbe
      by_cases heq : rd row (s : Int) = rd row (t : Int)
      · rw [if_pos heq] at hdq
        have hee : e' = e := by have := HDEC.out; omega
        subst hee
        have hne : (rd row (s : Int) != rd row (t : Int)) = false := by rw [heq]; simp
        clear heq hdq
        go_wp2_with fail
        go_quiet (fail)
        have HT2 := Lib.hid (HT.out.step (pwd (Below.refl wr.heap.size wr) nq))
        have r0 := HT2.out.reads.1
        have r1 := HT2.out.reads.2
        clear HT q1 p1 p2
        generalize wr.drewN nq = wk at HT2 r0 r1 ⊢
        go_wp2_with fail
        refine (some_calls HIH.out e' s t ⟨#[60]⟩ ⟨#[38]⟩ ⟨#[116]⟩ false r true HS1.out A0 c0 A1 c1 (some ⟨bL, oL, none⟩) cL wk HT2.out.r0 hc0 HT2.out.r1 hc1 HT2.out.rL hcL).mono ?_
        rintro e w6 ⟨rfl, hb⟩
        have HT3 := Lib.hid (HT2.out.step hb)
        clear hb HT2 r0 r1
        go_wp2_with fail
        go_ret
        exact ⟨rfl, HT3.out.below⟩
      · rw [if_neg heq] at hdq
        have HD2 := Lib.hid hdq
        have hne : (rd row (s : Int) != rd row (t : Int)) = true := by rw [bne_iff_ne]; exact heq
        clear heq hdq
        go_wp2_with fail
        go_quiet (fail)
        go_wp2_with fail
        go_roundw
        case rel => exact ⟨e', by omega, rfl, HD2, Lib.hid (HT.out.step (pwd (Below.refl _ _) _))⟩
        case measure => simp [intOf]
set_option maxRecDepth 100000 in
set_option maxHeartbeats 4000000 in
theorem tell_two (nx mk : List Int) (L : List (List Int)) (d s t : Nat) (r : ByteArray) (A0 : Option Addr) (c0 : Nat) (A1 : Option Addr) (c1 : Nat) (AL : Option Addr) (cL : Nat) (w : World) (hr0 : Kd.C (Kd.int .i64) w A0 nx.length nx) (hc0 : nx.length ≤ c0) (hr1 : Kd.C (Kd.int .i64) w A1 mk.length mk) (hc1 : mk.length ≤ c1) (hrL : Kd.C (Kd.slice 3 (Kd.int .i64)) w AL L.length L) (hcL : L.length ≤ cL)
    (hdL : d < L.length) (hbl : ∀ j, j < L.length → (L.getD j []).length = nx.length) (hs : s < nx.length) (ht : t < nx.length) (h61 : nx.length ≤ 61) (hL : L.length ≤ 1000) (hnm : nx.length ≤ mk.length) (T : Nat → Nat → Nat → Option ByteArray) (IH : TellC nx mk L T) (e : Nat) (hdec : decTo L s t d = e + 1) (r1 : ByteArray) (hs1 : someF T nx L (e + 1) s t ⟨#[60]⟩ ⟨#[38]⟩ ⟨#[116]⟩ false = some (r1, false)) (ok : Bool) (hs2 : someF T nx L (e + 1) t s ⟨#[91]⟩ ⟨#[124]⟩ ⟨#[102]⟩ true = some (r, ok)) :
    Calls Try.prog 67 #[.agg #[.slice A0 nx.length c0, .slice A1 mk.length c1], .slice AL L.length cL, .int .i64 d, .int .i64 s, .int .i64 t] w fun e w' => e = .returned (.string r) ∧ Below w.heap.size w w' := by
  have hu := Try.underlying28
  obtain ⟨bL, oL, rfl, _⟩ := rows_at hrL (by omega)
  have HBL := Lib.hid hbl
  have HDEC := Lib.hid hdec
  have HS1 := Lib.hid hs1
  have HS2 := Lib.hid hs2
  have HIH := Lib.hid IH
  clear hs1 hs2 IH
  have HR0 := Lib.hid hr0
  have HR1 := Lib.hid hr1
  have HRL := Lib.hid hrL
  clear hr0 hr1 hrL hbl hdec
  go_enter Try.func67, Try.ntmps67
  go_wp2_with (first | ((with_reducible refine gate_dst (N := 5) rfl ?_); refine box_event ?hg (N := 5) ?hd (cs := #[.slice A0 nx.length c0, .slice A1 mk.length c1]) (t := 28) ?hr ?_; (case hd => rfl); (case hg => rfl); (case hr => first | (go_simp; done) | (go_simp; rfl)); intro gw hgw wa hbw hbb; have HT0 := Lib.hid (show TS w gw A0 A1 (some ⟨bL, oL, none⟩) c0 c1 nx mk L wa from ⟨bst (Below.refl w.heap.size w) hbb, hbw, Kd.C_below HR0.out hbb, Kd.C_below HR1.out hbb, Kd.C_below HRL.out hbb⟩); clear hgw hbw hbb HR0 HR1 HRL) | fail)
  go_loopw [2] (fun v2 wr => ∃ d' : Nat, d' ≤ d ∧ v2 = .int .i64 d' ∧ Hid (decTo L s t d' = decTo L s t d) ∧ Hid (TS w gw A0 A1 (some ⟨bL, oL, none⟩) c0 c1 nx mk L wr)) (fun v2 _ => (intOf v2).toNat)
  case atStart => exact ⟨d, Nat.le_refl _, rfl, Lib.hid rfl, HT0⟩
  case round =>
    clear HT0
    obtain ⟨d', hd', rfl, HD, HT⟩ := hrel
    cases d' with
    | zero => exact absurd (HD.out.trans HDEC.out) (by simp [decTo])
    | succ e' =>
      obtain ⟨b', o', e1_, hLc⟩ := rows_at HT.out.rL (by omega)
      obtain ⟨rfl, rfl⟩ : bL = b' ∧ oL = o' := by injection e1_ with e1_; injection e1_ with e1 e2; exact ⟨e1, e2⟩
      obtain ⟨A2, c2, q1, q2, q3⟩ := hLc e' (by omega)
      have hbe := HBL.out e' (by omega)
      have hdq := HD.out
      rw [decTo] at hdq
      generalize L.getD e' [] = row at q1 q2 q3 hbe hdq
      obtain ⟨b2, o2, rfl, _, hrc⟩ := ints_at q3 (by omega)
      have p1 := hrc s (by omega)
      have p2 := hrc t (by omega)
      have hsr : (s : Int) < (row.length : Int) := by omega
      have htr : (t : Int) < (row.length : Int) := by omega
      have hd1 : ((e' : Int) + 1 - 1) = (e' : Int) := by omega
      clear hrc q3 e1_ hLc hbe
      by_cases heq : rd row (s : Int) = rd row (t : Int)
      · rw [if_pos heq] at hdq
        have hee : e' = e := by have := HDEC.out; omega
        subst hee
        have hne : (rd row (s : Int) != rd row (t : Int)) = false := by rw [heq]; simp
        clear heq hdq
        go_wp2_with fail
        go_quiet (fail)
        have HT2 := Lib.hid (HT.out.step (pwd (Below.refl wr.heap.size wr) nq))
        have r0 := HT2.out.reads.1
        have r1_ := HT2.out.reads.2
        clear HT q1 p1 p2
        generalize wr.drewN nq = wk at HT2 r0 r1_ ⊢
        go_wp2_with fail
        refine (some_calls HIH.out e' s t ⟨#[60]⟩ ⟨#[38]⟩ ⟨#[116]⟩ false r1 false HS1.out A0 c0 A1 c1 (some ⟨bL, oL, none⟩) cL wk HT2.out.r0 hc0 HT2.out.r1 hc1 HT2.out.rL hcL).mono ?_
        rintro e w6 ⟨rfl, hb⟩
        have HT3 := Lib.hid (HT2.out.step hb)
        clear hb HT2 r0 r1_
        have r0 := HT3.out.reads.1
        have r1_ := HT3.out.reads.2
        go_wp2_with fail
        refine (some_calls HIH.out e' t s ⟨#[91]⟩ ⟨#[124]⟩ ⟨#[102]⟩ true r ok HS2.out A0 c0 A1 c1 (some ⟨bL, oL, none⟩) cL w6 HT3.out.r0 hc0 HT3.out.r1 hc1 HT3.out.rL hcL).mono ?_
        rintro e w7 ⟨rfl, hb⟩
        have HT4 := Lib.hid (HT3.out.step hb)
        clear hb HT3 r0 r1_
        go_wp2_with fail
        go_ret
        exact ⟨rfl, HT4.out.below⟩
      · rw [if_neg heq] at hdq
        have HD2 := Lib.hid hdq
        have hne : (rd row (s : Int) != rd row (t : Int)) = true := by rw [bne_iff_ne]; exact heq
        clear heq hdq
        go_wp2_with fail
        go_quiet (fail)
        go_wp2_with fail
        go_roundw
        case rel => exact ⟨e', by omega, rfl, HD2, Lib.hid (HT.out.step (pwd (Below.refl _ _) _))⟩
        case measure => simp [intOf]
theorem tell_step {nx mk : List Int} {L : List (List Int)} {T : Nat → Nat → Nat → Option ByteArray} (IH : TellC nx mk L T) : TellC nx mk L (tellF nx mk L T) := by
 intro d s t r h A0 c0 A1 c1 AL cL w hr0 hc0 hr1 hc1 hrL hcL
 unfold tellF at h
 split at h
 ·rename_i hc
  obtain ⟨h1, h2, h3, h4, h5, h6, h7⟩ := hc
  split at h
  ·rename_i hd
   exact tell_mark nx mk L d s t r A0 c0 A1 c1 AL cL w hr0 hc0 hr1 hc1 hrL hcL h1 h2 h3 h4 h5 h6 h7 hd h
  ·rename_i e hd
   obtain ⟨p, hp, h⟩ := Option.bind_eq_some_iff.mp h
   obtain ⟨r1, ok1⟩ := p
   cases ok1 with
   | true =>
    simp only [if_true, Option.some.injEq] at h
    subst h
    exact tell_one nx mk L d s t r1 A0 c0 A1 c1 AL cL w hr0 hc0 hr1 hc1 hrL hcL h1 h2 h3 h4 h5 h6 h7 T IH e hd hp
   | false =>
    simp only [Bool.false_eq_true, if_false] at h
    obtain ⟨q, hq, h⟩ := Option.bind_eq_some_iff.mp h
    obtain ⟨r2, ok2⟩ := q
    simp only [Option.some.injEq] at h
    subst h
    exact tell_two nx mk L d s t r2 A0 c0 A1 c1 AL cL w hr0 hc0 hr1 hc1 hrL hcL h1 h2 h3 h4 h5 h6 h7 T IH e hd r1 hp ok2 hq
 ·cases h
theorem tell_all (nx mk : List Int) (L : List (List Int)) : ∀ k, TellC nx mk L (tellK nx mk L k)
  | 0 => fun d s t r h => by simp [tellK] at h
  | k + 1 => tell_step (tell_all nx mk L k)
end Go.Proofs.Ytjffhhalmicodaa.X
end

section
set_option linter.unusedVariables false
set_option linter.unusedSimpArgs false
namespace Go.Proofs.Ytjffhhalmicodaa.X
open Go.RowKit Go.Proofs.G.PrintWords Go.Proofs.G.PrintLast Go.Proofs.G.PrintMore
attribute [local go_sem] max2_int min2_int max_two min_two max_three min_three max_four min_four
def accD (rs : Nat → Option Nat) : Nat → Option Nat
  | 0 => some 0
  | k + 1 => (accD rs k).bind fun m => (rs k).bind fun r => some (max m r)
def depEnd (o : Option Nat) : Ending := match o with
  | none => .returned (.tuple #[.int .i64 0, .bool false])
  | some m => .returned (.tuple #[.int .i64 (m : Int), .bool true])
def depRes (up : Bool) (o : Option Nat) : Ending := depEnd (o.map fun m => if up = true then m + 1 else m)
theorem accD_prefix {rs : Nat → Option Nat} : ∀ n k, k ≤ n → accD rs k = none → accD rs n = none
  | 0, k, h, e => by obtain rfl : k = 0 := by omega
                     exact e
  | n + 1, k, h, e => by
    by_cases q : k = n + 1
    · exact q ▸ e
    · rw [accD, accD_prefix n k (by omega) e]
      rfl
set_option maxRecDepth 100000 in
set_option maxHeartbeats 2000000 in
theorem depth_rest (d : Nat) (up : Bool) (hup : (((d : Int) == 60) || ((d : Int) == 91)) = up) (gn : Nat) (A : Option Addr) (cp : Nat) (ks : Nat → Value) (n : Nat) (rs : Nat → Option Nat) (w : World) (hn0 : w.cell? ⟨gn, 0, none⟩ = some (.int .u8 (d : Int))) (hn2 : w.cell? ⟨gn, 2, none⟩ = some (.int .u8 0)) (hn3 : w.cell? ⟨gn, 3, none⟩ = some (.slice A n cp))
    (hA : ∀ i, i < n → ∃ b off, A = some ⟨b, off, none⟩ ∧ w.cell? ⟨b, off + i, none⟩ = some (ks i))
    (hc : ∀ i, i < n → ∀ W, Below w.heap.size w W → Calls Try.prog 68 #[ks i] W fun e w' => e = depEnd (rs i) ∧ Below W.heap.size W w')
    (hl : n ≤ 2) (hz : ∀ i m, i ≤ n → accD rs i = some m → m ≤ 100000) (hz2 : ∀ i m, i < n → rs i = some m → m ≤ 100000) :
    Calls Try.prog 68 #[.pointer (some ⟨gn, 0, none⟩)] w fun e w' => e = depRes up (accD rs n) ∧ Below w.heap.size w w' := by
  have HA := Lib.hid hA
  have HC := Lib.hid hc
  have HZ := Lib.hid hz
  have HZ2 := Lib.hid hz2
  have HL := Lib.hid hl
  have HUP := Lib.hid hup
  clear hA hc hz hl hz2 hup
  have hu2 := Try.underlying74
  go_enter Try.func68, Try.ntmps68
  go_wp2_with fail
  go_loopw [2, 18] (fun v i wr => ∃ (k m : Nat), k ≤ n ∧ i = .int .i64 k ∧ v = .int .i64 (m : Int) ∧ Hid (accD rs k = some m) ∧ Hid (Below w.heap.size w wr)) (fun _ i _ => n - (intOf i).toNat)
  case atStart => exact ⟨0, 0, by omega, rfl, rfl, Lib.hid rfl, Lib.hid (Below.refl _ _)⟩
  case round =>
    obtain ⟨k, m, hk, rfl, rfl, HM, HB⟩ := hrel
    by_cases hlt : k < n
    · obtain ⟨b, off, rfl, hcell⟩ := HA.out k hlt
      have hcell2 := pwc HB.out hcell
      have HP := Lib.hid (HC.out k hlt wr HB.out)
      clear hcell
      go_wp2_with fail
      refine HP.out.mono ?_
      rintro e w2 ⟨he, hb'⟩
      have HB' := Lib.hid (bst HB.out hb')
      clear hb'
      cases hr : rs k with
      | none =>
        rw [hr] at he
        have he' : e = .returned (.tuple #[.int .i64 0, .bool false]) := he
        subst he'
        have HN := Lib.hid (show accD rs n = none from accD_prefix n (k + 1) (by omega) (by rw [accD, HM.out, Option.bind_some, hr]; rfl))
        clear he hr
        have hl := HL.out
        go_wp2_with fail
        go_ret2
        exact ⟨by rw [HN.out]; rfl, HB'.out⟩
      | some r =>
        rw [hr] at he
        have he' : e = .returned (.tuple #[.int .i64 (r : Int), .bool true]) := he
        subst he'
        have HN := Lib.hid (show accD rs (k + 1) = some (max m r) by rw [accD, HM.out, Option.bind_some, hr]; rfl)
        clear he hr
        have hl := HL.out
        go_wp2_with fail
        go_roundw
        case rel => exact ⟨k + 1, max m r, by omega, by go_num, by congr 1; split <;> omega, HN, HB'⟩
        case measure => simp [intOf]; omega
    · obtain rfl : k = n := by omega
      have hm := HZ.out k m (Nat.le_refl _) HM.out
      have hnb := pwc HB.out hn0
      cases hd60 : ((d : Int) == 60) with
      | true =>
        have HUP2 := Lib.hid (show up = true by rw [← HUP.out, hd60]; rfl)
        go_wp2_with fail
        go_ret2
        exact ⟨by rw [HM.out, HUP2.out]; simp [depRes, depEnd], HB.out⟩
      | false =>
        cases hd91 : ((d : Int) == 91) with
        | true =>
          have HUP2 := Lib.hid (show up = true by rw [← HUP.out, hd60, hd91]; rfl)
          go_wp2_with fail
          go_ret2
          exact ⟨by rw [HM.out, HUP2.out]; simp [depRes, depEnd], HB.out⟩
        | false =>
          have HUP2 := Lib.hid (show up = false by rw [← HUP.out, hd60, hd91]; rfl)
          go_wp2_with fail
          go_ret2
          exact ⟨by rw [HM.out, HUP2.out]; simp [depRes, depEnd], HB.out⟩
set_option maxRecDepth 100000 in
set_option maxHeartbeats 2000000 in
theorem depth_named (x : Nat) (hx : 1 ≤ x) (gn : Nat) (w : World) (hn2 : w.cell? ⟨gn, 2, none⟩ = some (.int .u8 (x : Int))) :
    Calls Try.prog 68 #[.pointer (some ⟨gn, 0, none⟩)] w fun e w' => e = .returned (.tuple #[.int .i64 0, .bool false]) ∧ Below w.heap.size w w' := by
  have hx0 : ((x : Int) != 0) = true := by simp; omega
  have hx1 : ((x : Int) == 0) = false := by simp; omega
  have hx2 : (x != 0) = true := by simp; omega
  have hu2 := Try.underlying74
  go_enter Try.func68, Try.ntmps68
  go_wp2_with fail
  go_ret2
  exact ⟨rfl, Below.refl _ _⟩
def depF : Fm → Option Nat
 | .mark _ _ => some 0
 | .con _ => some 0
 | .var _ => none
 | .two _ a b => (depF a).bind fun x => (depF b).bind fun y => some (max x y)
 | .one c a => (depF a).map fun x => if c = 60 ∨ c = 91 then x + 1 else x
 | .fix _ _ _ => none
def hgt : Fm → Nat
 | .mark _ _ => 0
 | .con _ => 0
 | .var _ => 0
 | .two _ a b => max (hgt a) (hgt b) + 1
 | .one _ a => hgt a + 1
 | .fix _ _ a => hgt a + 1
theorem depF_le : ∀ f m, depF f = some m → m ≤ hgt f := by
 intro f
 induction f with
 | mark neg j => intro m h; simp [depF] at h; simp [hgt]; omega
 | con c => intro m h; simp [depF] at h; simp [hgt]; omega
 | var c => intro m h; simp [depF] at h
 | two c a b iha ihb =>
  intro m h
  rw [depF] at h
  obtain ⟨x, hx, h⟩ := Option.bind_eq_some_iff.mp h
  obtain ⟨y, hy, h⟩ := Option.bind_eq_some_iff.mp h
  injection h with h
  have := iha x hx
  have := ihb y hy
  rw [hgt]
  omega
 | one c a iha =>
  intro m h
  rw [depF, Option.map_eq_some_iff] at h
  obtain ⟨x, hx, h⟩ := h
  have := iha x hx
  rw [hgt]
  split at h <;> omega
 | fix c x a _ => intro m h; simp [depF] at h
theorem accD_nil (rs : Nat → Option Nat) (i m : Nat) (hi : i ≤ 0) (h : accD rs i = some m) : m ≤ 100000 := by
  obtain rfl : i = 0 := by omega
  simp [accD] at h
  omega
theorem depth_all : ∀ f, WF f → hgt f ≤ 100000 → ∀ (ok : Nat → Prop) (v : Value) (w : World), Tree w ok f v → Calls Try.prog 68 #[v] w fun e w' => e = depEnd (depF f) ∧ Below w.heap.size w w' := by
  intro f
  induction f with
  | mark neg j =>
    intro hw hh ok v w ht
    obtain ⟨g, b, off, cap, rfl, o1, o2, h0, h1, h2, h3, h4⟩ := ht
    rw [if_pos rfl] at h3
    cases neg with
    | true => exact depth_rest 45 false rfl g none 0 (fun _ => undef) 0 (fun _ => none) w h0 h2 h3 (fun i h => by omega) (fun i h => by omega) (by omega) (accD_nil _) (fun i m h => by omega)
    | false => exact depth_rest 48 false rfl g none 0 (fun _ => undef) 0 (fun _ => none) w h0 h2 h3 (fun i h => by omega) (fun i h => by omega) (by omega) (accD_nil _) (fun i m h => by omega)
  | con c =>
    intro hw hh ok v w ht
    obtain ⟨g, b, off, cap, rfl, o1, o2, h0, h1, h2, h3, h4⟩ := ht
    rw [if_pos rfl] at h3
    refine depth_rest c false ?_ g none 0 (fun _ => undef) 0 (fun _ => none) w h0 h2 h3 (fun i h => by omega) (fun i h => by omega) (by omega) (accD_nil _) (fun i m h => by omega)
    rcases hw with rfl | rfl <;> rfl
  | var c =>
    intro hw hh ok v w ht
    obtain ⟨g, b, off, cap, rfl, o1, o2, h0, h1, h2, h3, h4⟩ := ht
    exact depth_named c (by have := hw.1; omega) g w h2
  | two c a b iha ihb =>
    intro hw hh ok v w ht
    obtain ⟨va, vb, ⟨g, bb, off, cap, rfl, o1, o2, h0, h1, h2, h3, h4⟩, ha, hb⟩ := ht
    rw [hgt] at hh
    rw [if_neg (by simp)] at h3
    have hA := fun W (hB : Below w.heap.size w W) => iha hw.2.1 (by omega) (fun _ => True) va W (Tree.same (SameBut.of_below hB) (fun _ _ _ => trivial) a va ha)
    have hB := fun W (hB : Below w.heap.size w W) => ihb hw.2.2 (by omega) (fun _ => True) vb W (Tree.same (SameBut.of_below hB) (fun _ _ _ => trivial) b vb hb)
    have := depth_rest c false (by rcases hw.1 with rfl | rfl <;> rfl) g (some ⟨bb, off, none⟩) cap (fun i => if i = 0 then va else vb) 2 (fun i => if i = 0 then depF a else depF b) w h0 h2 h3 (fun i hi => ⟨bb, off, rfl, by
        have h2 : i = 0 ∨ i = 1 := by omega
        rcases h2 with rfl | rfl
        · exact h4 0 va rfl
        · exact h4 1 vb rfl⟩) (fun i hi W hBW => by
        have h2 : i = 0 ∨ i = 1 := by omega
        rcases h2 with rfl | rfl
        · exact hA W hBW
        · exact hB W hBW) (by omega) (fun i m hi h => by
        have h2 : i = 0 ∨ i = 1 ∨ i = 2 := by omega
        have la := depF_le a
        have lb := depF_le b
        rcases h2 with rfl | rfl | rfl
        · simp [accD] at h; omega
        · cases hx : depF a <;> simp [accD, hx] at h
          have := la _ hx
          omega
        · cases hx : depF a <;> cases hy : depF b <;> simp [accD, hx, hy] at h
          have := la _ hx
          have := lb _ hy
          omega) (fun i m hi h => by
        have h2 : i = 0 ∨ i = 1 := by omega
        have la := depF_le a
        have lb := depF_le b
        rcases h2 with rfl | rfl
        · have := la m h; omega
        · have := lb m h; omega)
    refine this.mono ?_
    rintro e w' ⟨rfl, hB⟩
    refine ⟨?_, hB⟩
    cases hx : depF a <;> cases hy : depF b <;> simp [depRes, accD, depF, hx, hy]
  | one c a iha =>
    intro hw hh ok v w ht
    obtain ⟨va, ⟨g, bb, off, cap, rfl, o1, o2, h0, h1, h2, h3, h4⟩, ha⟩ := ht
    rw [hgt] at hh
    rw [if_neg (by simp)] at h3
    have hA := fun W (hB : Below w.heap.size w W) => iha hw.2 (by omega) (fun _ => True) va W (Tree.same (SameBut.of_below hB) (fun _ _ _ => trivial) a va ha)
    have := depth_rest c true (by rcases hw.1 with rfl | rfl <;> rfl) g (some ⟨bb, off, none⟩) cap (fun i => va) 1 (fun i => depF a) w h0 h2 h3 (fun i hi => ⟨bb, off, rfl, by
        obtain rfl : i = 0 := by omega
        exact h4 0 va rfl⟩) (fun i hi W hBW => hA W hBW) (by omega) (fun i m hi h => by
        have h2 : i = 0 ∨ i = 1 := by omega
        have la := depF_le a
        rcases h2 with rfl | rfl
        · simp [accD] at h; omega
        · cases hx : depF a <;> simp [accD, hx] at h
          have := la _ hx
          omega) (fun i m hi h => by have := depF_le a m h; omega)
    refine this.mono ?_
    rintro e w' ⟨rfl, hB⟩
    refine ⟨?_, hB⟩
    cases hx : depF a <;> simp [depRes, accD, depF, hx, hw.1]
  | fix c x a _ =>
    intro hw hh ok v w ht
    obtain ⟨va, ⟨g, bb, off, cap, rfl, o1, o2, h0, h1, h2, h3, h4⟩, ha⟩ := ht
    exact depth_named x (by have := hw.2.1.1; omega) g w h2
end Go.Proofs.Ytjffhhalmicodaa.X
end

section
set_option linter.unusedVariables false
set_option linter.unusedSimpArgs false
namespace Go.Proofs.Ytjffhhalmicodaa.X
open Go.RowKit Go.Proofs.G.PrintWords Go.Proofs.G.PrintLast Go.Proofs.G.PrintMore
theorem pair_C (wb : World) (x y : Int) : Kd.C (Kd.int .i64) (wb.alloc (.cells #[.int .i64 x, .int .i64 y] 3)) (some ⟨wb.heap.size, 0, none⟩) 2 [x, y] := by
 refine Kd.C_of_reads (d := (0 : Int)) (h1 := fun _ => rfl) ⟨rfl, by decide, fun _ => ⟨_, rfl, fun i hi => ?_⟩⟩
 have h := blk_cell (blk_new wb (.cells #[.int .i64 x, .int .i64 y] 3 (0, 0)))
 have h2 : i = 0 ∨ i = 1 := by omega
 rcases h2 with rfl | rfl
 ·exact (h 0).trans rfl
 ·exact (h 1).trans rfl
theorem hgt_str : ∀ f, hgt f ≤ (str f).length
 | .mark neg k => by simp [hgt]
 | .con c => by simp [hgt]
 | .var c => by simp [hgt]
 | .two c a b => by
  have := hgt_str a
  have := hgt_str b
  simp only [hgt, str, List.length_cons, List.length_append]
  omega
 | .one c a => by
  have := hgt_str a
  simp only [hgt, str, List.length_cons]
  omega
 | .fix c x a => by
  have := hgt_str a
  simp only [hgt, str, List.length_cons]
  omega
set_option maxRecDepth 100000 in
set_option maxHeartbeats 4000000 in
theorem check_off (A0 : Option Addr) (c0 : Nat) (nx : List Int) (A1 : Option Addr) (c1 : Nat) (mk : List Int) (s t : Int) (a : ByteArray) (w : World) (hr0 : Kd.C (Kd.int .i64) w A0 nx.length nx) (hc0 : nx.length ≤ c0) (hr1 : Kd.C (Kd.int .i64) w A1 mk.length mk) (hc1 : mk.length ≤ c1)
    (hst : fixes_isState.f nx mk [s, t] = some false) :
    Calls Try.prog 43 #[.agg #[.slice A0 nx.length c0, .slice A1 mk.length c1], .int .i64 s, .int .i64 t, .string a] w fun e w' => e = .returned (.tuple #[.int .i64 0, .bool false, .int .i64 2]) ∧ Below w.heap.size w w' := by
  have hu := Try.underlying28
  have hu2 := Try.underlying74
  have HR0 := Lib.hid hr0
  have HR1 := Lib.hid hr1
  have HST := Lib.hid hst
  clear hr0 hr1 hst
  go_enter Try.func43, Try.ntmps43
  go_wp2_with (first | ((with_reducible refine gate_dst (N := 4) rfl ?_); refine box_event ?hg (N := 4) ?hd (cs := #[.slice A0 nx.length c0, .slice A1 mk.length c1]) (t := 28) ?hr ?_; (case hd => rfl); (case hg => rfl); (case hr => first | (go_simp; done) | (go_simp; rfl)); intro gw hgw wb hbw hbb; have HBW := Lib.hid (bst (Below.refl w.heap.size w) hbb); have hw0 : wb.cell? ⟨gw, 0, none⟩ = some (.slice A0 nx.length c0) := (blk_cell hbw 0).trans rfl; have hw1 : wb.cell? ⟨gw, 1, none⟩ = some (.slice A1 mk.length c1) := (blk_cell hbw 1).trans rfl; clear hgw hbb hbw) | fail)
  have hbl := below_alloc (Below.refl wb.heap.size wb) (.cells #[.int .i64 s, .int .i64 t] 3)
  have HB3 := Lib.hid (bst HBW.out hbl)
  have k0_ := pwc hbl hw0
  have k1_ := pwc hbl hw1
  clear hw0 hw1 HBW hbl
  have hw0 := k0_
  have hw1 := k1_
  clear k0_ k1_
  have hCv := pair_C wb s t
  refine (fixes_isState.calls A0 c0 nx A1 c1 mk (some ⟨wb.heap.size, 0, none⟩) 2 [s, t] false _ (Kd.C_below HR0.out HB3.out) hc0 (Kd.C_below HR1.out HB3.out) hc1 hCv (Nat.le_refl _) HST.out).mono ?_
  rintro e w4 ⟨rfl, hb⟩
  have HB4 := Lib.hid (bst HB3.out hb)
  have k0 := pwc hb hw0
  have k1 := pwc hb hw1
  clear hb hw0 hw1 HB3 hCv
  have hw0 := k0
  have hw1 := k1
  clear k0 k1
  go_wp2_with fail
  go_ret3
  exact ⟨rfl, HB4.out⟩
set_option maxRecDepth 100000 in
set_option maxHeartbeats 4000000 in
theorem check_form (A0 : Option Addr) (c0 : Nat) (nx : List Int) (A1 : Option Addr) (c1 : Nat) (mk : List Int) (s t : Nat) (a : ByteArray) (w : World) (hr0 : Kd.C (Kd.int .i64) w A0 nx.length nx) (hc0 : nx.length ≤ c0) (hr1 : Kd.C (Kd.int .i64) w A1 mk.length mk) (hc1 : mk.length ≤ c1)
    (hst : fixes_isState.f nx mk [(s : Int), (t : Int)] = some true) (hpa : (if (a.size : Int) ≤ 4000 then whole (cs a) else none) = none) :
    Calls Try.prog 43 #[.agg #[.slice A0 nx.length c0, .slice A1 mk.length c1], .int .i64 (s : Int), .int .i64 (t : Int), .string a] w fun e w' => e = .returned (.tuple #[.int .i64 0, .bool false, .int .i64 0]) ∧ Below w.heap.size w w' := by
  have hu := Try.underlying28
  have hu2 := Try.underlying74
  have HR0 := Lib.hid hr0
  have HR1 := Lib.hid hr1
  have HST := Lib.hid hst
  have HPA := Lib.hid hpa
  clear hpa
  clear hr0 hr1 hst
  go_enter Try.func43, Try.ntmps43
  go_wp2_with (first | ((with_reducible refine gate_dst (N := 4) rfl ?_); refine box_event ?hg (N := 4) ?hd (cs := #[.slice A0 nx.length c0, .slice A1 mk.length c1]) (t := 28) ?hr ?_; (case hd => rfl); (case hg => rfl); (case hr => first | (go_simp; done) | (go_simp; rfl)); intro gw hgw wb hbw hbb; have HBW := Lib.hid (bst (Below.refl w.heap.size w) hbb); have hw0 : wb.cell? ⟨gw, 0, none⟩ = some (.slice A0 nx.length c0) := (blk_cell hbw 0).trans rfl; have hw1 : wb.cell? ⟨gw, 1, none⟩ = some (.slice A1 mk.length c1) := (blk_cell hbw 1).trans rfl; clear hgw hbb hbw) | fail)
  have hbl := below_alloc (Below.refl wb.heap.size wb) (.cells #[.int .i64 (s : Int), .int .i64 (t : Int)] 3)
  have HB3 := Lib.hid (bst HBW.out hbl)
  have k0_ := pwc hbl hw0
  have k1_ := pwc hbl hw1
  clear hw0 hw1 HBW hbl
  have hw0 := k0_
  have hw1 := k1_
  clear k0_ k1_
  have hCv := pair_C wb (s : Int) (t : Int)
  refine (fixes_isState.calls A0 c0 nx A1 c1 mk (some ⟨wb.heap.size, 0, none⟩) 2 [(s : Int), (t : Int)] true _ (Kd.C_below HR0.out HB3.out) hc0 (Kd.C_below HR1.out HB3.out) hc1 hCv (Nat.le_refl _) HST.out).mono ?_
  rintro e w4 ⟨rfl, hb⟩
  have HB4 := Lib.hid (bst HB3.out hb)
  have k0 := pwc hb hw0
  have k1 := pwc hb hw1
  clear hb hw0 hw1 HB3 hCv
  have hw0 := k0
  have hw1 := k1
  clear k0 k1
  go_wp2_with fail
  refine (parse_calls a 4000 w4 (by decide)).mono ?_
  rintro e w5 ⟨hb, hp⟩
  rw [HPA.out] at hp
  have HB5 := Lib.hid (bst HB4.out hb)
  have k0 := pwc hb hw0
  have k1 := pwc hb hw1
  clear hb hw0 hw1 HB4
  have hw0 := k0
  have hw1 := k1
  clear k0 k1
  have he' : e = .returned (.pointer none) := hp
  subst he'
  clear hp
  go_wp2_with fail
  go_ret3
  exact ⟨rfl, HB5.out⟩
set_option maxRecDepth 100000 in
set_option maxHeartbeats 4000000 in
theorem check_letters (A0 : Option Addr) (c0 : Nat) (nx : List Int) (A1 : Option Addr) (c1 : Nat) (mk : List Int) (s t : Nat) (a : ByteArray) (f : Fm) (w : World) (hr0 : Kd.C (Kd.int .i64) w A0 nx.length nx) (hc0 : nx.length ≤ c0) (hr1 : Kd.C (Kd.int .i64) w A1 mk.length mk) (hc1 : mk.length ≤ c1)
    (hst : fixes_isState.f nx mk [(s : Int), (t : Int)] = some true) (hpa : (if (a.size : Int) ≤ 4000 then whole (cs a) else none) = some f) (hwf : WF f) (hhg : hgt f ≤ 100000) (hdf : depF f = none) :
    Calls Try.prog 43 #[.agg #[.slice A0 nx.length c0, .slice A1 mk.length c1], .int .i64 (s : Int), .int .i64 (t : Int), .string a] w fun e w' => e = .returned (.tuple #[.int .i64 0, .bool false, .int .i64 0]) ∧ Below w.heap.size w w' := by
  have hu := Try.underlying28
  have hu2 := Try.underlying74
  have HR0 := Lib.hid hr0
  have HR1 := Lib.hid hr1
  have HST := Lib.hid hst
  have HPA := Lib.hid hpa
  have HWF := Lib.hid hwf
  have HHG := Lib.hid hhg
  have HDF := Lib.hid hdf
  clear hpa hwf hhg hdf
  clear hr0 hr1 hst
  go_enter Try.func43, Try.ntmps43
  go_wp2_with (first | ((with_reducible refine gate_dst (N := 4) rfl ?_); refine box_event ?hg (N := 4) ?hd (cs := #[.slice A0 nx.length c0, .slice A1 mk.length c1]) (t := 28) ?hr ?_; (case hd => rfl); (case hg => rfl); (case hr => first | (go_simp; done) | (go_simp; rfl)); intro gw hgw wb hbw hbb; have HBW := Lib.hid (bst (Below.refl w.heap.size w) hbb); have hw0 : wb.cell? ⟨gw, 0, none⟩ = some (.slice A0 nx.length c0) := (blk_cell hbw 0).trans rfl; have hw1 : wb.cell? ⟨gw, 1, none⟩ = some (.slice A1 mk.length c1) := (blk_cell hbw 1).trans rfl; clear hgw hbb hbw) | fail)
  have hbl := below_alloc (Below.refl wb.heap.size wb) (.cells #[.int .i64 (s : Int), .int .i64 (t : Int)] 3)
  have HB3 := Lib.hid (bst HBW.out hbl)
  have k0_ := pwc hbl hw0
  have k1_ := pwc hbl hw1
  clear hw0 hw1 HBW hbl
  have hw0 := k0_
  have hw1 := k1_
  clear k0_ k1_
  have hCv := pair_C wb (s : Int) (t : Int)
  refine (fixes_isState.calls A0 c0 nx A1 c1 mk (some ⟨wb.heap.size, 0, none⟩) 2 [(s : Int), (t : Int)] true _ (Kd.C_below HR0.out HB3.out) hc0 (Kd.C_below HR1.out HB3.out) hc1 hCv (Nat.le_refl _) HST.out).mono ?_
  rintro e w4 ⟨rfl, hb⟩
  have HB4 := Lib.hid (bst HB3.out hb)
  have k0 := pwc hb hw0
  have k1 := pwc hb hw1
  clear hb hw0 hw1 HB3 hCv
  have hw0 := k0
  have hw1 := k1
  clear k0 k1
  go_wp2_with fail
  refine (parse_calls a 4000 w4 (by decide)).mono ?_
  rintro e w5 ⟨hb, hp⟩
  rw [HPA.out] at hp
  have HB5 := Lib.hid (bst HB4.out hb)
  have k0 := pwc hb hw0
  have k1 := pwc hb hw1
  clear hb hw0 hw1 HB4
  have hw0 := k0
  have hw1 := k1
  clear k0 k1
  obtain ⟨v, rfl, ht⟩ := hp
  obtain ⟨gk, rfl⟩ := ht.ptr
  have HT := Lib.hid ht
  clear ht
  go_wp2_with fail
  refine (depth_all f HWF.out HHG.out _ _ w5 HT.out).mono ?_
  rintro e w6 ⟨he, hb⟩
  rw [HDF.out] at he
  have HB6 := Lib.hid (bst HB5.out hb)
  have HT6 := Lib.hid (Tree.same (ok' := fun _ => True) (SameBut.of_below hb) (fun _ _ _ => trivial) f _ HT.out)
  have k0 := pwc hb hw0
  have k1 := pwc hb hw1
  clear hb hw0 hw1 HB5 HT
  have hw0 := k0
  have hw1 := k1
  clear k0 k1
  have he' : e = .returned (.tuple #[.int .i64 0, .bool false]) := he
  subst he'
  clear he
  go_wp2_with fail
  go_ret3
  exact ⟨rfl, HB6.out⟩
set_option maxRecDepth 100000 in
set_option maxHeartbeats 4000000 in
theorem check_not1 (A0 : Option Addr) (c0 : Nat) (nx : List Int) (A1 : Option Addr) (c1 : Nat) (mk : List Int) (s t : Nat) (a : ByteArray) (f : Fm) (d k : Nat) (set : Int) (m' : List (Int × Int)) (w : World) (hr0 : Kd.C (Kd.int .i64) w A0 nx.length nx) (hc0 : nx.length ≤ c0) (hr1 : Kd.C (Kd.int .i64) w A1 mk.length mk) (hc1 : mk.length ≤ c1)
    (hst : fixes_isState.f nx mk [(s : Int), (t : Int)] = some true) (hpa : (if (a.size : Int) ≤ 4000 then whole (cs a) else none) = some f) (hwf : WF f) (hhg : hgt f ≤ 100000) (hdf : depF f = some d) (hln : nx.length = mk.length) (hho : holdF nx mk k f [] = some (set, m')) (hs62 : s ≤ 62) (ht62 : t ≤ 62) (h1 : (bits .and .i64 (set / 2 ^ s) 1 == 0) = true) :
    Calls Try.prog 43 #[.agg #[.slice A0 nx.length c0, .slice A1 mk.length c1], .int .i64 (s : Int), .int .i64 (t : Int), .string a] w fun e w' => e = .returned (.tuple #[.int .i64 0, .bool false, .int .i64 0]) ∧ Below w.heap.size w w' := by
  have hu := Try.underlying28
  have hu2 := Try.underlying74
  have HR0 := Lib.hid hr0
  have HR1 := Lib.hid hr1
  have HST := Lib.hid hst
  have HPA := Lib.hid hpa
  have HWF := Lib.hid hwf
  have HHG := Lib.hid hhg
  have HDF := Lib.hid hdf
  have HLN := Lib.hid hln
  have HHO := Lib.hid hho
  clear hpa hwf hhg hdf hln hho
  clear hr0 hr1 hst
  go_enter Try.func43, Try.ntmps43
  go_wp2_with (first | ((with_reducible refine gate_dst (N := 4) rfl ?_); refine box_event ?hg (N := 4) ?hd (cs := #[.slice A0 nx.length c0, .slice A1 mk.length c1]) (t := 28) ?hr ?_; (case hd => rfl); (case hg => rfl); (case hr => first | (go_simp; done) | (go_simp; rfl)); intro gw hgw wb hbw hbb; have HBW := Lib.hid (bst (Below.refl w.heap.size w) hbb); have hw0 : wb.cell? ⟨gw, 0, none⟩ = some (.slice A0 nx.length c0) := (blk_cell hbw 0).trans rfl; have hw1 : wb.cell? ⟨gw, 1, none⟩ = some (.slice A1 mk.length c1) := (blk_cell hbw 1).trans rfl; clear hgw hbb hbw) | fail)
  have hbl := below_alloc (Below.refl wb.heap.size wb) (.cells #[.int .i64 (s : Int), .int .i64 (t : Int)] 3)
  have HB3 := Lib.hid (bst HBW.out hbl)
  have k0_ := pwc hbl hw0
  have k1_ := pwc hbl hw1
  clear hw0 hw1 HBW hbl
  have hw0 := k0_
  have hw1 := k1_
  clear k0_ k1_
  have hCv := pair_C wb (s : Int) (t : Int)
  refine (fixes_isState.calls A0 c0 nx A1 c1 mk (some ⟨wb.heap.size, 0, none⟩) 2 [(s : Int), (t : Int)] true _ (Kd.C_below HR0.out HB3.out) hc0 (Kd.C_below HR1.out HB3.out) hc1 hCv (Nat.le_refl _) HST.out).mono ?_
  rintro e w4 ⟨rfl, hb⟩
  have HB4 := Lib.hid (bst HB3.out hb)
  have k0 := pwc hb hw0
  have k1 := pwc hb hw1
  clear hb hw0 hw1 HB3 hCv
  have hw0 := k0
  have hw1 := k1
  clear k0 k1
  go_wp2_with fail
  refine (parse_calls a 4000 w4 (by decide)).mono ?_
  rintro e w5 ⟨hb, hp⟩
  rw [HPA.out] at hp
  have HB5 := Lib.hid (bst HB4.out hb)
  have k0 := pwc hb hw0
  have k1 := pwc hb hw1
  clear hb hw0 hw1 HB4
  have hw0 := k0
  have hw1 := k1
  clear k0 k1
  obtain ⟨v, rfl, ht⟩ := hp
  obtain ⟨gk, rfl⟩ := ht.ptr
  have HT := Lib.hid ht
  clear ht
  go_wp2_with fail
  refine (depth_all f HWF.out HHG.out _ _ w5 HT.out).mono ?_
  rintro e w6 ⟨he, hb⟩
  rw [HDF.out] at he
  have HB6 := Lib.hid (bst HB5.out hb)
  have HT6 := Lib.hid (Tree.same (ok' := fun _ => True) (SameBut.of_below hb) (fun _ _ _ => trivial) f _ HT.out)
  have k0 := pwc hb hw0
  have k1 := pwc hb hw1
  clear hb hw0 hw1 HB5 HT
  have hw0 := k0
  have hw1 := k1
  clear k0 k1
  have he' : e = .returned (.tuple #[.int .i64 (d : Int), .bool true]) := he
  subst he'
  clear he
  go_wp2_with (first | ((with_reducible refine gate_op (op := .makeMap 65 none) rfl ?_); refine map_make_event rfl 65 rfl ?_; intro r0 wm hr0 hm hb; have HM_ := Lib.hid (IsM.mk' (enc := Value.int .u8) (encv := Value.int .i64) (l := []) hm rfl); have HW_ := Lib.hid (bst HB6.out hb); have HT2 := Lib.hid (Tree.same (ok' := fun _ => True) (SameBut.of_below hb) (fun _ _ _ => trivial) f _ HT6.out); have hle : w.heap.size ≤ r0 := (by rw [hr0]; exact HB6.out.size); have HZ_ := Lib.hid hle; clear hm hb hr0 hle) | fail)
  refine (holds_all nx mk HLN.out k f [] set m' HHO.out A0 c0 A1 c1 _ _ r0 wm (Kd.C_below HR0.out HW_.out) hc0 (Kd.C_below HR1.out HW_.out) hc1 HT2.out HM_.out).mono ?_
  rintro e w9 ⟨rfl, hp⟩
  have HB9 := Lib.hid (hp.low _ _ HW_.out HZ_.out)
  clear hp
  go_wp2_with fail
  go_ret3
  exact ⟨rfl, HB9.out⟩
set_option maxRecDepth 100000 in
set_option maxHeartbeats 4000000 in
theorem check_not2 (A0 : Option Addr) (c0 : Nat) (nx : List Int) (A1 : Option Addr) (c1 : Nat) (mk : List Int) (s t : Nat) (a : ByteArray) (f : Fm) (d k : Nat) (set : Int) (m' : List (Int × Int)) (w : World) (hr0 : Kd.C (Kd.int .i64) w A0 nx.length nx) (hc0 : nx.length ≤ c0) (hr1 : Kd.C (Kd.int .i64) w A1 mk.length mk) (hc1 : mk.length ≤ c1)
    (hst : fixes_isState.f nx mk [(s : Int), (t : Int)] = some true) (hpa : (if (a.size : Int) ≤ 4000 then whole (cs a) else none) = some f) (hwf : WF f) (hhg : hgt f ≤ 100000) (hdf : depF f = some d) (hln : nx.length = mk.length) (hho : holdF nx mk k f [] = some (set, m')) (hs62 : s ≤ 62) (ht62 : t ≤ 62) (h1 : (bits .and .i64 (set / 2 ^ s) 1 == 0) = false) (h2 : (bits .and .i64 (set / 2 ^ t) 1 == 1) = true) :
    Calls Try.prog 43 #[.agg #[.slice A0 nx.length c0, .slice A1 mk.length c1], .int .i64 (s : Int), .int .i64 (t : Int), .string a] w fun e w' => e = .returned (.tuple #[.int .i64 0, .bool false, .int .i64 0]) ∧ Below w.heap.size w w' := by
  have hu := Try.underlying28
  have hu2 := Try.underlying74
  have HR0 := Lib.hid hr0
  have HR1 := Lib.hid hr1
  have HST := Lib.hid hst
  have HPA := Lib.hid hpa
  have HWF := Lib.hid hwf
  have HHG := Lib.hid hhg
  have HDF := Lib.hid hdf
  have HLN := Lib.hid hln
  have HHO := Lib.hid hho
  clear hpa hwf hhg hdf hln hho
  clear hr0 hr1 hst
  go_enter Try.func43, Try.ntmps43
  go_wp2_with (first | ((with_reducible refine gate_dst (N := 4) rfl ?_); refine box_event ?hg (N := 4) ?hd (cs := #[.slice A0 nx.length c0, .slice A1 mk.length c1]) (t := 28) ?hr ?_; (case hd => rfl); (case hg => rfl); (case hr => first | (go_simp; done) | (go_simp; rfl)); intro gw hgw wb hbw hbb; have HBW := Lib.hid (bst (Below.refl w.heap.size w) hbb); have hw0 : wb.cell? ⟨gw, 0, none⟩ = some (.slice A0 nx.length c0) := (blk_cell hbw 0).trans rfl; have hw1 : wb.cell? ⟨gw, 1, none⟩ = some (.slice A1 mk.length c1) := (blk_cell hbw 1).trans rfl; clear hgw hbb hbw) | fail)
  have hbl := below_alloc (Below.refl wb.heap.size wb) (.cells #[.int .i64 (s : Int), .int .i64 (t : Int)] 3)
  have HB3 := Lib.hid (bst HBW.out hbl)
  have k0_ := pwc hbl hw0
  have k1_ := pwc hbl hw1
  clear hw0 hw1 HBW hbl
  have hw0 := k0_
  have hw1 := k1_
  clear k0_ k1_
  have hCv := pair_C wb (s : Int) (t : Int)
  refine (fixes_isState.calls A0 c0 nx A1 c1 mk (some ⟨wb.heap.size, 0, none⟩) 2 [(s : Int), (t : Int)] true _ (Kd.C_below HR0.out HB3.out) hc0 (Kd.C_below HR1.out HB3.out) hc1 hCv (Nat.le_refl _) HST.out).mono ?_
  rintro e w4 ⟨rfl, hb⟩
  have HB4 := Lib.hid (bst HB3.out hb)
  have k0 := pwc hb hw0
  have k1 := pwc hb hw1
  clear hb hw0 hw1 HB3 hCv
  have hw0 := k0
  have hw1 := k1
  clear k0 k1
  go_wp2_with fail
  refine (parse_calls a 4000 w4 (by decide)).mono ?_
  rintro e w5 ⟨hb, hp⟩
  rw [HPA.out] at hp
  have HB5 := Lib.hid (bst HB4.out hb)
  have k0 := pwc hb hw0
  have k1 := pwc hb hw1
  clear hb hw0 hw1 HB4
  have hw0 := k0
  have hw1 := k1
  clear k0 k1
  obtain ⟨v, rfl, ht⟩ := hp
  obtain ⟨gk, rfl⟩ := ht.ptr
  have HT := Lib.hid ht
  clear ht
  go_wp2_with fail
  refine (depth_all f HWF.out HHG.out _ _ w5 HT.out).mono ?_
  rintro e w6 ⟨he, hb⟩
  rw [HDF.out] at he
  have HB6 := Lib.hid (bst HB5.out hb)
  have HT6 := Lib.hid (Tree.same (ok' := fun _ => True) (SameBut.of_below hb) (fun _ _ _ => trivial) f _ HT.out)
  have k0 := pwc hb hw0
  have k1 := pwc hb hw1
  clear hb hw0 hw1 HB5 HT
  have hw0 := k0
  have hw1 := k1
  clear k0 k1
  have he' : e = .returned (.tuple #[.int .i64 (d : Int), .bool true]) := he
  subst he'
  clear he
  go_wp2_with (first | ((with_reducible refine gate_op (op := .makeMap 65 none) rfl ?_); refine map_make_event rfl 65 rfl ?_; intro r0 wm hr0 hm hb; have HM_ := Lib.hid (IsM.mk' (enc := Value.int .u8) (encv := Value.int .i64) (l := []) hm rfl); have HW_ := Lib.hid (bst HB6.out hb); have HT2 := Lib.hid (Tree.same (ok' := fun _ => True) (SameBut.of_below hb) (fun _ _ _ => trivial) f _ HT6.out); have hle : w.heap.size ≤ r0 := (by rw [hr0]; exact HB6.out.size); have HZ_ := Lib.hid hle; clear hm hb hr0 hle) | fail)
  refine (holds_all nx mk HLN.out k f [] set m' HHO.out A0 c0 A1 c1 _ _ r0 wm (Kd.C_below HR0.out HW_.out) hc0 (Kd.C_below HR1.out HW_.out) hc1 HT2.out HM_.out).mono ?_
  rintro e w9 ⟨rfl, hp⟩
  have HB9 := Lib.hid (hp.low _ _ HW_.out HZ_.out)
  clear hp
  go_wp2_with fail
  go_ret3
  exact ⟨rfl, HB9.out⟩
set_option maxRecDepth 100000 in
set_option maxHeartbeats 4000000 in
theorem check_yes (A0 : Option Addr) (c0 : Nat) (nx : List Int) (A1 : Option Addr) (c1 : Nat) (mk : List Int) (s t : Nat) (a : ByteArray) (f : Fm) (d k : Nat) (set : Int) (m' : List (Int × Int)) (w : World) (hr0 : Kd.C (Kd.int .i64) w A0 nx.length nx) (hc0 : nx.length ≤ c0) (hr1 : Kd.C (Kd.int .i64) w A1 mk.length mk) (hc1 : mk.length ≤ c1)
    (hst : fixes_isState.f nx mk [(s : Int), (t : Int)] = some true) (hpa : (if (a.size : Int) ≤ 4000 then whole (cs a) else none) = some f) (hwf : WF f) (hhg : hgt f ≤ 100000) (hdf : depF f = some d) (hln : nx.length = mk.length) (hho : holdF nx mk k f [] = some (set, m')) (hs62 : s ≤ 62) (ht62 : t ≤ 62) (h1 : (bits .and .i64 (set / 2 ^ s) 1 == 0) = false) (h2 : (bits .and .i64 (set / 2 ^ t) 1 == 1) = false) :
    Calls Try.prog 43 #[.agg #[.slice A0 nx.length c0, .slice A1 mk.length c1], .int .i64 (s : Int), .int .i64 (t : Int), .string a] w fun e w' => e = .returned (.tuple #[.int .i64 (d : Int), .bool true, .int .i64 0]) ∧ Below w.heap.size w w' := by
  have hu := Try.underlying28
  have hu2 := Try.underlying74
  have HR0 := Lib.hid hr0
  have HR1 := Lib.hid hr1
  have HST := Lib.hid hst
  have HPA := Lib.hid hpa
  have HWF := Lib.hid hwf
  have HHG := Lib.hid hhg
  have HDF := Lib.hid hdf
  have HLN := Lib.hid hln
  have HHO := Lib.hid hho
  clear hpa hwf hhg hdf hln hho
  clear hr0 hr1 hst
  go_enter Try.func43, Try.ntmps43
  go_wp2_with (first | ((with_reducible refine gate_dst (N := 4) rfl ?_); refine box_event ?hg (N := 4) ?hd (cs := #[.slice A0 nx.length c0, .slice A1 mk.length c1]) (t := 28) ?hr ?_; (case hd => rfl); (case hg => rfl); (case hr => first | (go_simp; done) | (go_simp; rfl)); intro gw hgw wb hbw hbb; have HBW := Lib.hid (bst (Below.refl w.heap.size w) hbb); have hw0 : wb.cell? ⟨gw, 0, none⟩ = some (.slice A0 nx.length c0) := (blk_cell hbw 0).trans rfl; have hw1 : wb.cell? ⟨gw, 1, none⟩ = some (.slice A1 mk.length c1) := (blk_cell hbw 1).trans rfl; clear hgw hbb hbw) | fail)
  have hbl := below_alloc (Below.refl wb.heap.size wb) (.cells #[.int .i64 (s : Int), .int .i64 (t : Int)] 3)
  have HB3 := Lib.hid (bst HBW.out hbl)
  have k0_ := pwc hbl hw0
  have k1_ := pwc hbl hw1
  clear hw0 hw1 HBW hbl
  have hw0 := k0_
  have hw1 := k1_
  clear k0_ k1_
  have hCv := pair_C wb (s : Int) (t : Int)
  refine (fixes_isState.calls A0 c0 nx A1 c1 mk (some ⟨wb.heap.size, 0, none⟩) 2 [(s : Int), (t : Int)] true _ (Kd.C_below HR0.out HB3.out) hc0 (Kd.C_below HR1.out HB3.out) hc1 hCv (Nat.le_refl _) HST.out).mono ?_
  rintro e w4 ⟨rfl, hb⟩
  have HB4 := Lib.hid (bst HB3.out hb)
  have k0 := pwc hb hw0
  have k1 := pwc hb hw1
  clear hb hw0 hw1 HB3 hCv
  have hw0 := k0
  have hw1 := k1
  clear k0 k1
  go_wp2_with fail
  refine (parse_calls a 4000 w4 (by decide)).mono ?_
  rintro e w5 ⟨hb, hp⟩
  rw [HPA.out] at hp
  have HB5 := Lib.hid (bst HB4.out hb)
  have k0 := pwc hb hw0
  have k1 := pwc hb hw1
  clear hb hw0 hw1 HB4
  have hw0 := k0
  have hw1 := k1
  clear k0 k1
  obtain ⟨v, rfl, ht⟩ := hp
  obtain ⟨gk, rfl⟩ := ht.ptr
  have HT := Lib.hid ht
  clear ht
  go_wp2_with fail
  refine (depth_all f HWF.out HHG.out _ _ w5 HT.out).mono ?_
  rintro e w6 ⟨he, hb⟩
  rw [HDF.out] at he
  have HB6 := Lib.hid (bst HB5.out hb)
  have HT6 := Lib.hid (Tree.same (ok' := fun _ => True) (SameBut.of_below hb) (fun _ _ _ => trivial) f _ HT.out)
  have k0 := pwc hb hw0
  have k1 := pwc hb hw1
  clear hb hw0 hw1 HB5 HT
  have hw0 := k0
  have hw1 := k1
  clear k0 k1
  have he' : e = .returned (.tuple #[.int .i64 (d : Int), .bool true]) := he
  subst he'
  clear he
  go_wp2_with (first | ((with_reducible refine gate_op (op := .makeMap 65 none) rfl ?_); refine map_make_event rfl 65 rfl ?_; intro r0 wm hr0 hm hb; have HM_ := Lib.hid (IsM.mk' (enc := Value.int .u8) (encv := Value.int .i64) (l := []) hm rfl); have HW_ := Lib.hid (bst HB6.out hb); have HT2 := Lib.hid (Tree.same (ok' := fun _ => True) (SameBut.of_below hb) (fun _ _ _ => trivial) f _ HT6.out); have hle : w.heap.size ≤ r0 := (by rw [hr0]; exact HB6.out.size); have HZ_ := Lib.hid hle; clear hm hb hr0 hle) | fail)
  refine (holds_all nx mk HLN.out k f [] set m' HHO.out A0 c0 A1 c1 _ _ r0 wm (Kd.C_below HR0.out HW_.out) hc0 (Kd.C_below HR1.out HW_.out) hc1 HT2.out HM_.out).mono ?_
  rintro e w9 ⟨rfl, hp⟩
  have HB9 := Lib.hid (hp.low _ _ HW_.out HZ_.out)
  clear hp
  go_wp2_with fail
  go_ret3
  exact ⟨rfl, HB9.out⟩
end Go.Proofs.Ytjffhhalmicodaa.X
end

section
set_option linter.unusedVariables false
set_option linter.unusedSimpArgs false
namespace Go.Proofs.Ytjffhhalmicodaa.X
open Go.RowKit Go.Proofs.G.PrintWords Go.Proofs.G.PrintLast Go.Proofs.G.PrintMore
theorem foldY_mono {T T' : Nat → Nat → Nat → Option ByteArray} (h : ∀ d s t, LeO (T d s t) (T' d s t)) (nx : List Int) (d t x : Nat) (turned : Bool) (jb ob : ByteArray) : ∀ n, LeO (foldY T nx d t x turned jb ob n) (foldY T' nx d t x turned jb ob n)
  | 0 => LeO.refl _
  | n + 1 => by
    rw [foldY, foldY]
    exact LeO.bind (foldY_mono h nx d t x turned jb ob n) (fun _ => LeO.ite (LeO.refl _) (LeO.bind (LeO.ite (h _ _ _) (h _ _ _)) (fun _ => LeO.refl _)))
theorem someF_mono {T T' : Nat → Nat → Nat → Option ByteArray} (h : ∀ d s t, LeO (T d s t) (T' d s t)) (nx : List Int) (L : List (List Int)) (d s t : Nat) (nb jb ob : ByteArray) (turned : Bool) : LeO (someF T nx L d s t nb jb ob turned) (someF T' nx L d s t nb jb ob turned) := by
  unfold someF
  refine LeO.ite ?_ (LeO.refl _)
  split
  · exact LeO.refl _
  · exact LeO.bind (foldY_mono h nx _ t _ turned jb ob _) (fun _ => LeO.refl _)
theorem tellF_mono {T T' : Nat → Nat → Nat → Option ByteArray} (h : ∀ d s t, LeO (T d s t) (T' d s t)) (nx mk : List Int) (L : List (List Int)) (d s t : Nat) : LeO (tellF nx mk L T d s t) (tellF nx mk L T' d s t) := by
  unfold tellF
  refine LeO.ite ?_ (LeO.refl _)
  split
  · exact LeO.refl _
  · exact LeO.bind (someF_mono h nx L _ s t _ _ _ _) (fun _ => LeO.ite (LeO.refl _) (LeO.bind (someF_mono h nx L _ t s _ _ _ _) (fun _ => LeO.refl _)))
theorem tellK_mono (nx mk : List Int) (L : List (List Int)) : ∀ k d s t, LeO (tellK nx mk L k d s t) (tellK nx mk L (k + 1) d s t)
  | 0, d, s, t => fun r h => by simp [tellK] at h
  | k + 1, d, s, t => tellF_mono (tellK_mono nx mk L k) nx mk L d s t
def fixes_CheckTell.f (k : Nat) (l0_0 l0_1 : List Int) (a1 a2 : Int) (a3 : ByteArray) : Option (Int × Bool × Int) :=
 (fixes_isState.f l0_0 l0_1 [a1, a2]).bind fun b => if b = true then
  (match (if (a3.size : Int) ≤ 4000 then whole (cs a3) else none) with
  | none => some (0, false, 0)
  | some f => match depF f with
   | none => some (0, false, 0)
   | some d => if l0_0.length ≤ 61 then ((holdF l0_0 l0_1 k f []).bind fun p => if bits .and .i64 (p.1 / 2 ^ a1.toNat) 1 = 0 then some (0, false, 0) else if bits .and .i64 (p.1 / 2 ^ a2.toNat) 1 = 1 then some (0, false, 0) else some ((d : Int), true, 0)) else none)
 else some (0, false, 2)
theorem fixes_CheckTell.calls (k : Nat) (A0_0 : Option Addr) (c0_0 : Nat) (l0_0 : List Int) (A0_1 : Option Addr) (c0_1 : Nat) (l0_1 : List Int) (a1 a2 : Int) (a3 : ByteArray) (r1 : Int) (r2 : Bool) (r3 : Int) (w : World) (hr0_0 : Kd.C (Kd.int .i64) w A0_0 l0_0.length l0_0) (hc0_0 : l0_0.length ≤ c0_0) (hr0_1 : Kd.C (Kd.int .i64) w A0_1 l0_1.length l0_1) (hc0_1 : l0_1.length ≤ c0_1) (h : fixes_CheckTell.f k l0_0 l0_1 a1 a2 a3 = some (r1, r2, r3)) :
    Calls Try.prog 43 #[.agg #[.slice A0_0 l0_0.length c0_0, .slice A0_1 l0_1.length c0_1], .int .i64 a1, .int .i64 a2, .string a3] w fun e w' => e = .returned (.tuple #[.int .i64 r1, .bool r2, .int .i64 r3]) ∧ Below w.heap.size w w' := by
  unfold fixes_CheckTell.f at h
  obtain ⟨b, hb, h⟩ := Option.bind_eq_some_iff.mp h
  cases b with
  | false =>
    simp only [Bool.false_eq_true, if_false, Option.some.injEq, Prod.mk.injEq] at h
    obtain ⟨rfl, rfl, rfl⟩ := h
    exact check_off A0_0 c0_0 l0_0 A0_1 c0_1 l0_1 a1 a2 a3 w hr0_0 hc0_0 hr0_1 hc0_1 hb
  | true =>
    simp only [if_true] at h
    have hb2 := hb
    unfold fixes_isState.f at hb2
    obtain ⟨v, hv, hb2⟩ := Option.bind_eq_some_iff.mp hb2
    cases v with
    | false => simp at hb2
    | true =>
      simp only [if_true, Option.some.injEq] at hb2
      have hrange : (0 ≤ a1 ∧ a1 < l0_0.length) ∧ (0 ≤ a2 ∧ a2 < l0_0.length) := by
        simp [offS] at hb2
        omega
      obtain ⟨⟨h10, h11⟩, h20, h21⟩ := hrange
      obtain ⟨s, rfl⟩ := Int.eq_ofNat_of_zero_le h10
      obtain ⟨t, rfl⟩ := Int.eq_ofNat_of_zero_le h20
      rw [Int.toNat_natCast, Int.toNat_natCast] at h
      have hln := (valid_len hv).2.2
      cases hpa : (if (a3.size : Int) ≤ 4000 then whole (cs a3) else none) with
      | none =>
        rw [hpa] at h
        simp only [Option.some.injEq, Prod.mk.injEq] at h
        obtain ⟨rfl, rfl, rfl⟩ := h
        exact check_form A0_0 c0_0 l0_0 A0_1 c0_1 l0_1 s t a3 w hr0_0 hc0_0 hr0_1 hc0_1 hb hpa
      | some f =>
        rw [hpa] at h
        have hsz : (a3.size : Int) ≤ 4000 ∧ whole (cs a3) = some f := by
          by_cases q : (a3.size : Int) ≤ 4000
          · rw [if_pos q] at hpa; exact ⟨q, hpa⟩
          · rw [if_neg q] at hpa; cases hpa
        obtain ⟨hstr, hwf⟩ := whole_str hsz.2
        have hhg : hgt f ≤ 100000 := by
          have h1 := hgt_str f
          have h2 : (cs a3).length = a3.size := cs_length a3
          rw [hstr] at h2
          have := hsz.1
          omega
        cases hdf : depF f with
        | none =>
          simp only [hdf, Option.some.injEq, Prod.mk.injEq] at h
          obtain ⟨rfl, rfl, rfl⟩ := h
          exact check_letters A0_0 c0_0 l0_0 A0_1 c0_1 l0_1 s t a3 f w hr0_0 hc0_0 hr0_1 hc0_1 hb hpa hwf hhg hdf
        | some d =>
          simp only [hdf] at h
          split at h
          · rename_i h61
            obtain ⟨p, hp, h⟩ := Option.bind_eq_some_iff.mp h
            obtain ⟨set, m'⟩ := p
            by_cases h1 : bits .and .i64 (set / 2 ^ s) 1 = 0
            · rw [if_pos h1] at h
              simp only [Option.some.injEq, Prod.mk.injEq] at h
              obtain ⟨rfl, rfl, rfl⟩ := h
              exact check_not1 A0_0 c0_0 l0_0 A0_1 c0_1 l0_1 s t a3 f d k set m' w hr0_0 hc0_0 hr0_1 hc0_1 hb hpa hwf hhg hdf hln hp (by omega) (by omega) (beq_iff_eq.2 h1)
            · rw [if_neg h1] at h
              by_cases h2 : bits .and .i64 (set / 2 ^ t) 1 = 1
              · rw [if_pos h2] at h
                simp only [Option.some.injEq, Prod.mk.injEq] at h
                obtain ⟨rfl, rfl, rfl⟩ := h
                exact check_not2 A0_0 c0_0 l0_0 A0_1 c0_1 l0_1 s t a3 f d k set m' w hr0_0 hc0_0 hr0_1 hc0_1 hb hpa hwf hhg hdf hln hp (by omega) (by omega) (beq_eq_false_iff_ne.2 h1) (beq_iff_eq.2 h2)
              · rw [if_neg h2] at h
                simp only [Option.some.injEq, Prod.mk.injEq] at h
                obtain ⟨rfl, rfl, rfl⟩ := h
                exact check_yes A0_0 c0_0 l0_0 A0_1 c0_1 l0_1 s t a3 f d k set m' w hr0_0 hc0_0 hr0_1 hc0_1 hb hpa hwf hhg hdf hln hp (by omega) (by omega) (beq_eq_false_iff_ne.2 h1) (beq_eq_false_iff_ne.2 h2)
          · cases h
end Go.Proofs.Ytjffhhalmicodaa.X
end

section
set_option linter.unusedVariables false
set_option linter.unusedSimpArgs false
namespace Go.Proofs.Ytjffhhalmicodaa.X
open Go.RowKit Go.Proofs.G.PrintWords Go.Proofs.G.PrintLast Go.Proofs.G.PrintMore
set_option maxRecDepth 100000 in
set_option maxHeartbeats 4000000 in
theorem Tell_off (A0 : Option Addr) (c0 : Nat) (nx : List Int) (A1 : Option Addr) (c1 : Nat) (mk : List Int) (s t : Int) (w : World) (hr0 : Kd.C (Kd.int .i64) w A0 nx.length nx) (hc0 : nx.length ≤ c0) (hr1 : Kd.C (Kd.int .i64) w A1 mk.length mk) (hc1 : mk.length ≤ c1)
    (hst : fixes_isState.f nx mk [s, t] = some false) :
    Calls Try.prog 42 #[.agg #[.slice A0 nx.length c0, .slice A1 mk.length c1], .int .i64 s, .int .i64 t] w fun e w' => e = .returned (.tuple #[.string ⟨#[]⟩, .int .i64 2]) ∧ Below w.heap.size w w' := by
  have hu := Try.underlying28
  have HR0 := Lib.hid hr0
  have HR1 := Lib.hid hr1
  have HST := Lib.hid hst
  clear hr0 hr1 hst
  go_enter Try.func42, Try.ntmps42
  go_wp2_with (first | ((with_reducible refine gate_dst (N := 3) rfl ?_); refine box_event ?hg (N := 3) ?hd (cs := #[.slice A0 nx.length c0, .slice A1 mk.length c1]) (t := 28) ?hr ?_; (case hd => rfl); (case hg => rfl); (case hr => first | (go_simp; done) | (go_simp; rfl)); intro gw hgw wb hbw hbb; have HBW := Lib.hid (bst (Below.refl w.heap.size w) hbb); have hw0 : wb.cell? ⟨gw, 0, none⟩ = some (.slice A0 nx.length c0) := (blk_cell hbw 0).trans rfl; have hw1 : wb.cell? ⟨gw, 1, none⟩ = some (.slice A1 mk.length c1) := (blk_cell hbw 1).trans rfl; clear hgw hbb hbw) | fail)
  have hbl := below_alloc (Below.refl wb.heap.size wb) (.cells #[.int .i64 s, .int .i64 t] 3)
  have HB3 := Lib.hid (bst HBW.out hbl)
  have k0_ := pwc hbl hw0
  have k1_ := pwc hbl hw1
  clear hw0 hw1 HBW hbl
  have hw0 := k0_
  have hw1 := k1_
  clear k0_ k1_
  have hCv := pair_C wb s t
  refine (fixes_isState.calls A0 c0 nx A1 c1 mk (some ⟨wb.heap.size, 0, none⟩) 2 [s, t] false _ (Kd.C_below HR0.out HB3.out) hc0 (Kd.C_below HR1.out HB3.out) hc1 hCv (Nat.le_refl _) HST.out).mono ?_
  rintro e w4 ⟨rfl, hb⟩
  have HB4 := Lib.hid (bst HB3.out hb)
  have k0 := pwc hb hw0
  have k1 := pwc hb hw1
  clear hb hw0 hw1 HB3 hCv
  have hw0 := k0
  have hw1 := k1
  clear k0 k1
  go_wp2_with fail
  go_ret2
  exact ⟨rfl, HB4.out⟩
set_option maxRecDepth 100000 in
set_option maxHeartbeats 4000000 in
theorem Tell_same (A0 : Option Addr) (c0 : Nat) (nx : List Int) (A1 : Option Addr) (c1 : Nat) (mk : List Int) (s t : Nat) (k : Nat) (init : List (List Int)) (last : List Int) (w : World) (hr0 : Kd.C (Kd.int .i64) w A0 nx.length nx) (hc0 : nx.length ≤ c0) (hr1 : Kd.C (Kd.int .i64) w A1 mk.length mk) (hc1 : mk.length ≤ c1)
    (hst : fixes_isState.f nx mk [(s : Int), (t : Int)] = some true) (hlv : fixes_levels.f k nx mk = some (init ++ [last])) (hmb : init.length ≤ 1000) (hsl : s < last.length) (htl : t < last.length) (heq : rd last (s : Int) = rd last (t : Int)) :
    Calls Try.prog 42 #[.agg #[.slice A0 nx.length c0, .slice A1 mk.length c1], .int .i64 (s : Int), .int .i64 (t : Int)] w fun e w' => e = .returned (.tuple #[.string ⟨#[]⟩, .int .i64 4]) ∧ Below w.heap.size w w' := by
  have hu := Try.underlying28
  have HR0 := Lib.hid hr0
  have HR1 := Lib.hid hr1
  have HST := Lib.hid hst
  have HLV := Lib.hid hlv
  have HEQ := Lib.hid heq
  clear hlv heq
  clear hr0 hr1 hst
  go_enter Try.func42, Try.ntmps42
  go_wp2_with (first | ((with_reducible refine gate_dst (N := 3) rfl ?_); refine box_event ?hg (N := 3) ?hd (cs := #[.slice A0 nx.length c0, .slice A1 mk.length c1]) (t := 28) ?hr ?_; (case hd => rfl); (case hg => rfl); (case hr => first | (go_simp; done) | (go_simp; rfl)); intro gw hgw wb hbw hbb; have HBW := Lib.hid (bst (Below.refl w.heap.size w) hbb); have hw0 : wb.cell? ⟨gw, 0, none⟩ = some (.slice A0 nx.length c0) := (blk_cell hbw 0).trans rfl; have hw1 : wb.cell? ⟨gw, 1, none⟩ = some (.slice A1 mk.length c1) := (blk_cell hbw 1).trans rfl; clear hgw hbb hbw) | fail)
  have hbl := below_alloc (Below.refl wb.heap.size wb) (.cells #[.int .i64 (s : Int), .int .i64 (t : Int)] 3)
  have HB3 := Lib.hid (bst HBW.out hbl)
  have k0_ := pwc hbl hw0
  have k1_ := pwc hbl hw1
  clear hw0 hw1 HBW hbl
  have hw0 := k0_
  have hw1 := k1_
  clear k0_ k1_
  have hCv := pair_C wb (s : Int) (t : Int)
  refine (fixes_isState.calls A0 c0 nx A1 c1 mk (some ⟨wb.heap.size, 0, none⟩) 2 [(s : Int), (t : Int)] true _ (Kd.C_below HR0.out HB3.out) hc0 (Kd.C_below HR1.out HB3.out) hc1 hCv (Nat.le_refl _) HST.out).mono ?_
  rintro e w4 ⟨rfl, hb⟩
  have HB4 := Lib.hid (bst HB3.out hb)
  have k0 := pwc hb hw0
  have k1 := pwc hb hw1
  clear hb hw0 hw1 HB3 hCv
  have hw0 := k0
  have hw1 := k1
  clear k0 k1
  go_wp2_with fail
  refine (fixes_levels.calls k A0 c0 nx A1 c1 mk (init ++ [last]) w4 (Kd.C_below HR0.out HB4.out) hc0 (Kd.C_below HR1.out HB4.out) hc1 HLV.out).mono ?_
  rintro e w5 ⟨v, rfl, hv, hb⟩
  obtain ⟨g, cp, rfl⟩ := rows_form hv (by simp)
  have HB5 := Lib.hid (bst HB4.out hb)
  have k0 := pwc hb hw0
  have k1 := pwc hb hw1
  obtain ⟨_, hcl, hrl⟩ := Kd.R_reads' hv
  obtain ⟨A2, c2, q1, q2, q3⟩ := rows_last (m := init.length) (by simpa using hv) rfl
  have HRL := Lib.hid hrl
  have HCL := Lib.hid hcl
  clear hb hw0 hw1 HB4 hv hcl hrl
  have hw0 := k0
  have hw1 := k1
  clear k0 k1
  obtain ⟨b2, o2, rfl, _, hrc⟩ := ints_at q3 (by omega)
  have p1 := hrc s (by omega)
  have p2 := hrc t (by omega)
  have hsr : (s : Int) < (last.length : Int) := by omega
  have htr : (t : Int) < (last.length : Int) := by omega
  clear hrc q3
  have hn : (init ++ [last]).length = init.length + 1 := by simp
  have HN := Lib.hid hn
  rw [hn]
  clear hn
  generalize hm : init.length = m at q1 hmb ⊢
  have HMM := Lib.hid hm
  clear hm
  have hne : (rd last (s : Int) == rd last (t : Int)) = true := beq_iff_eq.2 HEQ.out
  go_wp2_with fail
  go_quiet (fail)
  go_wp2_with fail
  go_ret2
  exact ⟨rfl, bst HB5.out (pwd (Below.refl _ _) _)⟩
set_option maxRecDepth 100000 in
set_option maxHeartbeats 4000000 in
theorem Tell_yes (A0 : Option Addr) (c0 : Nat) (nx : List Int) (A1 : Option Addr) (c1 : Nat) (mk : List Int) (s t : Nat) (k : Nat) (init : List (List Int)) (last : List Int) (r : ByteArray) (w : World) (hr0 : Kd.C (Kd.int .i64) w A0 nx.length nx) (hc0 : nx.length ≤ c0) (hr1 : Kd.C (Kd.int .i64) w A1 mk.length mk) (hc1 : mk.length ≤ c1)
    (hst : fixes_isState.f nx mk [(s : Int), (t : Int)] = some true) (hlv : fixes_levels.f k nx mk = some (init ++ [last])) (hmb : init.length ≤ 1000) (hsl : s < last.length) (htl : t < last.length) (heq : rd last (s : Int) ≠ rd last (t : Int)) (htk : tellK nx mk (init ++ [last]) k init.length s t = some r) :
    Calls Try.prog 42 #[.agg #[.slice A0 nx.length c0, .slice A1 mk.length c1], .int .i64 (s : Int), .int .i64 (t : Int)] w fun e w' => e = .returned (.tuple #[.string r, .int .i64 0]) ∧ Below w.heap.size w w' := by
  have hu := Try.underlying28
  have HR0 := Lib.hid hr0
  have HR1 := Lib.hid hr1
  have HST := Lib.hid hst
  have HLV := Lib.hid hlv
  have HEQ := Lib.hid heq
  have HTK := Lib.hid htk
  clear hlv heq htk
  clear hr0 hr1 hst
  go_enter Try.func42, Try.ntmps42
  go_wp2_with (first | ((with_reducible refine gate_dst (N := 3) rfl ?_); refine box_event ?hg (N := 3) ?hd (cs := #[.slice A0 nx.length c0, .slice A1 mk.length c1]) (t := 28) ?hr ?_; (case hd => rfl); (case hg => rfl); (case hr => first | (go_simp; done) | (go_simp; rfl)); intro gw hgw wb hbw hbb; have HBW := Lib.hid (bst (Below.refl w.heap.size w) hbb); have hw0 : wb.cell? ⟨gw, 0, none⟩ = some (.slice A0 nx.length c0) := (blk_cell hbw 0).trans rfl; have hw1 : wb.cell? ⟨gw, 1, none⟩ = some (.slice A1 mk.length c1) := (blk_cell hbw 1).trans rfl; clear hgw hbb hbw) | fail)
  have hbl := below_alloc (Below.refl wb.heap.size wb) (.cells #[.int .i64 (s : Int), .int .i64 (t : Int)] 3)
  have HB3 := Lib.hid (bst HBW.out hbl)
  have k0_ := pwc hbl hw0
  have k1_ := pwc hbl hw1
  clear hw0 hw1 HBW hbl
  have hw0 := k0_
  have hw1 := k1_
  clear k0_ k1_
  have hCv := pair_C wb (s : Int) (t : Int)
  refine (fixes_isState.calls A0 c0 nx A1 c1 mk (some ⟨wb.heap.size, 0, none⟩) 2 [(s : Int), (t : Int)] true _ (Kd.C_below HR0.out HB3.out) hc0 (Kd.C_below HR1.out HB3.out) hc1 hCv (Nat.le_refl _) HST.out).mono ?_
  rintro e w4 ⟨rfl, hb⟩
  have HB4 := Lib.hid (bst HB3.out hb)
  have k0 := pwc hb hw0
  have k1 := pwc hb hw1
  clear hb hw0 hw1 HB3 hCv
  have hw0 := k0
  have hw1 := k1
  clear k0 k1
  go_wp2_with fail
  refine (fixes_levels.calls k A0 c0 nx A1 c1 mk (init ++ [last]) w4 (Kd.C_below HR0.out HB4.out) hc0 (Kd.C_below HR1.out HB4.out) hc1 HLV.out).mono ?_
  rintro e w5 ⟨v, rfl, hv, hb⟩
  obtain ⟨g, cp, rfl⟩ := rows_form hv (by simp)
  have HB5 := Lib.hid (bst HB4.out hb)
  have k0 := pwc hb hw0
  have k1 := pwc hb hw1
  obtain ⟨_, hcl, hrl⟩ := Kd.R_reads' hv
  obtain ⟨A2, c2, q1, q2, q3⟩ := rows_last (m := init.length) (by simpa using hv) rfl
  have HRL := Lib.hid hrl
  have HCL := Lib.hid hcl
  clear hb hw0 hw1 HB4 hv hcl hrl
  have hw0 := k0
  have hw1 := k1
  clear k0 k1
  obtain ⟨b2, o2, rfl, _, hrc⟩ := ints_at q3 (by omega)
  have p1 := hrc s (by omega)
  have p2 := hrc t (by omega)
  have hsr : (s : Int) < (last.length : Int) := by omega
  have htr : (t : Int) < (last.length : Int) := by omega
  clear hrc q3
  have hn : (init ++ [last]).length = init.length + 1 := by simp
  have HN := Lib.hid hn
  rw [hn]
  clear hn
  generalize hm : init.length = m at q1 hmb ⊢
  have HMM := Lib.hid hm
  clear hm
  have hne : (rd last (s : Int) == rd last (t : Int)) = false := beq_eq_false_iff_ne.2 HEQ.out
  go_wp2_with fail
  go_quiet (fail)
  have hbq := pwd (Below.refl w5.heap.size w5) nq
  have k0 := pwc hbq hw0
  have k1 := pwc hbq hw1
  have HB6 := Lib.hid (bst HB5.out hbq)
  have HRL6 := Lib.hid (Kd.C_below HRL.out hbq)
  clear hw0 hw1 q1 p1 p2 hbq
  generalize w5.drewN nq = w6 at k0 k1 HB6 HRL6 ⊢
  have hw0 := k0
  have hw1 := k1
  clear k0 k1
  go_wp2_with fail
  refine (show Calls Try.prog 67 #[.agg #[.slice A0 nx.length c0, .slice A1 mk.length c1], .slice (some ⟨g, 0, none⟩) (m + 1) cp, .int .i64 (m : Int), .int .i64 (s : Int), .int .i64 (t : Int)] w6 (fun e w' => e = .returned (.string r) ∧ Below w6.heap.size w6 w') from ?_).mono ?_
  · have := tell_all nx mk (init ++ [last]) k m s t r (by rw [← HMM.out]; exact HTK.out) A0 c0 A1 c1 (some ⟨g, 0, none⟩) cp w6 (Kd.C_below HR0.out HB6.out) hc0 (Kd.C_below HR1.out HB6.out) hc1 HRL6.out (by have := HCL.out; exact this)
    rwa [HN.out, HMM.out] at this
  · rintro e w7 ⟨rfl, hb⟩
    have HB7 := Lib.hid (bst HB6.out hb)
    clear hb
    go_wp2_with fail
    go_ret2
    exact ⟨rfl, HB7.out⟩
def fixes_Tell.f (k : Nat) (l0_0 l0_1 : List Int) (a1 a2 : Int) : Option (ByteArray × Int) :=
  (fixes_isState.f l0_0 l0_1 [a1, a2]).bind fun b => if b = true then
    ((fixes_levels.f k l0_0 l0_1).bind fun L => if L ≠ [] ∧ L.length ≤ 1000 ∧ l0_0.length ≤ (L.getLastD []).length then
      (if rd (L.getLastD []) a1 = rd (L.getLastD []) a2 then some (⟨#[]⟩, 4) else (tellK l0_0 l0_1 L k (L.length - 1) a1.toNat a2.toNat).bind fun r => some (r, 0)) else none)
  else some (⟨#[]⟩, 2)
theorem fixes_Tell.calls (k : Nat) (A0_0 : Option Addr) (c0_0 : Nat) (l0_0 : List Int) (A0_1 : Option Addr) (c0_1 : Nat) (l0_1 : List Int) (a1 a2 : Int) (r1 : ByteArray) (r2 : Int) (w : World) (hr0_0 : Kd.C (Kd.int .i64) w A0_0 l0_0.length l0_0) (hc0_0 : l0_0.length ≤ c0_0) (hr0_1 : Kd.C (Kd.int .i64) w A0_1 l0_1.length l0_1) (hc0_1 : l0_1.length ≤ c0_1) (h : fixes_Tell.f k l0_0 l0_1 a1 a2 = some (r1, r2)) :
    Calls Try.prog 42 #[.agg #[.slice A0_0 l0_0.length c0_0, .slice A0_1 l0_1.length c0_1], .int .i64 a1, .int .i64 a2] w fun e w' => e = .returned (.tuple #[.string r1, .int .i64 r2]) ∧ Below w.heap.size w w' := by
  unfold fixes_Tell.f at h
  obtain ⟨b, hb, h⟩ := Option.bind_eq_some_iff.mp h
  cases b with
  | false =>
    simp only [Bool.false_eq_true, if_false, Option.some.injEq, Prod.mk.injEq] at h
    obtain ⟨rfl, rfl⟩ := h
    exact Tell_off A0_0 c0_0 l0_0 A0_1 c0_1 l0_1 a1 a2 w hr0_0 hc0_0 hr0_1 hc0_1 hb
  | true =>
    simp only [if_true] at h
    obtain ⟨L, hL, h⟩ := Option.bind_eq_some_iff.mp h
    split at h
    · rename_i hc
      obtain ⟨hne, hlen, hll⟩ := hc
      have hb2 := hb
      unfold fixes_isState.f at hb2
      obtain ⟨v, hv, hb2⟩ := Option.bind_eq_some_iff.mp hb2
      cases v with
      | false => simp at hb2
      | true =>
        simp only [if_true, Option.some.injEq] at hb2
        have hrange : (0 ≤ a1 ∧ a1 < l0_0.length) ∧ (0 ≤ a2 ∧ a2 < l0_0.length) := by
          simp [offS] at hb2
          omega
        obtain ⟨⟨h10, h11⟩, h20, h21⟩ := hrange
        obtain ⟨s, rfl⟩ := Int.eq_ofNat_of_zero_le h10
        obtain ⟨t, rfl⟩ := Int.eq_ofNat_of_zero_le h20
        rw [Int.toNat_natCast, Int.toNat_natCast] at h
        have e2 : L.getLastD [] = L.getLast hne := by rw [List.getLastD_eq_getLast?, List.getLast?_eq_some_getLast hne]; rfl
        have hx : L = L.dropLast ++ [L.getLastD []] := by
          rw [e2]
          exact (List.dropLast_concat_getLast hne).symm
        have hl2 : L.dropLast.length = L.length - 1 := by rw [List.length_dropLast]
        by_cases heq : rd (L.getLastD []) (s : Int) = rd (L.getLastD []) (t : Int)
        · rw [if_pos heq] at h
          simp only [Option.some.injEq, Prod.mk.injEq] at h
          obtain ⟨rfl, rfl⟩ := h
          rw [hx] at hL
          exact Tell_same A0_0 c0_0 l0_0 A0_1 c0_1 l0_1 s t k L.dropLast (L.getLastD []) w hr0_0 hc0_0 hr0_1 hc0_1 hb hL (by omega) (by omega) (by omega) heq
        · rw [if_neg heq] at h
          obtain ⟨r, hr, h⟩ := Option.bind_eq_some_iff.mp h
          simp only [Option.some.injEq, Prod.mk.injEq] at h
          obtain ⟨rfl, rfl⟩ := h
          rw [hx] at hL
          refine Tell_yes A0_0 c0_0 l0_0 A0_1 c0_1 l0_1 s t k L.dropLast (L.getLastD []) r w hr0_0 hc0_0 hr0_1 hc0_1 hb hL (by omega) (by omega) (by omega) heq ?_
          rw [← hx, hl2]
          exact hr
    · cases h
end Go.Proofs.Ytjffhhalmicodaa.X
end

section
set_option linter.unusedVariables false
set_option linter.unusedSimpArgs false
namespace Go.Proofs.Ytjffhhalmicodaa.L
open Go.RowKit Go.Proofs.G.PrintWords Go.Proofs.G.PrintLast Go.Proofs.G.PrintMore Go.Proofs.Ytjffhhalmicodaa.X
theorem lt_of_tb {n : Nat} {a : Int} (h : InS n a) {i : Nat} (hi : tb a i = true) : i < n := by
  apply Classical.byContradiction
  intro hge
  rw [tb_ge h (by omega)] at hi
  cases hi
theorem tb_step_iff {nx mk : List Int} (hv : VW nx mk) {p : Int} (hp : InS nx.length p) {s : Nat} (hs : s < nx.length) : tb (stepTo nx p) s = true ↔ ∃ u, u < nx.length ∧ tb (rd nx s) u = true ∧ tb p u = true := by
 have h6 := hv.le
 have hn := hv.next s hs
 rw [(tb_step (by omega) p).2]
 simp only [hs, decide_true, Bool.true_and, bne_iff_ne, ne_eq, and_zero (show nx.length ≤ 62 by omega) hn hp]
 constructor
 ·intro h
  apply Classical.byContradiction
  intro q
  apply h
  intro i hi
  cases hb : tb p i with
  | false => rfl
  | true => exact absurd ⟨i, lt_of_tb hn hi, hi, hb⟩ q
 ·rintro ⟨u, hu, h1, h2⟩ h
  rw [h u h1] at h2
  cases h2
theorem tb_box_iff {nx mk : List Int} (hv : VW nx mk) {p : Int} (hp : InS nx.length p) {s : Nat} (hs : s < nx.length) : tb (boxTo nx p) s = true ↔ ∀ u, u < nx.length → tb (rd nx s) u = true → tb p u = true := by
  have h6 := hv.le
  have hn := hv.next s hs
  rw [(tb_box (by omega) p).2]
  simp only [hs, decide_true, Bool.true_and, beq_iff_eq, andNot_zero (show nx.length ≤ 62 by omega) hn hp]
  exact ⟨fun h u _ hu => h u hu, fun h i hi => h i (lt_of_tb hn hi) hi⟩
theorem V_depth {nx mk : List Int} (hv : VW nx mk) (z : Sets) (hz : InE nx.length z) : ∀ F, WF F → ∀ m, depF F = some m → ∀ s t, s < nx.length → t < nx.length → E nx mk m s t → tb (V nx mk F z) s = tb (V nx mk F z) t := by
 have h6 := hv.le
 intro F
 induction F with
 | mark neg j =>
  intro hw m hm s t hs ht he
  have hj : j ≤ 3 := hw
  have h0 := (E_zero hs ht).1 (E_le hv hs ht (Nat.zero_le _) he)
  obtain ⟨q1, q2⟩ := mset_spec hv hj
  have ha : InS nx.length (allOf nx) := all_in (by omega)
  rw [V]
  cases neg with
  | true =>
   simp only [if_true]
   rw [tb_andNot (show nx.length ≤ 62 by omega) (show nx.length ≤ 62 by omega) ha q1, tb_andNot (show nx.length ≤ 62 by omega) (show nx.length ≤ 62 by omega) ha q1, tb_all (by omega), tb_all (by omega), q2, q2, h0]
   simp [hs, ht]
  | false =>
   simp only [Bool.false_eq_true, if_false]
   rw [q2, q2, h0]
   simp [hs, ht]
 | con c =>
  intro hw m hm s t hs ht he
  rw [V]
  split
  ·rw [tb_all (by omega), tb_all (by omega)]
   simp [hs, ht]
  ·rw [tb_zero, tb_zero]
 | var c => intro hw m hm; simp [depF] at hm
 | fix c x a _ => intro hw m hm; simp [depF] at hm
 | two c a b iha ihb =>
  intro hw m hm s t hs ht he
  rw [depF] at hm
  obtain ⟨x, hx, hm⟩ := Option.bind_eq_some_iff.mp hm
  obtain ⟨y, hy, hm⟩ := Option.bind_eq_some_iff.mp hm
  injection hm with hm
  have ea := iha hw.2.1 x hx s t hs ht (E_le hv hs ht (by omega) he)
  have eb := ihb hw.2.2 y hy s t hs ht (E_le hv hs ht (by omega) he)
  have ia := (V_spec hv a hw.2.1).1 z hz
  have ib := (V_spec hv b hw.2.2).1 z hz
  rw [V]
  split
  ·rw [tb_and (by omega) (by omega) ia ib, tb_and (by omega) (by omega) ia ib, ea, eb]
  ·rw [tb_or (by omega) (by omega) ia ib, tb_or (by omega) (by omega) ia ib, ea, eb]
 | one c a iha =>
  intro hw m hm s t hs ht he
  rw [depF, Option.map_eq_some_iff] at hm
  obtain ⟨x, hx, hm⟩ := hm
  rw [if_pos hw.1] at hm
  subst hm
  have ia := (V_spec hv a hw.2).1 z hz
  obtain ⟨h1, h2, h3⟩ := (E_succ hv hs ht).1 he
  rw [V, Bool.eq_iff_iff]
  split
  ·rw [tb_step_iff hv ia hs, tb_step_iff hv ia ht]
   constructor
   ·rintro ⟨u, hu, a1, a2⟩
    obtain ⟨v, hvv, b1, b2⟩ := h2 u hu a1
    exact ⟨v, hvv, b1, (iha hw.2 x hx u v hu hvv b2).symm.trans a2⟩
   ·rintro ⟨v, hvv, a1, a2⟩
    obtain ⟨u, hu, b1, b2⟩ := h3 v hvv a1
    exact ⟨u, hu, b1, (iha hw.2 x hx u v hu hvv b2).trans a2⟩
  ·rw [tb_box_iff hv ia hs, tb_box_iff hv ia ht]
   constructor
   ·intro h v hvv a1
    obtain ⟨u, hu, b1, b2⟩ := h3 v hvv a1
    exact (iha hw.2 x hx u v hu hvv b2).symm.trans (h u hu b1)
   ·intro h u hu a1
    obtain ⟨v, hvv, b1, b2⟩ := h2 u hu a1
    exact (iha hw.2 x hx u v hu hvv b2).trans (h v hvv b1)
def cN (p : Nat → Bool) : Nat → Nat
  | 0 => 0
  | m + 1 => cN p m + if p m = true then 1 else 0
theorem cN_le {p q : Nat → Bool} : ∀ n, (∀ y, y < n → p y = true → q y = true) → cN p n ≤ cN q n
 | 0, _ => Nat.le_refl _
 | n + 1, h => by
  have := cN_le n (fun y hy => h y (by omega))
  have h2 := h n (by omega)
  rw [cN, cN]
  by_cases e : p n = true
  ·rw [if_pos e, if_pos (h2 e)]; omega
  ·rw [if_neg e]; omega
theorem cN_zero {p : Nat → Bool} : ∀ n, (∀ y, y < n → p y = false) → cN p n = 0
  | 0, _ => rfl
  | n + 1, h => by
    rw [cN, cN_zero n (fun y hy => h y (by omega)), h n (by omega)]
    rfl
theorem cN_ne (x : Nat) : ∀ m, cN (fun y => decide (y ≠ x)) m + (if x < m then 1 else 0) ≤ m
 | 0 => by simp [cN]
 | m + 1 => by
  have := cN_ne x m
  rw [cN]
  by_cases e : m = x
  ·subst e
   simp at this ⊢
   omega
  ·have : decide (m ≠ x) = true := by simp [e]
   rw [if_pos this]
   by_cases h : x < m
   ·rw [if_pos (by omega)]
    simp only [if_pos h] at *
    omega
   ·rw [if_neg (by omega)]
    simp only [if_neg h] at *
    omega
theorem cN_key (key : Nat → Int × Int) (x : Nat) : ∀ m, cN (fun y => decide (y ≠ x) && decide (key y = key x)) m + cnt key m + (if x < m then 1 else 0) ≤ m + 1 ∧ ((∀ y, y < m → key y ≠ key x) → cN (fun y => decide (y ≠ x) && decide (key y = key x)) m + cnt key m + (if x < m then 1 else 0) ≤ m)
 | 0 => by simp [cN, cnt, numTo]
 | m + 1 => by
  obtain ⟨h1, h2⟩ := cN_key key x m
  have hx : (if x < m + 1 then 1 else 0 : Nat) = (if x < m then 1 else 0) + if x = m then 1 else 0 := by
   split <;> split <;> split <;> omega
  rw [cN, hx]
  rcases cnt_step key m with ⟨e, j, hj, hk⟩ | ⟨e, _, hk⟩
  ·rw [e]
   refine ⟨?_, fun h => ?_⟩
   ·by_cases e1 : m = x
    ·rw [if_pos e1.symm, if_neg (by simp [e1])]
     omega
    ·rw [if_neg (show ¬ x = m by omega)]
     split <;> omega
   ·have e0 := h m (by omega)
    have e1 : m ≠ x := fun q => e0 (by rw [q])
    have := h2 (fun y hy => h y (by omega))
    rw [if_neg (show ¬ x = m by omega), if_neg (by simp [e0])]
    omega
  ·rw [e]
   refine ⟨?_, fun h => ?_⟩
   ·by_cases e1 : m = x
    ·have := h2 (fun y hy => by rw [← e1]; exact hk y hy)
     rw [if_pos e1.symm, if_neg (by simp [e1])]
     omega
    ·rw [if_neg (show ¬ x = m by omega)]
     by_cases e2 : key m = key x
     ·have := h2 (fun y hy => by rw [← e2]; exact hk y hy)
      split <;> omega
     ·rw [if_neg (by simp [e2])]
      omega
   ·have e0 := h m (by omega)
    have e1 : m ≠ x := fun q => e0 (by rw [q])
    have := h2 (fun y hy => h y (by omega))
    rw [if_neg (show ¬ x = m by omega), if_neg (by simp [e0])]
    omega
theorem levs_at (nx mk : List Int) {K j : Nat} (h : j ≤ K) : (levs nx mk K).getD j [] = lv nx mk j := by
  unfold levs
  rw [List.getD_eq_getElem?_getD, List.getElem?_map, List.getElem?_range (by omega)]
  rfl
theorem dec_spec {nx mk : List Int} {K : Nat} (s t : Nat) : ∀ d, d ≤ K + 1 → (∀ j, decTo (levs nx mk K) s t d ≤ j → j < d → ¬ E nx mk j s t) ∧ (∀ e, decTo (levs nx mk K) s t d = e + 1 → E nx mk e s t)
  | 0, _ => ⟨fun j _ h => by omega, fun e h => by cases h⟩
  | d + 1, h => by
    rw [decTo, levs_at _ _ (by omega)]
    split
    · rename_i q
      exact ⟨fun j h1 h2 => by omega, fun e he => by obtain rfl : d = e := by omega
                                                     exact q⟩
    · rename_i q
      obtain ⟨h1, h2⟩ := dec_spec (K := K) s t d (by omega)
      refine ⟨fun j a b => ?_, h2⟩
      by_cases e : j = d
      · subst e; exact q
      · exact h1 j a (by omega)
structure Lvl (nx mk : List Int) (s t e : Nat) : Prop where
  no : ¬ E nx mk e s t
  yes : ∀ j, j < e → E nx mk j s t
theorem dec_lvl {nx mk : List Int} (hv : VW nx mk) {K s t d : Nat} (hs : s < nx.length) (ht : t < nx.length) (hd : d ≤ K) (h : ¬ E nx mk d s t) : Lvl nx mk s t (decTo (levs nx mk K) s t d) := by
 obtain ⟨h1, h2⟩ := dec_spec (nx := nx) (mk := mk) (K := K) s t d (by omega)
 have hle := decTo_le (levs nx mk K) s t d
 refine ⟨?_, fun j hj => ?_⟩
 ·by_cases e : decTo (levs nx mk K) s t d = d
  ·rw [e]; exact h
  ·exact h1 _ (Nat.le_refl _) (by omega)
 ·obtain ⟨e, he⟩ : ∃ e, decTo (levs nx mk K) s t d = e + 1 := ⟨decTo (levs nx mk K) s t d - 1, by omega⟩
  exact E_le hv hs ht (show j ≤ e by omega) (h2 e he)
theorem Lvl.uniq {nx mk : List Int} {s t e e' : Nat} (h : Lvl nx mk s t e) (h' : Lvl nx mk s t e') : e = e' := by
  apply Classical.byContradiction
  intro q
  rcases Nat.lt_or_gt_of_ne q with g | g
  · exact h.no (h'.yes e g)
  · exact h'.no (h.yes e' g)
theorem Lvl.symm {nx mk : List Int} {s t e : Nat} (h : Lvl nx mk s t e) : Lvl nx mk t s e := ⟨fun q => h.no q.symm, fun j hj => (h.yes j hj).symm⟩
def Bd : Nat → Nat
 | 0 => 2
 | 1 => 15
 | 2 => 80
 | 3 => 340
 | 4 => 1120
 | _ => 2680
theorem Bd_le (e : Nat) : Bd e ≤ 2680 := by
  unfold Bd
  split <;> decide
def Nc : Fm → Prop
  | .con _ => False
  | _ => True
def Gd (nx mk : List Int) (r : ByteArray) (F : Fm) (e w a b : Nat) (v : Bool) : Prop := cs r = str F ∧ WF F ∧ Nc F ∧ (∃ d, depF F = some d ∧ d ≤ e) ∧ tb (V nx mk F (0, 0, 0)) a = v ∧ tb (V nx mk F (0, 0, 0)) b = (!v) ∧ r.size ≤ w
theorem cs_app (a b : ByteArray) : cs (a ++ b) = cs a ++ cs b := by simp [cs, ByteArray.data_append]
theorem cs_one (x : UInt8) : cs ⟨#[x]⟩ = [x.toNat] := rfl
theorem nc_str {F : Fm} (hw : WF F) (hn : Nc F) {o : Nat} (ho : o = 116 ∨ o = 102) : str F ≠ [o] := by
 cases F with
 | mark neg k =>
  have hk : k ≤ 3 := hw
  cases neg
  ·simp [str]; omega
  ·simp [str]
 | con c => exact hn.elim
 | var c =>
  have hc : 120 ≤ c ∧ c ≤ 122 := hw
  simp [str]; omega
 | two c a b =>
  have hc : c = 38 ∨ c = 124 := hw.1
  simp [str]; omega
 | one c a =>
  have hc : c = 60 ∨ c = 91 := hw.1
  simp [str]; omega
 | fix c x a => simp [str]
def wS (kid : Nat → Bool) (ey : Nat → Nat) : Nat → Nat
  | 0 => 0
  | m + 1 => wS kid ey m + if kid m = true then Bd (ey m) + 1 else 0
theorem wS_le (kid : Nat → Bool) (ey : Nat → Nat) : ∀ m, wS kid ey m ≤ 2681 * m
 | 0 => Nat.le_refl _
 | m + 1 => by
  have := wS_le kid ey m
  have := Bd_le (ey m)
  rw [wS]
  split <;> omega
theorem bit_at {nx mk : List Int} (hv : VW nx mk) {t y : Nat} (ht : t < nx.length) (hy : y < nx.length) : bits .and .i64 (shr .i64 (rd nx (t : Int)) (y : Int)) 1 = if tb (rd nx t) y = true then 1 else 0 := by
  have h6 := hv.le
  exact bit_of (by omega) (hv.next t ht) (by omega)
theorem fold_ok {nx mk : List Int} (hv : VW nx mk) {T : Nat → Nat → Nat → Option ByteArray} {t x e : Nat} {turned : Bool} (hx : x < nx.length) (ht : t < nx.length) {c o : UInt8} (hc : c.toNat = if turned = true then 124 else 38) (ho : o.toNat = 116 ∨ o.toNat = 102) {ey : Nat → Nat}
    (hkid : ∀ y, y < nx.length → tb (rd nx t) y = true → ∃ kid F, (if turned = true then T e y x else T e x y) = some kid ∧ Gd nx mk kid F e (Bd (ey y)) x y (!turned)) :
    ∀ m, m ≤ nx.length → ∃ out, foldY T nx e t x turned ⟨#[c]⟩ ⟨#[o]⟩ m = some out ∧ ((out = ⟨#[o]⟩ ∧ ∀ y, y < m → tb (rd nx t) y = false) ∨ ∃ G, cs out = str G ∧ WF G ∧ Nc G ∧ (∃ d, depF G = some d ∧ d ≤ e) ∧ tb (V nx mk G (0, 0, 0)) x = (!turned) ∧ (∀ y, y < m → tb (rd nx t) y = true → tb (V nx mk G (0, 0, 0)) y = turned) ∧ out.size + 1 ≤ wS (fun y => tb (rd nx t) y) ey m) := by
  have h6 := hv.le
  intro m
  induction m with
  | zero => exact fun _ => ⟨⟨#[o]⟩, rfl, .inl ⟨rfl, fun y hy => by omega⟩⟩
  | succ m ih =>
    intro hm
    obtain ⟨out, h1, h2⟩ := ih (by omega)
    rw [foldY, h1, wS]
    simp only [Option.bind_some, bit_at hv ht (show m < nx.length by omega)]
    cases hb : tb (rd nx t) m with
    | false =>
      refine ⟨out, by rw [if_pos (by simp)], ?_⟩
      rcases h2 with ⟨g1, g2⟩ | ⟨G, g1, g2, g3, g4, g5, g6, g7⟩
      · refine .inl ⟨g1, fun y hy => ?_⟩
        by_cases q : y = m
        · rw [q]; exact hb
        · exact g2 y (by omega)
      · refine .inr ⟨G, g1, g2, g3, g4, g5, fun y hy hby => ?_, by simp; exact g7⟩
        by_cases q : y = m
        · rw [q, hb] at hby; cases hby
        · exact g6 y (by omega) hby
    | true =>
      obtain ⟨kid, F, k1, k2, k3, k4, k5, k6, k7, k8⟩ := hkid m (by omega) hb
      rw [if_neg (by simp), k1]
      simp only [Option.bind_some, if_true]
      rw [Bool.not_not] at k7
      rcases h2 with ⟨g1, g2⟩ | ⟨G, g1, g2, g3, ⟨gd, g4, g4'⟩, g5, g6, g7⟩
      · refine ⟨kid, by rw [g1, if_pos rfl], .inr ⟨F, k2, k3, k4, k5, k6, fun y hy hby => ?_, by omega⟩⟩
        by_cases q : y = m
        · rw [q]; exact k7
        · rw [g2 y (by omega)] at hby; cases hby
      · have hne : ¬ out.toList = (⟨#[o]⟩ : ByteArray).toList := by
          intro q
          rw [ByteArray.toList_eq, ByteArray.toList_eq] at q
          have : cs out = cs ⟨#[o]⟩ := by unfold cs; rw [q]
          rw [g1, cs_one] at this
          exact nc_str g2 g3 ho this
        have hw := wS_le (fun y => tb (rd nx t) y) ey m
        have hbd := Bd_le (ey m)
        obtain ⟨kd, k5, k5'⟩ := k5
        rw [if_neg hne, if_pos (by omega)]
        have hcc : c.toNat = 38 ∨ c.toNat = 124 := by rw [hc]; split <;> simp
        have iG := (V_spec hv G g2).1 _ (inE_zero nx.length)
        have iF := (V_spec hv F k3).1 _ (inE_zero nx.length)
        have hV : ∀ i, tb (V nx mk (.two c.toNat G F) (0, 0, 0)) i = if turned = true then tb (V nx mk G (0, 0, 0)) i || tb (V nx mk F (0, 0, 0)) i else tb (V nx mk G (0, 0, 0)) i && tb (V nx mk F (0, 0, 0)) i := by
          intro i
          rw [V, hc]
          cases turned
          · simp only [Bool.false_eq_true, if_false, if_true]
            rw [tb_and (by omega) (by omega) iG iF]
          · simp only [if_true]
            rw [if_neg (by decide), tb_or (by omega) (by omega) iG iF]
        refine ⟨_, rfl, .inr ⟨.two c.toNat G F, ?_, ⟨hcc, g2, k3⟩, trivial, ⟨max gd kd, ?_, by omega⟩, ?_, ?_, ?_⟩⟩
        · rw [cs_app, cs_app, cs_one, g1, k2]
          rfl
        · rw [depF, g4, k5]; rfl
        · rw [hV, g5, k6]; cases turned <;> rfl
        · intro y hy hby
          rw [hV]
          by_cases q : y = m
          · rw [q, k7]; cases turned <;> simp
          · rw [g6 y (by omega) hby]; cases turned <;> simp
        · rw [ByteArray.size_append, ByteArray.size_append]
          show 1 + out.size + kid.size + 1 ≤ _
          omega
end Go.Proofs.Ytjffhhalmicodaa.L
end

section
set_option linter.unusedVariables false
set_option linter.unusedSimpArgs false
namespace Go.Proofs.Ytjffhhalmicodaa.L
open Go.RowKit Go.Proofs.G.PrintWords Go.Proofs.G.PrintLast Go.Proofs.G.PrintMore Go.Proofs.Ytjffhhalmicodaa.X
theorem wS_sum (kid : Nat → Bool) (ey : Nat → Nat) : ∀ m, (∀ y, y < m → kid y = true → ey y ≤ 4) → wS kid ey m ≤ 3 * cN (fun y => kid y && decide (0 ≤ ey y)) m + 13 * cN (fun y => kid y && decide (1 ≤ ey y)) m + 65 * cN (fun y => kid y && decide (2 ≤ ey y)) m + 260 * cN (fun y => kid y && decide (3 ≤ ey y)) m + 780 * cN (fun y => kid y && decide (4 ≤ ey y)) m
 | 0, _ => Nat.zero_le _
 | m + 1, h => by
  have h1 := wS_sum kid ey m (fun y hy => h y (by omega))
  have h2 := h m (by omega)
  simp only [wS, cN]
  generalize cN (fun y => kid y && decide (0 ≤ ey y)) m = n0 at *
  generalize cN (fun y => kid y && decide (1 ≤ ey y)) m = n1 at *
  generalize cN (fun y => kid y && decide (2 ≤ ey y)) m = n2 at *
  generalize cN (fun y => kid y && decide (3 ≤ ey y)) m = n3 at *
  generalize cN (fun y => kid y && decide (4 ≤ ey y)) m = n4 at *
  by_cases hk : kid m = true
  case neg =>
   have hk : kid m = false := by simpa using hk
   simp only [hk, Bool.false_and, Bool.false_eq_true, if_false]
   omega
  case pos =>
   have h3 := h2 hk
   simp only [hk, Bool.true_and, decide_eq_true_eq, if_true]
   have : ey m = 0 ∨ ey m = 1 ∨ ey m = 2 ∨ ey m = 3 ∨ ey m = 4 := by omega
   rcases this with e | e | e | e | e <;> rw [e] <;> simp [Bd] <;> omega
theorem kids_le {nx mk : List Int} (hv : VW nx mk) {K e x : Nat} (he : e + 1 ≤ K) (hK : K + 1 ≤ nx.length) (hnc : ∀ j, j ≤ K → j + 1 ≤ nc nx mk j) (hx : x < nx.length) {kid : Nat → Bool} (hno : ∀ y, y < nx.length → kid y = true → ¬ E nx mk e x y) :
    wS kid (fun y => decTo (levs nx mk K) x y e) nx.length ≤ Bd (e + 1) := by
  have h6 := hv.le
  have hle : ∀ y, decTo (levs nx mk K) x y e ≤ e := fun y => decTo_le _ _ _ _
  have hs := wS_sum kid (fun y => decTo (levs nx mk K) x y e) nx.length (fun y _ _ => by have := hle y; omega)
  have c0 : cN (fun y => kid y && decide (0 ≤ decTo (levs nx mk K) x y e)) nx.length ≤ 5 := by
    have h1 := cN_ne x nx.length
    rw [if_pos hx] at h1
    have h2 : cN (fun y => kid y && decide (0 ≤ decTo (levs nx mk K) x y e)) nx.length ≤ cN (fun y => decide (y ≠ x)) nx.length := cN_le _ fun y hy h => by
      simp at h ⊢
      intro q
      exact hno y hy h (by rw [q]; exact E_refl _ _ _ _)
    omega
  have cj : ∀ j, j + 1 ≤ e → cN (fun y => kid y && decide (j + 1 ≤ decTo (levs nx mk K) x y e)) nx.length ≤ 5 - j := fun j hj => by
    have h1 := (cN_key (lkey nx mk j) x nx.length).1
    rw [if_pos hx] at h1
    have h3 := hnc j (by omega)
    unfold nc at h3
    have h2 : cN (fun y => kid y && decide (j + 1 ≤ decTo (levs nx mk K) x y e)) nx.length ≤ cN (fun y => decide (y ≠ x) && decide (lkey nx mk j y = lkey nx mk j x)) nx.length := cN_le _ fun y hy h => by
      simp at h ⊢
      have hE := (dec_lvl hv hx hy (show e ≤ K by omega) (hno y hy h.1)).yes j (by omega)
      refine ⟨fun q => ?_, ?_⟩
      · exact hno y hy h.1 (by rw [q]; exact E_refl _ _ _ _)
      · exact (E_key hy hx).1 hE.symm
    omega
  have cz : ∀ j, e < j → cN (fun y => kid y && decide (j ≤ decTo (levs nx mk K) x y e)) nx.length = 0 := fun j hj => cN_zero _ fun y hy => by
    have := hle y
    rw [decide_eq_false (by omega), Bool.and_false]
  have : e = 0 ∨ e = 1 ∨ e = 2 ∨ e = 3 ∨ e = 4 := by omega
  have d1 := cj 0
  have d2 := cj 1
  have d3 := cj 2
  have d4 := cj 3
  have z1 := cz 1
  have z2 := cz 2
  have z3 := cz 3
  have z4 := cz 4
  simp only [Nat.zero_add, Nat.reduceAdd] at d1 d2 d3 d4
  rcases this with rfl | rfl | rfl | rfl | rfl <;> simp only [Bd] <;> omega
theorem where_zero (p : Nat → Bool) {n : Nat} (hn : n ≤ 61) : (whereTo p n == 0) = true ↔ ∀ y, y < n → p y = false := by
 obtain ⟨h1, h2⟩ := whereTo_spec p n hn
 rw [beq_iff_eq]
 constructor
 ·intro h y hy
  have := h2 y
  rw [h, tb_zero] at this
  simpa [hy] using this.symm
 ·intro h
  refine inS_ext h1 (inS_zero n) fun i hi => ?_
  rw [h2, tb_zero, h i hi, Bool.and_false]
theorem goodX_iff {nx mk : List Int} (hv : VW nx mk) {e a b x : Nat} (ha : a < nx.length) (hb : b < nx.length) (hx : x < nx.length) : goodX nx (lv nx mk e) a b x = true ↔ tb (rd nx a) x = true ∧ ∀ y, y < nx.length → tb (rd nx b) y = true → ¬ E nx mk e x y := by
 have h6 := hv.le
 unfold goodX
 rw [Bool.and_eq_true, where_zero _ (by omega), bit_at hv ha hx]
 refine and_congr ?_ ?_
 ·cases tb (rd nx a) x <;> simp
 ·refine forall_congr' fun y => ?_
  refine forall_congr' fun hy => ?_
  unfold meets
  rw [bit_at hv hb hy]
  unfold E
  cases tb (rd nx b) y <;> simp
theorem dec_comm (L : List (List Int)) (s t : Nat) : ∀ d, decTo L s t d = decTo L t s d
 | 0 => rfl
 | d + 1 => by
  rw [decTo, decTo, dec_comm L s t d]
  by_cases h : rd (L.getD d []) (s : Int) = rd (L.getD d []) (t : Int)
  ·rw [if_pos h, if_pos h.symm]
  ·rw [if_neg h, if_neg (fun q => h q.symm)]
theorem someF_at {nx mk : List Int} (hv : VW nx mk) {T : Nat → Nat → Nat → Option ByteArray} {K e a b : Nat} (hK : K ≤ 5) (he : e + 1 ≤ K) (ha : a < nx.length) (hb : b < nx.length) (cn c o : UInt8) (turned : Bool) :
    someF T nx (levs nx mk K) (e + 1) a b ⟨#[cn]⟩ ⟨#[c]⟩ ⟨#[o]⟩ turned = match firstG (goodX nx (lv nx mk e) a b) nx.length with
      | none => some (⟨#[]⟩, false)
      | some x => (foldY T nx e b x turned ⟨#[c]⟩ ⟨#[o]⟩ nx.length).bind fun out => if out.size ≤ 1000000 then some (⟨#[cn]⟩ ++ out, true) else none := by
  have h6 := hv.le
  unfold someF
  rw [Nat.add_sub_cancel, levs_at nx mk (show e ≤ K by omega), levs_len]
  exact if_pos ⟨⟨by omega, by omega⟩, lv_len _ _ _, ha, hb, by omega, Nat.le_refl _, Nat.le_refl _, by omega⟩
theorem some_ok {nx mk : List Int} (hv : VW nx mk) {T : Nat → Nat → Nat → Option ByteArray} {K e a b : Nat} (he : e + 1 ≤ K) (hK : K + 1 ≤ nx.length) (hnc : ∀ j, j ≤ K → j + 1 ≤ nc nx mk j) (ha : a < nx.length) (hb : b < nx.length) {cn c o : UInt8} {turned : Bool} (hcn : cn.toNat = if turned = true then 91 else 60) (hc : c.toNat = if turned = true then 124 else 38) (ho : o.toNat = if turned = true then 102 else 116)
    (hT : ∀ x y, x < nx.length → y < nx.length → ¬ E nx mk e x y → ∃ r F, T e x y = some r ∧ Gd nx mk r F e (Bd (decTo (levs nx mk K) x y e)) x y true)
    (hex : ∃ x, x < nx.length ∧ tb (rd nx a) x = true ∧ ∀ y, y < nx.length → tb (rd nx b) y = true → ¬ E nx mk e x y) :
    ∃ r F, someF T nx (levs nx mk K) (e + 1) a b ⟨#[cn]⟩ ⟨#[c]⟩ ⟨#[o]⟩ turned = some (r, true) ∧ Gd nx mk r F (e + 1) (Bd (e + 1)) a b (!turned) := by
  have h6 := hv.le
  rw [someF_at hv (by omega) he ha hb]
  rcases firstG_spec (goodX nx (lv nx mk e) a b) nx.length with ⟨_, h2⟩ | ⟨x, h1, hx, h3, _⟩
  · obtain ⟨x, hx, x1, x2⟩ := hex
    have := h2 x hx
    rw [(goodX_iff hv ha hb hx).2 ⟨x1, x2⟩] at this
    cases this
  · rw [h1]
    obtain ⟨x1, x2⟩ := (goodX_iff hv ha hb hx).1 h3
    have ho' : o.toNat = 116 ∨ o.toNat = 102 := by rw [ho]; split <;> simp
    obtain ⟨out, f1, f2⟩ := fold_ok hv (T := T) (t := b) (x := x) (e := e) (turned := turned) hx hb hc ho' (ey := fun y => decTo (levs nx mk K) x y e) (fun y hy hby => by
      cases turned with
      | false =>
        obtain ⟨r, F, g1, g2⟩ := hT x y hx hy (x2 y hy hby)
        exact ⟨r, F, g1, g2⟩
      | true =>
        obtain ⟨r, F, g1, g2, g3, g4, g5, g6, g7, g8⟩ := hT y x hy hx (fun q => x2 y hy hby q.symm)
        refine ⟨r, F, g1, g2, g3, g4, g5, g7, g6, ?_⟩
        rw [dec_comm]
        exact g8) nx.length (Nat.le_refl _)
    have hk := kids_le hv he hK hnc hx (kid := fun y => tb (rd nx b) y) x2
    have hbd := Bd_le (e + 1)
    have hb2 : 2 ≤ Bd (e + 1) := by unfold Bd; split <;> omega
    have main : ∀ G, cs out = str G → WF G → (∃ d, depF G = some d ∧ d ≤ e) → tb (V nx mk G (0, 0, 0)) x = (!turned) → (∀ y, y < nx.length → tb (rd nx b) y = true → tb (V nx mk G (0, 0, 0)) y = turned) → out.size + 1 ≤ Bd (e + 1) → ∃ r F, some ((⟨#[cn]⟩ : ByteArray) ++ out, true) = some (r, true) ∧ Gd nx mk r F (e + 1) (Bd (e + 1)) a b (!turned) := by
      rintro G g1 g2 ⟨d, g3, g3'⟩ g4 g5 g6
      have iG := (V_spec hv G g2).1 _ (inE_zero nx.length)
      have hcc : cn.toNat = 60 ∨ cn.toNat = 91 := by rw [hcn]; split <;> simp
      refine ⟨_, .one cn.toNat G, rfl, ?_, ⟨hcc, g2⟩, trivial, ⟨d + 1, ?_, by omega⟩, ?_, ?_, ?_⟩
      · rw [cs_app, cs_one, g1]; rfl
      · rw [depF, g3]; simp [hcc]
      · rw [V, hcn]
        cases turned with
        | false =>
          simp only [Bool.false_eq_true, if_false, if_true]
          exact (tb_step_iff hv iG ha).2 ⟨x, hx, x1, g4⟩
        | true =>
          simp only [if_true]
          rw [if_neg (by decide)]
          cases hq : tb (boxTo nx (V nx mk G (0, 0, 0))) a with
          | false => rfl
          | true =>
            rw [(tb_box_iff hv iG ha).1 hq x hx x1] at g4
            cases g4
      · rw [V, hcn, Bool.not_not]
        cases turned with
        | false =>
          simp only [Bool.false_eq_true, if_false, if_true]
          cases hq : tb (stepTo nx (V nx mk G (0, 0, 0))) b with
          | false => rfl
          | true =>
            obtain ⟨u, hu, u1, u2⟩ := (tb_step_iff hv iG hb).1 hq
            rw [g5 u hu u1] at u2
            cases u2
        | true =>
          simp only [if_true]
          rw [if_neg (by decide)]
          exact (tb_box_iff hv iG hb).2 fun u hu u1 => g5 u hu u1
      · rw [ByteArray.size_append]
        show 1 + out.size ≤ _
        omega
    simp only [f1, Option.bind_some]
    rcases f2 with ⟨g1, g2⟩ | ⟨G, g1, g2, g3, g4, g5, g6, g7⟩
    · subst g1
      rw [if_pos (by show 1 ≤ _; omega)]
      refine main (.con o.toNat) rfl ho' ⟨0, rfl, Nat.zero_le _⟩ ?_ (fun y hy hby => by rw [g2 y hy] at hby; cases hby) (by show 1 + 1 ≤ _; omega)
      rw [V, ho]
      cases turned with
      | false =>
        simp only [Bool.false_eq_true, if_false, if_true]
        rw [tb_all (by omega)]
        simp [hx]
      | true =>
        simp only [if_true]
        rw [if_neg (by decide), tb_zero]
        rfl
    · rw [if_pos (by omega)]
      exact main G g1 g2 g4 g5 g6 (by omega)
theorem some_none {nx mk : List Int} (hv : VW nx mk) {T : Nat → Nat → Nat → Option ByteArray} {K e a b : Nat} (he : e + 1 ≤ K) (hK : K + 1 ≤ nx.length) (ha : a < nx.length) (hb : b < nx.length) {cn c o : UInt8} {turned : Bool}
    (hex : ¬ ∃ x, x < nx.length ∧ tb (rd nx a) x = true ∧ ∀ y, y < nx.length → tb (rd nx b) y = true → ¬ E nx mk e x y) :
    someF T nx (levs nx mk K) (e + 1) a b ⟨#[cn]⟩ ⟨#[c]⟩ ⟨#[o]⟩ turned = some (⟨#[]⟩, false) := by
  have h6 := hv.le
  rw [someF_at hv (by omega) he ha hb]
  rcases firstG_spec (goodX nx (lv nx mk e) a b) nx.length with ⟨h1, h2⟩ | ⟨x, h1, hx, h3, _⟩
  · rw [h1]
  · obtain ⟨x1, x2⟩ := (goodX_iff hv ha hb hx).1 h3
    exact absurd ⟨x, hx, x1, x2⟩ hex
theorem bitAt_eq {nx mk : List Int} (hv : VW nx mk) {s k : Nat} (hs : s < nx.length) (hk : k < 4) : bitAt mk s k = if tb (rd mk s) k = true then 1 else 0 := by
  obtain ⟨h1, h2⟩ := hv.marks s hs
  exact markOf_val h1 h2 (by omega)
theorem mark_ok {nx mk : List Int} (hv : VW nx mk) {s t : Nat} (hs : s < nx.length) (ht : t < nx.length) (h : ¬ E nx mk 0 s t) : ∃ r F, markF mk s t = some r ∧ Gd nx mk r F 0 2 s t true := by
  have h6 := hv.le
  rw [E_zero hs ht] at h
  have inM : ∀ u, u < nx.length → InS 4 (rd mk (u : Int)) := fun u hu => by
    obtain ⟨h1, h2⟩ := hv.marks u hu
    exact ⟨h1, by have : (2 : Int) ^ 4 = 16 := by decide
                  omega⟩
  have hex : ∃ k, k < 4 ∧ tb (rd mk s) k ≠ tb (rd mk t) k := by
    apply Classical.byContradiction
    intro q
    apply h
    refine inS_ext (inM s hs) (inM t ht) fun i hi => ?_
    apply Classical.byContradiction
    intro g
    exact q ⟨i, hi, g⟩
  unfold markF
  rcases firstG_spec (fun k => bitAt mk s k != bitAt mk t k) 4 with ⟨_, h2⟩ | ⟨k, h1, hk, h3, _⟩
  · obtain ⟨k, hk, hne⟩ := hex
    have := h2 k hk
    simp only [bitAt_eq hv hs hk, bitAt_eq hv ht hk] at this
    revert this hne
    cases tb (rd mk s) k <;> cases tb (rd mk t) k <;> simp
  · rw [h1]
    simp only [bitAt_eq hv hs hk, bitAt_eq hv ht hk] at h3 ⊢
    have hj : k ≤ 3 := by omega
    obtain ⟨q1, q2⟩ := mset_spec hv hj
    have ha : InS nx.length (allOf nx) := all_in (by omega)
    have k48 : (UInt8.ofNat (48 + k)).toNat = 48 + k := by
      have : k = 0 ∨ k = 1 ∨ k = 2 ∨ k = 3 := by omega
      rcases this with rfl | rfl | rfl | rfl <;> rfl
    have hV : ∀ neg u, u < nx.length → tb (V nx mk (.mark neg k) (0, 0, 0)) u = if neg = true then !tb (rd mk u) k else tb (rd mk u) k := by
      intro neg u hu
      rw [V]
      cases neg with
      | true =>
        simp only [if_true]
        rw [tb_andNot (show nx.length ≤ 62 by omega) (show nx.length ≤ 62 by omega) ha q1, tb_all (by omega), q2]
        simp [hu]
      | false =>
        simp only [Bool.false_eq_true, if_false]
        rw [q2]
        simp [hu]
    by_cases hlt : (if tb (rd mk t) k = true then 1 else 0 : Int) < if tb (rd mk s) k = true then 1 else 0
    · rw [if_pos hlt]
      have : tb (rd mk s) k = true ∧ tb (rd mk t) k = false := by
        revert hlt
        cases tb (rd mk s) k <;> cases tb (rd mk t) k <;> simp
      refine ⟨_, .mark false k, rfl, ?_, hj, trivial, ⟨0, rfl, Nat.le_refl _⟩, ?_, ?_, ?_⟩
      · rw [cs_one, k48]; rfl
      · rw [hV false s hs]; exact this.1
      · rw [hV false t ht]; exact this.2
      · show 1 ≤ 2; omega
    · rw [if_neg hlt]
      have : tb (rd mk s) k = false ∧ tb (rd mk t) k = true := by
        revert hlt h3
        cases tb (rd mk s) k <;> cases tb (rd mk t) k <;> simp
      refine ⟨_, .mark true k, rfl, ?_, hj, trivial, ⟨0, rfl, Nat.le_refl _⟩, ?_, ?_, ?_⟩
      · rw [cs_app, cs_one, cs_one, k48]; rfl
      · rw [hV true s hs, this.1]; rfl
      · rw [hV true t ht, this.2]; rfl
      · show 2 ≤ 2; omega
theorem tell_ok {nx mk : List Int} (hv : VW nx mk) {K : Nat} (hK : K + 1 ≤ nx.length) (hnc : ∀ j, j ≤ K → j + 1 ≤ nc nx mk j) :
    ∀ e d s t, decTo (levs nx mk K) s t d = e → d ≤ K → s < nx.length → t < nx.length → ¬ E nx mk d s t → ∃ r F, tellK nx mk (levs nx mk K) (e + 1) d s t = some r ∧ Gd nx mk r F e (Bd e) s t true := by
  have h6 := hv.le
  intro e
  induction e using Nat.strongRecOn with
  | ind e ih =>
    intro d s t hdec hd hs ht hne
    have hlvl := dec_lvl hv hs ht hd hne
    have hdl := decTo_le (levs nx mk K) s t d
    rw [hdec] at hlvl hdl
    have hcond : (d < (levs nx mk K).length) ∧ (∀ j, j < (levs nx mk K).length → ((levs nx mk K).getD j []).length = nx.length) ∧ s < nx.length ∧ t < nx.length ∧ nx.length ≤ 61 ∧ (levs nx mk K).length ≤ 1000 ∧ nx.length ≤ mk.length := by
      rw [levs_len]
      exact ⟨by omega, fun j hj => by rw [levs_at nx mk (by omega), lv_len], hs, ht, by omega, by omega, by rw [hv.len]; omega⟩
    rw [tellK, tellF, if_pos hcond, hdec]
    cases e with
    | zero => exact mark_ok hv hs ht hlvl.no
    | succ e =>
      have hT : ∀ x y, x < nx.length → y < nx.length → ¬ E nx mk e x y → ∃ r F, tellK nx mk (levs nx mk K) (e + 1) e x y = some r ∧ Gd nx mk r F e (Bd (decTo (levs nx mk K) x y e)) x y true := by
        intro x y hx hy hxy
        have hle := decTo_le (levs nx mk K) x y e
        obtain ⟨r, F, g1, g2, g3, g4, ⟨dd, g5, g5'⟩, g6⟩ := ih _ (show decTo (levs nx mk K) x y e < e + 1 by omega) e x y rfl (by omega) hx hy hxy
        exact ⟨r, F, lift (fun k => tellK_mono nx mk _ k e x y) g1 (by omega), g2, g3, g4, ⟨dd, g5, by omega⟩, g6⟩
      simp only
      by_cases hex : ∃ x, x < nx.length ∧ tb (rd nx s) x = true ∧ ∀ y, y < nx.length → tb (rd nx t) y = true → ¬ E nx mk e x y
      · obtain ⟨r, F, g1, g2⟩ := some_ok hv (T := tellK nx mk (levs nx mk K) (e + 1)) (show e + 1 ≤ K by omega) hK hnc hs ht (cn := 60) (c := 38) (o := 116) (turned := false) rfl rfl rfl hT hex
        refine ⟨r, F, ?_, g2⟩
        rw [g1]
        rfl
      · have hex2 : ∃ x, x < nx.length ∧ tb (rd nx t) x = true ∧ ∀ y, y < nx.length → tb (rd nx s) y = true → ¬ E nx mk e x y := by
          apply Classical.byContradiction
          intro q
          apply hlvl.no
          refine (E_succ hv hs ht).2 ⟨hlvl.yes e (by omega), fun u hu hb => ?_, fun v hvv hb => ?_⟩
          · apply Classical.byContradiction
            intro g
            exact hex ⟨u, hu, hb, fun y hy hy1 hy2 => g ⟨y, hy, hy1, hy2⟩⟩
          · apply Classical.byContradiction
            intro g
            exact q ⟨v, hvv, hb, fun y hy hy1 hy2 => g ⟨y, hy, hy1, hy2.symm⟩⟩
        obtain ⟨r, F, g1, g2, g3, g4, g5, g6, g7, g8⟩ := some_ok hv (T := tellK nx mk (levs nx mk K) (e + 1)) (show e + 1 ≤ K by omega) hK hnc ht hs (cn := 91) (c := 124) (o := 102) (turned := true) rfl rfl rfl hT hex2
        refine ⟨r, F, ?_, g2, g3, g4, g5, g7, g6, g8⟩
        rw [some_none hv (show e + 1 ≤ K by omega) hK hs ht hex]
        simp only [Option.bind_some, Bool.false_eq_true, if_false]
        rw [g1]
        rfl
end Go.Proofs.Ytjffhhalmicodaa.L
end

section
namespace Go.Proofs.Ytjffhhalmicodaa.PH
open Go.RowKit Go.Proofs.G.PrintWords Go.Proofs.G.PrintLast Go.Proofs.G.PrintMore
attribute [local go_sem] max2_int min2_int max_two min_two max_three min_three max_four min_four
set_option linter.unusedVariables false
set_option linter.unusedSimpArgs false
def errW : Option Int → Value
  | none => .nilIface
  | some c => .iface 0 (.int .i64 c)
theorem errW_none : errW none = .nilIface := rfl
theorem errW_some (c : Int) : errW (some c) = .iface 0 (.int .i64 c) := rfl
end Go.Proofs.Ytjffhhalmicodaa.PH
end

section
set_option linter.unusedVariables false
set_option linter.unusedSimpArgs false
namespace Go.Proofs.Ytjffhhalmicodaa.L
open Go.RowKit Go.Proofs.G.PrintWords Go.Proofs.G.PrintLast Go.Proofs.G.PrintMore Go.Proofs.Ytjffhhalmicodaa.X Go.Proofs.Ytjffhhalmicodaa.PH
theorem parse_back : ∀ f b n l, WF f → Sc b f → (str f).length < n → parse n (str f ++ l) b = some (f, l) := by
 intro f
 induction f with
 | mark neg j =>
  intro b n l hw hs hn
  have hj : j ≤ 3 := hw
  have hm : isMk (48 + j) = true := isMk_iff.2 (by omega)
  cases neg with
  | true =>
   obtain ⟨n, rfl⟩ : ∃ m, n = m + 1 := ⟨n - 1, by omega⟩
   show parse (n + 1) (45 :: (48 + j) :: l) b = _
   rw [parse_cons, if_neg (by decide), if_pos rfl, parseDash, if_pos hm, Nat.add_sub_cancel_left]
  | false =>
   obtain ⟨n, rfl⟩ : ∃ m, n = m + 1 := ⟨n - 1, by omega⟩
   show parse (n + 1) ((48 + j) :: l) b = _
   rw [parse_cons, if_pos hm, Nat.add_sub_cancel_left]
 | con c =>
  intro b n l hw hs hn
  have hc : c = 116 ∨ c = 102 := hw
  obtain ⟨n, rfl⟩ : ∃ m, n = m + 1 := ⟨n - 1, by omega⟩
  show parse (n + 1) (c :: l) b = _
  rw [parse_cons, if_neg (by rw [isMk_iff]; omega), if_neg (by omega), if_pos hc]
 | var c =>
  intro b n l hw hs hn
  have hc : 120 ≤ c ∧ c ≤ 122 := hw
  obtain ⟨n, rfl⟩ : ∃ m, n = m + 1 := ⟨n - 1, by omega⟩
  show parse (n + 1) (c :: l) b = _
  rw [parse_cons, if_neg (by rw [isMk_iff]; omega), if_neg (by omega), if_neg (by omega), if_pos (isLt_iff.2 hc), if_pos (show c ∈ b from hs)]
 | two c p q ihp ihq =>
  intro b n l hw hs hn
  have hc : c = 38 ∨ c = 124 := hw.1
  simp only [str, List.length_cons, List.length_append] at hn
  obtain ⟨n, rfl⟩ : ∃ m, n = m + 1 := ⟨n - 1, by omega⟩
  show parse (n + 1) (c :: ((str p ++ str q) ++ l)) b = _
  rw [parse_cons, if_neg (by rw [isMk_iff]; omega), if_neg (by omega), if_neg (by omega), if_neg (by rw [isLt_iff]; omega), if_neg (by omega), if_pos hc, List.append_assoc, ihp b n _ hw.2.1 hs.1 (by omega)]
  simp only [Option.bind_some]
  rw [ihq b n _ hw.2.2 hs.2 (by omega)]
  rfl
 | one c p ihp =>
  intro b n l hw hs hn
  have hc : c = 60 ∨ c = 91 := hw.1
  simp only [str, List.length_cons] at hn
  obtain ⟨n, rfl⟩ : ∃ m, n = m + 1 := ⟨n - 1, by omega⟩
  show parse (n + 1) (c :: (str p ++ l)) b = _
  rw [parse_cons, if_neg (by rw [isMk_iff]; omega), if_neg (by omega), if_neg (by omega), if_neg (by rw [isLt_iff]; omega), if_neg (by omega), if_neg (by omega), if_pos hc, ihp b n _ hw.2 hs (by omega)]
  rfl
 | fix c x p ihp =>
  intro b n l hw hs hn
  have hc : c = 109 ∨ c = 103 := hw.1
  simp only [str, List.length_cons] at hn
  obtain ⟨n, rfl⟩ : ∃ m, n = m + 1 := ⟨n - 1, by omega⟩
  show parse (n + 1) (c :: (x :: (str p ++ l))) b = _
  rw [parse_cons, if_neg (by rw [isMk_iff]; omega), if_neg (by omega), if_neg (by omega), if_neg (by rw [isLt_iff]; omega), if_pos hc, parseFix, if_pos ⟨isLt_iff.2 hw.2.1, hs.1⟩, ihp (b ++ [x]) n _ hw.2.2 hs.2 (by omega)]
  rfl
theorem whole_back {f : Fm} (hw : WF f) (hs : Sc [] f) : whole (str f) = some f := by
  unfold whole
  have h := parse_back f [] ((str f).length + 1) [] hw hs (by omega)
  rw [List.append_nil] at h
  rw [h]
  rfl
theorem sc_of : ∀ f m b, depF f = some m → Sc b f := by
 intro f
 induction f with
 | mark neg k => intros; trivial
 | con c => intros; trivial
 | var c => intro m b h; simp [depF] at h
 | fix c x a _ => intro m b h; simp [depF] at h
 | two c a b iha ihb =>
  intro m l hm
  rw [depF] at hm
  obtain ⟨x, hx, hm⟩ := Option.bind_eq_some_iff.mp hm
  obtain ⟨y, hy, hm⟩ := Option.bind_eq_some_iff.mp hm
  exact ⟨iha x l hx, ihb y l hy⟩
 | one c a iha =>
  intro m l hm
  rw [depF, Option.map_eq_some_iff] at hm
  obtain ⟨x, hx, hm⟩ := hm
  exact (show Sc l a from iha x l hx)
def toldV (nx mk : List Int) (s t : Nat) (a : ByteArray) : Int × Bool := if a.size ≤ 4000 then (match whole (cs a) with
  | none => (0, false)
  | some f => match depF f with
    | none => (0, false)
    | some d => if tb (V nx mk f (0, 0, 0)) s = false then (0, false) else if tb (V nx mk f (0, 0, 0)) t = true then (0, false) else ((d : Int), true)) else (0, false)
theorem bit_div {x : Int} {n : Nat} (hn : n ≤ 61) (h : InS n x) {t : Nat} (ht : t ≤ 64) : bits .and .i64 (x / 2 ^ t) 1 = if tb x t = true then 1 else 0 := by
  rw [← shr_at x ht]
  exact bit_of hn h ht
theorem Check_ev {nx mk : List Int} (hv : VW nx mk) {s t : Nat} (hs : s < nx.length) (ht : t < nx.length) (a : ByteArray) : Evr (fun k => fixes_CheckTell.f k nx mk (s : Int) (t : Int) a) ((toldV nx mk s t a).1, (toldV nx mk s t a).2, 0) := by
 have h6 := hv.le
 unfold fixes_CheckTell.f
 rw [isState_ok hv, decide_eq_true (show St nx (s : Int) ∧ St nx (t : Int) from ⟨⟨by omega, by omega⟩, ⟨by omega, by omega⟩⟩)]
 simp only [Option.bind_some, if_true]
 unfold toldV
 by_cases ha : a.size ≤ 4000
 ·rw [if_pos (show (a.size : Int) ≤ 4000 by omega), if_pos ha]
  cases hw : whole (cs a) with
  | none => exact Evr.const _
  | some f =>
   simp only
   obtain ⟨w1, w2⟩ := whole_str hw
   cases hd : depF f with
   | none => exact Evr.const _
   | some d =>
    simp only
    obtain ⟨k1, m1, _, r1⟩ := both_holds hv hw
    have iV := (V_spec hv f w2).1 _ (inE_zero nx.length)
    have hr : Evr (fun k => holdF nx mk k f []) (V nx mk f (0, 0, 0), m1) := Evr.of_mono (fun k => (holdF_mono nx mk k).1 f []) ⟨k1, r1⟩
    have hcnd : nx.length ≤ 61 := by omega
    simp only [if_pos hcnd]
    refine Evr.bind (f := fun p k => _) hr (Evr.of_all fun k => ?_)
    have e1 := bit_div (n := nx.length) (by omega) iV (show s ≤ 64 by omega)
    have e2 := bit_div (n := nx.length) (by omega) iV (show t ≤ 64 by omega)
    simp only [Int.toNat_natCast, e1, e2]
    cases tb (V nx mk f (0, 0, 0)) s <;> cases tb (V nx mk f (0, 0, 0)) t <;> rfl
 ·rw [if_neg (show ¬ (a.size : Int) ≤ 4000 by omega), if_neg ha]
  exact Evr.const _
theorem gd_told {nx mk : List Int} (hv : VW nx mk) {s t e : Nat} (hs : s < nx.length) (ht : t < nx.length) (h : Lvl nx mk s t e) {r : ByteArray} {F : Fm} (hg : Gd nx mk r F e (Bd e) s t true) : toldV nx mk s t r = ((e : Int), true) := by
 obtain ⟨g1, g2, g3, ⟨d, g4, g4'⟩, g5, g6, g7⟩ := hg
 have hbd := Bd_le e
 have hde : d = e := by
  apply Classical.byContradiction
  intro q
  have := V_depth hv (0, 0, 0) (inE_zero _) F g2 d g4 s t hs ht (h.yes d (by omega))
  rw [g5, g6] at this
  cases this
 subst hde
 unfold toldV
 rw [if_pos (by omega), g1, whole_back g2 (sc_of F d [] g4)]
 simp only [g4]
 rw [g5, g6]
 rfl
theorem Tell_off_ev {nx mk : List Int} (hv : VW nx mk) {a b : Int} (h : ¬ (St nx a ∧ St nx b)) (k : Nat) : fixes_Tell.f k nx mk a b = some (⟨#[]⟩, 2) := by
  unfold fixes_Tell.f
  rw [isState_ok hv, decide_eq_false h]
  rfl
theorem Tell_bad {nx mk : List Int} (h : ¬ VW nx mk) (a b : Int) (k : Nat) : fixes_Tell.f k nx mk a b = some (⟨#[]⟩, 2) := by
  unfold fixes_Tell.f fixes_isState.f
  simp only [valid_false h, Option.bind_some]
  rfl
theorem Tell_on {nx mk : List Int} (hv : VW nx mk) {K : Nat} (hK : Last nx mk K) {s t : Nat} (hs : s < nx.length) (ht : t < nx.length) {r : ByteArray × Int} (h : Evr (fun k => if rd (lv nx mk K) (s : Int) = rd (lv nx mk K) (t : Int) then some ((⟨#[]⟩ : ByteArray), (4 : Int)) else (tellK nx mk (levs nx mk K) k K s t).bind fun r => some (r, 0)) r) : Evr (fun k => fixes_Tell.f k nx mk (s : Int) (t : Int)) r := by
 have h6 := hv.le
 have hl := hK.le hv
 unfold fixes_Tell.f
 rw [isState_ok hv, decide_eq_true (show St nx (s : Int) ∧ St nx (t : Int) from ⟨⟨by omega, by omega⟩, ⟨by omega, by omega⟩⟩)]
 simp only [Option.bind_some, if_true]
 refine Evr.bind (f := fun L k => if L ≠ [] ∧ L.length ≤ 1000 ∧ nx.length ≤ (L.getLastD []).length then (if rd (L.getLastD []) (s : Int) = rd (L.getLastD []) (t : Int) then some ((⟨#[]⟩ : ByteArray), (4 : Int)) else (tellK nx mk L k (L.length - 1) ((s : Int)).toNat ((t : Int)).toNat).bind fun r => some (r, 0)) else none) (levels_ev hv hK) ?_
 refine Evr.congr (fun k => ?_) h
 have hne : levs nx mk K ≠ [] := by
  intro q
  have := levs_len nx mk K
  rw [q] at this
  simp at this
 rw [levs_last, levs_len, if_pos ⟨hne, by omega, by rw [lv_len]; exact Nat.le_refl _⟩, Int.toNat_natCast, Int.toNat_natCast, Nat.add_sub_cancel]
theorem Tell_same_ev {nx mk : List Int} (hv : VW nx mk) {K : Nat} (hK : Last nx mk K) {s t : Nat} (hs : s < nx.length) (ht : t < nx.length) (h : E nx mk K s t) : Evr (fun k => fixes_Tell.f k nx mk (s : Int) (t : Int)) ((⟨#[]⟩ : ByteArray), (4 : Int)) :=
  Tell_on hv hK hs ht (Evr.of_all fun k => if_pos h)
theorem Tell_yes_ev {nx mk : List Int} (hv : VW nx mk) {K : Nat} (hK : Last nx mk K) (hnc : ∀ j, j ≤ K → j + 1 ≤ nc nx mk j) {s t : Nat} (hs : s < nx.length) (ht : t < nx.length) (h : ¬ E nx mk K s t) : ∃ r e, Lvl nx mk s t e ∧ e ≤ K ∧ Evr (fun k => fixes_Tell.f k nx mk (s : Int) (t : Int)) (r, (0 : Int)) ∧ toldV nx mk s t r = ((e : Int), true) := by
  have hl := hK.le hv
  have hlvl := dec_lvl hv hs ht (Nat.le_refl K) h
  obtain ⟨r, F, g1, g2⟩ := tell_ok hv hl hnc _ K s t rfl (Nat.le_refl _) hs ht h
  refine ⟨r, _, hlvl, decTo_le _ _ _ _, Tell_on hv hK hs ht ?_, gd_told hv hs ht hlvl g2⟩
  refine Evr.congr (fun k => if_neg h) (Evr.bind (f := fun r _ => some (r, (0 : Int))) (Evr.of_mono (fun k => tellK_mono nx mk _ k K s t) ⟨_, g1⟩) (Evr.const _))
end Go.Proofs.Ytjffhhalmicodaa.L
end

section
namespace Go.Proofs.Ytjffhhalmicodaa.PH
open Go.RowKit Go.Proofs.G.PrintWords Go.Proofs.G.PrintLast Go.Proofs.G.PrintMore
attribute [local go_sem] max2_int min2_int max_two min_two max_three min_three max_four min_four
set_option linter.unusedVariables false
set_option linter.unusedSimpArgs false
def q8FixesTold.j0 : Nat → Int → Int → ByteArray → Int → ByteArray → Int → Bool → List Int → List Int → Option (Bool)
  | 0, _, _, _, _, _, _, _, _, _ => none
  | k + 1, x1, x2, x7, x8, x9, x10, x49, x146000, x146001 => if x49 = true then (if x8 = 2 then (if x10 = 2 then ((PB.q8awake.f k).bind fun t165 => (some t165)) else (some false)) else (some false)) else ((PA.q8Of.f x146000 x146001).bind fun bt166 => ((PF.fixes_Alike.f k bt166.1 bt166.2 x1 x2).bind fun bt172 => (if bt172.2 = 0 then (if bt172.1 = true then (if x8 = 4 then (if x10 = 4 then ((PB.q8awake.f k).bind fun t174 => (some t174)) else (some false)) else (some false)) else ((PA.q8Of.f x146000 x146001).bind fun bt175 => ((X.fixes_CheckTell.f k bt175.1 bt175.2 x1 x2 x7).bind fun bt181 => ((PA.q8Of.f x146000 x146001).bind fun bt184 => ((X.fixes_CheckTell.f k bt184.1 bt184.2 x2 x1 x9).bind fun bt190 => (if x8 = 0 then (if x10 = 0 then (if bt181.2.2 = 0 then (if bt190.2.2 = 0 then (if bt181.2.1 = true then (if bt190.2.1 = true then (if bt181.1 = bt190.1 then (if bt181.1 ≥ 0 then (if bt181.1 ≤ 5 then ((PB.q8awake.f k).bind fun t193 => (some t193)) else (some false)) else (some false)) else (some false)) else (some false)) else (some false)) else (some false)) else (some false)) else (some false)) else (some false))))))) else (some false))))
def q8FixesTold.f (k : Nat) (l0_0 : List Int) (l0_1 : List Int) (a1 : Int) (a2 : Int) : Option (Bool) := (PA.q8Of.f l0_0 l0_1).bind fun bt146 => ((X.fixes_Tell.f k bt146.1 bt146.2 a1 a2).bind fun bt152 => ((PA.q8Of.f l0_0 l0_1).bind fun bt154 => ((X.fixes_Tell.f k bt154.1 bt154.2 a2 a1).bind fun bt160 => ((PB.r8Valid.f k l0_0 l0_1).bind fun t162 => (if t162 = true then ((PF.r8State.f l0_0 l0_1 a1).bind fun t163 => (if t163 = true then ((PF.r8State.f l0_0 l0_1 a2).bind fun t164 => (q8FixesTold.j0 k a1 a2 bt152.1 bt152.2 bt160.1 bt160.2 (!t164) l0_0 l0_1)) else (q8FixesTold.j0 k a1 a2 bt152.1 bt152.2 bt160.1 bt160.2 true l0_0 l0_1))) else (q8FixesTold.j0 k a1 a2 bt152.1 bt152.2 bt160.1 bt160.2 true l0_0 l0_1))))))
set_option maxHeartbeats 8000000 in
set_option maxRecDepth 100000 in
theorem q8FixesTold.calls (k : Nat) (A0_0 : Option Addr) (c0_0 : Nat) (l0_0 : List Int) (A0_1 : Option Addr) (c0_1 : Nat) (l0_1 : List Int) (a1 : Int) (a2 : Int) (r : Bool) (ht : r = true) (w : World) (hr0_0 : Kd.C (Kd.int .i64) w A0_0 l0_0.length l0_0) (hc0_0 : l0_0.length ≤ c0_0) (hr0_1 : Kd.C (Kd.int .i64) w A0_1 l0_1.length l0_1) (hc0_1 : l0_1.length ≤ c0_1) (h : q8FixesTold.f k l0_0 l0_1 a1 a2 = some r) :
  Calls Try.prog 15 #[.agg #[.slice A0_0 l0_0.length c0_0, .slice A0_1 l0_1.length c0_1], .int .i64 a1, .int .i64 a2] w fun e w' => e = .returned (.bool r) ∧ Below w.heap.size w w' := by
 have hu24 := Try.underlying24
 have HR0_0 := As0.mk hr0_0
 have HC0_0 := As0.mk hc0_0
 clear hr0_0 hc0_0
 have HR0_1 := As0.mk hr0_1
 have HC0_1 := As0.mk hc0_1
 clear hr0_1 hc0_1
 have HB := As0.mk (Below.refl w.heap.size w)
 have H : ((PA.q8Of.f l0_0 l0_1).bind fun bt146 => ((X.fixes_Tell.f k bt146.1 bt146.2 a1 a2).bind fun bt152 => ((PA.q8Of.f l0_0 l0_1).bind fun bt154 => ((X.fixes_Tell.f k bt154.1 bt154.2 a2 a1).bind fun bt160 => ((PB.r8Valid.f k l0_0 l0_1).bind fun t162 => (if t162 = true then ((PF.r8State.f l0_0 l0_1 a1).bind fun t163 => (if t163 = true then ((PF.r8State.f l0_0 l0_1 a2).bind fun t164 => (q8FixesTold.j0 k a1 a2 bt152.1 bt152.2 bt160.1 bt160.2 (!t164) l0_0 l0_1)) else (q8FixesTold.j0 k a1 a2 bt152.1 bt152.2 bt160.1 bt160.2 true l0_0 l0_1))) else (q8FixesTold.j0 k a1 a2 bt152.1 bt152.2 bt160.1 bt160.2 true l0_0 l0_1))))))) = some r := h
 clear h
 replace H := Option.bind_eq_some_iff.mp H
 obtain ⟨⟨t146, t149⟩, A40, H⟩ := H
 replace H : ((X.fixes_Tell.f k t146 t149 a1 a2).bind fun bt152 => ((PA.q8Of.f l0_0 l0_1).bind fun bt154 => ((X.fixes_Tell.f k bt154.1 bt154.2 a2 a1).bind fun bt160 => ((PB.r8Valid.f k l0_0 l0_1).bind fun t162 => (if t162 = true then ((PF.r8State.f l0_0 l0_1 a1).bind fun t163 => (if t163 = true then ((PF.r8State.f l0_0 l0_1 a2).bind fun t164 => (q8FixesTold.j0 k a1 a2 bt152.1 bt152.2 bt160.1 bt160.2 (!t164) l0_0 l0_1)) else (q8FixesTold.j0 k a1 a2 bt152.1 bt152.2 bt160.1 bt160.2 true l0_0 l0_1))) else (q8FixesTold.j0 k a1 a2 bt152.1 bt152.2 bt160.1 bt160.2 true l0_0 l0_1)))))) = some r := H
 have A4 := As0.mk A40
 clear A40
 replace H := Option.bind_eq_some_iff.mp H
 obtain ⟨⟨t152, t153⟩, A50, H⟩ := H
 replace H : ((PA.q8Of.f l0_0 l0_1).bind fun bt154 => ((X.fixes_Tell.f k bt154.1 bt154.2 a2 a1).bind fun bt160 => ((PB.r8Valid.f k l0_0 l0_1).bind fun t162 => (if t162 = true then ((PF.r8State.f l0_0 l0_1 a1).bind fun t163 => (if t163 = true then ((PF.r8State.f l0_0 l0_1 a2).bind fun t164 => (q8FixesTold.j0 k a1 a2 t152 t153 bt160.1 bt160.2 (!t164) l0_0 l0_1)) else (q8FixesTold.j0 k a1 a2 t152 t153 bt160.1 bt160.2 true l0_0 l0_1))) else (q8FixesTold.j0 k a1 a2 t152 t153 bt160.1 bt160.2 true l0_0 l0_1))))) = some r := H
 have A5 := As0.mk A50
 clear A50
 replace H := Option.bind_eq_some_iff.mp H
 obtain ⟨⟨t154, t157⟩, A60, H⟩ := H
 replace H : ((X.fixes_Tell.f k t154 t157 a2 a1).bind fun bt160 => ((PB.r8Valid.f k l0_0 l0_1).bind fun t162 => (if t162 = true then ((PF.r8State.f l0_0 l0_1 a1).bind fun t163 => (if t163 = true then ((PF.r8State.f l0_0 l0_1 a2).bind fun t164 => (q8FixesTold.j0 k a1 a2 t152 t153 bt160.1 bt160.2 (!t164) l0_0 l0_1)) else (q8FixesTold.j0 k a1 a2 t152 t153 bt160.1 bt160.2 true l0_0 l0_1))) else (q8FixesTold.j0 k a1 a2 t152 t153 bt160.1 bt160.2 true l0_0 l0_1)))) = some r := H
 have A6 := As0.mk A60
 clear A60
 replace H := Option.bind_eq_some_iff.mp H
 obtain ⟨⟨t160, t161⟩, A70, H⟩ := H
 replace H : ((PB.r8Valid.f k l0_0 l0_1).bind fun t162 => (if t162 = true then ((PF.r8State.f l0_0 l0_1 a1).bind fun t163 => (if t163 = true then ((PF.r8State.f l0_0 l0_1 a2).bind fun t164 => (q8FixesTold.j0 k a1 a2 t152 t153 t160 t161 (!t164) l0_0 l0_1)) else (q8FixesTold.j0 k a1 a2 t152 t153 t160 t161 true l0_0 l0_1))) else (q8FixesTold.j0 k a1 a2 t152 t153 t160 t161 true l0_0 l0_1))) = some r := H
 have A7 := As0.mk A70
 clear A70
 have HC8 := As0.mk H
 clear H
 go_enter Try.func15, Try.ntmps15
 go_upto_region 3 with (first | ((with_reducible refine gate_dst (N := 3) rfl ?_); refine box_event ?hg (N := 3) ?hd (cs := #[.slice A0_0 l0_0.length c0_0, .slice A0_1 l0_1.length c0_1]) (t := 24) ?hr ?_; (case hd => rfl); (case hg => rfl); (case hr => first | (go_simp; done) | (go_simp; rfl)); intro gb145 hg w9 hbox hb; have n0_ := As0.mk (bst (by repeat (first | (with_reducible first | exact HB.out | apply below_alloc | apply pwd | apply bd1) | exact HB.out)) hb); have n1_ := As0.mk (hbox); have n2_ := As0.mk ((by rw [hg]; exact (below_size (by repeat (first | (with_reducible first | exact HB.out | apply below_alloc | apply pwd | apply bd1) | exact HB.out))) : w.heap.size ≤ gb145)); have n3_ := As0.mk ((by rw [hg]; exact (below_size (by repeat (first | (with_reducible first | exact HB.out | apply below_alloc | apply pwd | apply bd1) | exact HB.out))) : w.heap.size ≤ gb145)); clear HB; have HB := n0_; have BK145 := n1_; have GW145 := n2_; have GE145 := n3_; clear n0_ n1_ n2_ n3_; clear hb hbox hg; have hcz10_0 : w9.cell? ⟨gb145, 0, none⟩ = some (.slice A0_0 l0_0.length c0_0) := (blk_cell BK145.out 0).trans rfl; have hcz10_1 : w9.cell? ⟨gb145, 1, none⟩ = some (.slice A0_1 l0_1.length c0_1) := (blk_cell BK145.out 1).trans rfl; have hfz10_0 := blk_frozen BK145.out 0; have hfz10_1 := blk_frozen BK145.out 1) | ((with_reducible refine gate_callee (f := 17) rfl ?_); refine goesL_ (some 21) rfl rfl Try.func17 (by kernel_rfl) rfl #[.agg #[.slice A0_0 l0_0.length c0_0, .slice A0_1 l0_1.length c0_1]] rfl (by (try simp only [sm]); first | done | rfl | (simp only [List.length_drop, List.length_take]; rfl)) ?_; (with_reducible refine (PA.q8Of.calls _ _ l0_0 _ _ l0_1 t146 t149 _ ?side1 ?side2 ?side3 ?side4 A4.out).mono ?_); (case side1 => repeat (first | exact (Kd.C_below HR0_0.out HB.out) | (with_reducible refine Kd.C_alloc ?_ _) | (with_reducible refine Kd.C_drewN ?_ _) | (with_reducible refine Kd.C_drew ?_))); (case side2 => exact HC0_0.out); (case side3 => repeat (first | exact (Kd.C_below HR0_1.out HB.out) | (with_reducible refine Kd.C_alloc ?_ _) | (with_reducible refine Kd.C_drewN ?_ _) | (with_reducible refine Kd.C_drew ?_))); (case side4 => exact HC0_1.out); rintro e w11 ⟨v147, v150, rfl, ho0, ho1, hb⟩; refine ⟨_, rfl, ?_⟩; have n0_ := As0.mk (Kd.R_lower ho0 (below_size (by repeat (first | (with_reducible first | exact HB.out | apply below_alloc | apply pwd | apply bd1 | refine below_set ?_ GE145.out) | exact HB.out)))); have n1_ := As0.mk (Kd.R_lower ho1 (below_size (by repeat (first | (with_reducible first | exact HB.out | apply below_alloc | apply pwd | apply bd1 | refine below_set ?_ GE145.out) | exact HB.out)))); have n2_ := As0.mk (blk_below (g := gb145) (o := .cells #[.slice A0_0 l0_0.length c0_0, .slice A0_1 l0_1.length c0_1] 24 (0, 0)) (by (with_reducible repeat (first | refine blk_drewN ?_ _ | refine blk_drew ?_ | refine blk_alloc ?_ _)); exact BK145.out) hb); have n3_ := As0.mk (bst (by repeat (first | (with_reducible first | exact HB.out | apply below_alloc | apply pwd | apply bd1 | refine below_set ?_ GE145.out) | exact HB.out)) hb); clear BK145; clear HB; have HO148 := n0_; have HO151 := n1_; have BK145 := n2_; have HB := n3_; clear n0_ n1_ n2_ n3_; (try clear hb); (try clear hb2); (try clear hk); (try clear hi); (try clear ho0); (try clear ho1); obtain ⟨Ao12, co12, eo12⟩ := Kd.R_slice HO148.out; subst eo12; obtain ⟨Ao13, co13, eo13⟩ := Kd.R_slice HO151.out; subst eo13) | ((with_reducible refine gate_callee (f := 42) rfl ?_); refine goesL_ (some 24) rfl rfl Try.func42 (by kernel_rfl) rfl #[.agg #[.slice Ao12 t146.length co12, .slice Ao13 t149.length co13], .int .i64 a1, .int .i64 a2] rfl (by (try simp only [sm]); first | done | rfl | (simp only [List.length_drop, List.length_take]; rfl)) ?_; (with_reducible refine (X.fixes_Tell.calls k _ _ t146 _ _ t149 a1 a2 t152 t153 _ ?side1 ?side2 ?side3 ?side4 A5.out).mono ?_); (case side1 => repeat (first | exact (Kd.R_reads' HO148.out).2.2 | (with_reducible refine Kd.C_alloc ?_ _) | (with_reducible refine Kd.C_drewN ?_ _) | (with_reducible refine Kd.C_drew ?_))); (case side2 => exact (Kd.R_reads' HO148.out).2.1); (case side3 => repeat (first | exact (Kd.R_reads' HO151.out).2.2 | (with_reducible refine Kd.C_alloc ?_ _) | (with_reducible refine Kd.C_drewN ?_ _) | (with_reducible refine Kd.C_drew ?_))); (case side4 => exact (Kd.R_reads' HO151.out).2.1); rintro e w14 ⟨rfl, hb⟩; refine ⟨_, rfl, ?_⟩; have n0_ := As0.mk (Kd.R_below (by (with_reducible repeat (first | apply Kd.R_alloc | apply Kd.R_drewN | apply Kd.R_drew)); exact HO148.out) hb); have n1_ := As0.mk (Kd.R_below (by (with_reducible repeat (first | apply Kd.R_alloc | apply Kd.R_drewN | apply Kd.R_drew)); exact HO151.out) hb); have n2_ := As0.mk (blk_below (g := gb145) (o := .cells #[.slice A0_0 l0_0.length c0_0, .slice A0_1 l0_1.length c0_1] 24 (0, 0)) (by (with_reducible repeat (first | refine blk_drewN ?_ _ | refine blk_drew ?_ | refine blk_alloc ?_ _)); exact BK145.out) hb); have n3_ := As0.mk (bst (by repeat (first | (with_reducible first | exact HB.out | apply below_alloc | apply pwd | apply bd1 | refine below_set ?_ GE145.out) | exact HB.out)) hb); clear HO148; clear HO151; clear BK145; clear HB; have HO148 := n0_; have HO151 := n1_; have BK145 := n2_; have HB := n3_; clear n0_ n1_ n2_ n3_; (try clear hb); (try clear hb2); (try clear hk); (try clear hi); have hcz15_0 : w14.cell? ⟨gb145, 0, none⟩ = some (.slice A0_0 l0_0.length c0_0) := (blk_cell BK145.out 0).trans rfl; have hcz15_1 : w14.cell? ⟨gb145, 1, none⟩ = some (.slice A0_1 l0_1.length c0_1) := (blk_cell BK145.out 1).trans rfl; have hfz15_0 := blk_frozen BK145.out 0; have hfz15_1 := blk_frozen BK145.out 1) | ((with_reducible refine gate_callee (f := 17) rfl ?_); refine goesL_ (some 29) rfl rfl Try.func17 (by kernel_rfl) rfl #[.agg #[.slice A0_0 l0_0.length c0_0, .slice A0_1 l0_1.length c0_1]] rfl (by (try simp only [sm]); first | done | rfl | (simp only [List.length_drop, List.length_take]; rfl)) ?_; (with_reducible refine (PA.q8Of.calls _ _ l0_0 _ _ l0_1 t154 t157 _ ?side1 ?side2 ?side3 ?side4 A6.out).mono ?_); (case side1 => repeat (first | exact (Kd.C_below HR0_0.out HB.out) | (with_reducible refine Kd.C_alloc ?_ _) | (with_reducible refine Kd.C_drewN ?_ _) | (with_reducible refine Kd.C_drew ?_))); (case side2 => exact HC0_0.out); (case side3 => repeat (first | exact (Kd.C_below HR0_1.out HB.out) | (with_reducible refine Kd.C_alloc ?_ _) | (with_reducible refine Kd.C_drewN ?_ _) | (with_reducible refine Kd.C_drew ?_))); (case side4 => exact HC0_1.out); rintro e w16 ⟨v155, v158, rfl, ho0, ho1, hb⟩; refine ⟨_, rfl, ?_⟩; have n0_ := As0.mk (Kd.R_mono (Kd.R_told (Kd.R_told (Kd.R_old (by (with_reducible repeat (first | apply Kd.R_alloc | apply Kd.R_drewN | apply Kd.R_drew)); exact HO148.out) hb) (Kd.R_base ho0)) (Kd.R_base ho1)) (fun _ h_ => h_.1)); have n1_ := As0.mk (Kd.R_mono (Kd.R_told (Kd.R_told (Kd.R_old (by (with_reducible repeat (first | apply Kd.R_alloc | apply Kd.R_drewN | apply Kd.R_drew)); exact HO151.out) hb) (Kd.R_base ho0)) (Kd.R_base ho1)) (fun _ h_ => h_.1)); have n2_ := As0.mk (Kd.R_lower (Kd.R_new' (Kd.R_new' ho0 (Kd.R_lt (by (with_reducible repeat (first | apply Kd.R_alloc | apply Kd.R_drewN | apply Kd.R_drew)); exact HO148.out))) (Kd.R_lt (by (with_reducible repeat (first | apply Kd.R_alloc | apply Kd.R_drewN | apply Kd.R_drew)); exact HO151.out))) (below_size (by repeat (first | (with_reducible first | exact HB.out | apply below_alloc | apply pwd | apply bd1 | refine below_set ?_ GE145.out) | exact HB.out)))); have n3_ := As0.mk (Kd.R_lower (Kd.R_new' (Kd.R_new' ho1 (Kd.R_lt (by (with_reducible repeat (first | apply Kd.R_alloc | apply Kd.R_drewN | apply Kd.R_drew)); exact HO148.out))) (Kd.R_lt (by (with_reducible repeat (first | apply Kd.R_alloc | apply Kd.R_drewN | apply Kd.R_drew)); exact HO151.out))) (below_size (by repeat (first | (with_reducible first | exact HB.out | apply below_alloc | apply pwd | apply bd1 | refine below_set ?_ GE145.out) | exact HB.out)))); have n4_ := As0.mk (blk_below (g := gb145) (o := .cells #[.slice A0_0 l0_0.length c0_0, .slice A0_1 l0_1.length c0_1] 24 (0, 0)) (by (with_reducible repeat (first | refine blk_drewN ?_ _ | refine blk_drew ?_ | refine blk_alloc ?_ _)); exact BK145.out) hb); have n5_ := As0.mk (bst (by repeat (first | (with_reducible first | exact HB.out | apply below_alloc | apply pwd | apply bd1 | refine below_set ?_ GE145.out) | exact HB.out)) hb); clear HO148; clear HO151; clear BK145; clear HB; have HO148 := n0_; have HO151 := n1_; have HO156 := n2_; have HO159 := n3_; have BK145 := n4_; have HB := n5_; clear n0_ n1_ n2_ n3_ n4_ n5_; (try clear hb); (try clear hb2); (try clear hk); (try clear hi); (try clear ho0); (try clear ho1); obtain ⟨Ao17, co17, eo17⟩ := Kd.R_slice HO156.out; subst eo17; obtain ⟨Ao18, co18, eo18⟩ := Kd.R_slice HO159.out; subst eo18) | ((with_reducible refine gate_callee (f := 42) rfl ?_); refine goesL_ (some 32) rfl rfl Try.func42 (by kernel_rfl) rfl #[.agg #[.slice Ao17 t154.length co17, .slice Ao18 t157.length co18], .int .i64 a2, .int .i64 a1] rfl (by (try simp only [sm]); first | done | rfl | (simp only [List.length_drop, List.length_take]; rfl)) ?_; (with_reducible refine (X.fixes_Tell.calls k _ _ t154 _ _ t157 a2 a1 t160 t161 _ ?side1 ?side2 ?side3 ?side4 A7.out).mono ?_); (case side1 => repeat (first | exact (Kd.R_reads' HO156.out).2.2 | (with_reducible refine Kd.C_alloc ?_ _) | (with_reducible refine Kd.C_drewN ?_ _) | (with_reducible refine Kd.C_drew ?_))); (case side2 => exact (Kd.R_reads' HO156.out).2.1); (case side3 => repeat (first | exact (Kd.R_reads' HO159.out).2.2 | (with_reducible refine Kd.C_alloc ?_ _) | (with_reducible refine Kd.C_drewN ?_ _) | (with_reducible refine Kd.C_drew ?_))); (case side4 => exact (Kd.R_reads' HO159.out).2.1); rintro e w19 ⟨rfl, hb⟩; refine ⟨_, rfl, ?_⟩; have n0_ := As0.mk (Kd.R_below (by (with_reducible repeat (first | apply Kd.R_alloc | apply Kd.R_drewN | apply Kd.R_drew)); exact HO148.out) hb); have n1_ := As0.mk (Kd.R_below (by (with_reducible repeat (first | apply Kd.R_alloc | apply Kd.R_drewN | apply Kd.R_drew)); exact HO151.out) hb); have n2_ := As0.mk (Kd.R_below (by (with_reducible repeat (first | apply Kd.R_alloc | apply Kd.R_drewN | apply Kd.R_drew)); exact HO156.out) hb); have n3_ := As0.mk (Kd.R_below (by (with_reducible repeat (first | apply Kd.R_alloc | apply Kd.R_drewN | apply Kd.R_drew)); exact HO159.out) hb); have n4_ := As0.mk (blk_below (g := gb145) (o := .cells #[.slice A0_0 l0_0.length c0_0, .slice A0_1 l0_1.length c0_1] 24 (0, 0)) (by (with_reducible repeat (first | refine blk_drewN ?_ _ | refine blk_drew ?_ | refine blk_alloc ?_ _)); exact BK145.out) hb); have n5_ := As0.mk (bst (by repeat (first | (with_reducible first | exact HB.out | apply below_alloc | apply pwd | apply bd1 | refine below_set ?_ GE145.out) | exact HB.out)) hb); clear HO148; clear HO151; clear HO156; clear HO159; clear BK145; clear HB; have HO148 := n0_; have HO151 := n1_; have HO156 := n2_; have HO159 := n3_; have BK145 := n4_; have HB := n5_; clear n0_ n1_ n2_ n3_ n4_ n5_; (try clear hb); (try clear hb2); (try clear hk); (try clear hi)))
 (try simp only [Act.put, List.setIfInBounds_toArray, List.set_cons_zero, List.set_cons_succ])
 go_cut [49] (fun v49 wc => ∃ (kq : Nat) (x49_7 : Bool), v49 = .bool x49_7 ∧ As0 (q8FixesTold.j0 kq a1 a2 t152 t153 t160 t161 x49_7 l0_0 l0_1 = some r) ∧ As0 (kq ≤ k) ∧ As0 (wc.heap[gb145]? = some (.cells #[(.slice A0_0 l0_0.length c0_0), (.slice A0_1 l0_1.length c0_1)] 24 (0, 0))) ∧ As0 (Below w.heap.size w wc))
 case first =>
  have H := HC8.out
  clear HC8
  replace H := Option.bind_eq_some_iff.mp H
  obtain ⟨t162, A200, H⟩ := H
  replace H : (if t162 = true then ((PF.r8State.f l0_0 l0_1 a1).bind fun t163 => (if t163 = true then ((PF.r8State.f l0_0 l0_1 a2).bind fun t164 => (q8FixesTold.j0 k a1 a2 t152 t153 t160 t161 (!t164) l0_0 l0_1)) else (q8FixesTold.j0 k a1 a2 t152 t153 t160 t161 true l0_0 l0_1))) else (q8FixesTold.j0 k a1 a2 t152 t153 t160 t161 true l0_0 l0_1)) = some r := H
  have A20 := As0.mk A200
  clear A200
  by_cases c21 : t162 = true
  ·subst c21
   have H1 : ((PF.r8State.f l0_0 l0_1 a1).bind fun t163 => (if t163 = true then ((PF.r8State.f l0_0 l0_1 a2).bind fun t164 => (q8FixesTold.j0 k a1 a2 t152 t153 t160 t161 (!t164) l0_0 l0_1)) else (q8FixesTold.j0 k a1 a2 t152 t153 t160 t161 true l0_0 l0_1))) = some r := by rw [if_pos rfl] at H; exact H
   clear H
   have H := H1
   clear H1
   replace H := Option.bind_eq_some_iff.mp H
   obtain ⟨t163, A220, H⟩ := H
   replace H : (if t163 = true then ((PF.r8State.f l0_0 l0_1 a2).bind fun t164 => (q8FixesTold.j0 k a1 a2 t152 t153 t160 t161 (!t164) l0_0 l0_1)) else (q8FixesTold.j0 k a1 a2 t152 t153 t160 t161 true l0_0 l0_1)) = some r := H
   have A22 := As0.mk A220
   clear A220
   by_cases c23 : t163 = true
   ·subst c23
    have H1 : ((PF.r8State.f l0_0 l0_1 a2).bind fun t164 => (q8FixesTold.j0 k a1 a2 t152 t153 t160 t161 (!t164) l0_0 l0_1)) = some r := by rw [if_pos rfl] at H; exact H
    clear H
    have H := H1
    clear H1
    replace H := Option.bind_eq_some_iff.mp H
    obtain ⟨t164, A240, H⟩ := H
    replace H : (q8FixesTold.j0 k a1 a2 t152 t153 t160 t161 (!t164) l0_0 l0_1) = some r := H
    have A24 := As0.mk A240
    clear A240
    have H' := As0.mk H
    clear H
    have hcz25_0 : w19.cell? ⟨gb145, 0, none⟩ = some (.slice A0_0 l0_0.length c0_0) := (blk_cell BK145.out 0).trans rfl
    have hcz25_1 : w19.cell? ⟨gb145, 1, none⟩ = some (.slice A0_1 l0_1.length c0_1) := (blk_cell BK145.out 1).trans rfl
    have hfz25_0 := blk_frozen BK145.out 0
    have hfz25_1 := blk_frozen BK145.out 1
    go_wp2_with (first | ((with_reducible refine gate_callee (f := 21) rfl ?_); refine goesL_ (some 36) rfl rfl Try.func21 (by kernel_rfl) rfl #[.agg #[.slice A0_0 l0_0.length c0_0, .slice A0_1 l0_1.length c0_1]] rfl (by (try simp only [sm]); first | done | rfl | (simp only [List.length_drop, List.length_take]; rfl)) ?_; (with_reducible refine (PB.r8Valid.calls k _ _ l0_0 _ _ l0_1 true _ ?side1 ?side2 ?side3 ?side4 A20.out).mono ?_); (case side1 => repeat (first | exact (Kd.C_below HR0_0.out HB.out) | (with_reducible refine Kd.C_alloc ?_ _) | (with_reducible refine Kd.C_drewN ?_ _) | (with_reducible refine Kd.C_drew ?_))); (case side2 => exact HC0_0.out); (case side3 => repeat (first | exact (Kd.C_below HR0_1.out HB.out) | (with_reducible refine Kd.C_alloc ?_ _) | (with_reducible refine Kd.C_drewN ?_ _) | (with_reducible refine Kd.C_drew ?_))); (case side4 => exact HC0_1.out); rintro e w26 ⟨rfl, hb⟩; refine ⟨_, rfl, ?_⟩; have n0_ := As0.mk (Kd.R_below (by (with_reducible repeat (first | apply Kd.R_alloc | apply Kd.R_drewN | apply Kd.R_drew)); exact HO148.out) hb); have n1_ := As0.mk (Kd.R_below (by (with_reducible repeat (first | apply Kd.R_alloc | apply Kd.R_drewN | apply Kd.R_drew)); exact HO151.out) hb); have n2_ := As0.mk (Kd.R_below (by (with_reducible repeat (first | apply Kd.R_alloc | apply Kd.R_drewN | apply Kd.R_drew)); exact HO156.out) hb); have n3_ := As0.mk (Kd.R_below (by (with_reducible repeat (first | apply Kd.R_alloc | apply Kd.R_drewN | apply Kd.R_drew)); exact HO159.out) hb); have n4_ := As0.mk (blk_below (g := gb145) (o := .cells #[.slice A0_0 l0_0.length c0_0, .slice A0_1 l0_1.length c0_1] 24 (0, 0)) (by (with_reducible repeat (first | refine blk_drewN ?_ _ | refine blk_drew ?_ | refine blk_alloc ?_ _)); exact BK145.out) hb); have n5_ := As0.mk (bst (by repeat (first | (with_reducible first | exact HB.out | apply below_alloc | apply pwd | apply bd1 | refine below_set ?_ GE145.out) | exact HB.out)) hb); clear HO148; clear HO151; clear HO156; clear HO159; clear BK145; clear HB; have HO148 := n0_; have HO151 := n1_; have HO156 := n2_; have HO159 := n3_; have BK145 := n4_; have HB := n5_; clear n0_ n1_ n2_ n3_ n4_ n5_; (try clear hb); (try clear hb2); (try clear hk); (try clear hi); have hcz27_0 : w26.cell? ⟨gb145, 0, none⟩ = some (.slice A0_0 l0_0.length c0_0) := (blk_cell BK145.out 0).trans rfl; have hcz27_1 : w26.cell? ⟨gb145, 1, none⟩ = some (.slice A0_1 l0_1.length c0_1) := (blk_cell BK145.out 1).trans rfl; have hfz27_0 := blk_frozen BK145.out 0; have hfz27_1 := blk_frozen BK145.out 1) | (go_at_call 40; (with_reducible refine (PF.r8State.calls _ _ l0_0 _ _ l0_1 a1 true _ ?side1 ?side2 ?side3 ?side4 A22.out).mono ?_); (case side1 => repeat (first | exact (Kd.C_below HR0_0.out HB.out) | (with_reducible refine Kd.C_alloc ?_ _) | (with_reducible refine Kd.C_drewN ?_ _) | (with_reducible refine Kd.C_drew ?_))); (case side2 => exact HC0_0.out); (case side3 => repeat (first | exact (Kd.C_below HR0_1.out HB.out) | (with_reducible refine Kd.C_alloc ?_ _) | (with_reducible refine Kd.C_drewN ?_ _) | (with_reducible refine Kd.C_drew ?_))); (case side4 => exact HC0_1.out); rintro e w28 ⟨rfl, hb⟩; have n0_ := As0.mk (Kd.R_below (by (with_reducible repeat (first | apply Kd.R_alloc | apply Kd.R_drewN | apply Kd.R_drew)); exact HO148.out) hb); have n1_ := As0.mk (Kd.R_below (by (with_reducible repeat (first | apply Kd.R_alloc | apply Kd.R_drewN | apply Kd.R_drew)); exact HO151.out) hb); have n2_ := As0.mk (Kd.R_below (by (with_reducible repeat (first | apply Kd.R_alloc | apply Kd.R_drewN | apply Kd.R_drew)); exact HO156.out) hb); have n3_ := As0.mk (Kd.R_below (by (with_reducible repeat (first | apply Kd.R_alloc | apply Kd.R_drewN | apply Kd.R_drew)); exact HO159.out) hb); have n4_ := As0.mk (blk_below (g := gb145) (o := .cells #[.slice A0_0 l0_0.length c0_0, .slice A0_1 l0_1.length c0_1] 24 (0, 0)) (by (with_reducible repeat (first | refine blk_drewN ?_ _ | refine blk_drew ?_ | refine blk_alloc ?_ _)); exact BK145.out) hb); have n5_ := As0.mk (bst (by repeat (first | (with_reducible first | exact HB.out | apply below_alloc | apply pwd | apply bd1 | refine below_set ?_ GE145.out) | exact HB.out)) hb); clear HO148; clear HO151; clear HO156; clear HO159; clear BK145; clear HB; have HO148 := n0_; have HO151 := n1_; have HO156 := n2_; have HO159 := n3_; have BK145 := n4_; have HB := n5_; clear n0_ n1_ n2_ n3_ n4_ n5_; (try clear hb); (try clear hb2); (try clear hk); (try clear hi); have hcz29_0 : w28.cell? ⟨gb145, 0, none⟩ = some (.slice A0_0 l0_0.length c0_0) := (blk_cell BK145.out 0).trans rfl; have hcz29_1 : w28.cell? ⟨gb145, 1, none⟩ = some (.slice A0_1 l0_1.length c0_1) := (blk_cell BK145.out 1).trans rfl; have hfz29_0 := blk_frozen BK145.out 0; have hfz29_1 := blk_frozen BK145.out 1) | (go_at_call 40; (with_reducible refine (PF.r8State.calls _ _ l0_0 _ _ l0_1 a2 t164 _ ?side1 ?side2 ?side3 ?side4 A24.out).mono ?_); (case side1 => repeat (first | exact (Kd.C_below HR0_0.out HB.out) | (with_reducible refine Kd.C_alloc ?_ _) | (with_reducible refine Kd.C_drewN ?_ _) | (with_reducible refine Kd.C_drew ?_))); (case side2 => exact HC0_0.out); (case side3 => repeat (first | exact (Kd.C_below HR0_1.out HB.out) | (with_reducible refine Kd.C_alloc ?_ _) | (with_reducible refine Kd.C_drewN ?_ _) | (with_reducible refine Kd.C_drew ?_))); (case side4 => exact HC0_1.out); rintro e w30 ⟨rfl, hb⟩; have n0_ := As0.mk (Kd.R_below (by (with_reducible repeat (first | apply Kd.R_alloc | apply Kd.R_drewN | apply Kd.R_drew)); exact HO148.out) hb); have n1_ := As0.mk (Kd.R_below (by (with_reducible repeat (first | apply Kd.R_alloc | apply Kd.R_drewN | apply Kd.R_drew)); exact HO151.out) hb); have n2_ := As0.mk (Kd.R_below (by (with_reducible repeat (first | apply Kd.R_alloc | apply Kd.R_drewN | apply Kd.R_drew)); exact HO156.out) hb); have n3_ := As0.mk (Kd.R_below (by (with_reducible repeat (first | apply Kd.R_alloc | apply Kd.R_drewN | apply Kd.R_drew)); exact HO159.out) hb); have n4_ := As0.mk (blk_below (g := gb145) (o := .cells #[.slice A0_0 l0_0.length c0_0, .slice A0_1 l0_1.length c0_1] 24 (0, 0)) (by (with_reducible repeat (first | refine blk_drewN ?_ _ | refine blk_drew ?_ | refine blk_alloc ?_ _)); exact BK145.out) hb); have n5_ := As0.mk (bst (by repeat (first | (with_reducible first | exact HB.out | apply below_alloc | apply pwd | apply bd1 | refine below_set ?_ GE145.out) | exact HB.out)) hb); clear HO148; clear HO151; clear HO156; clear HO159; clear BK145; clear HB; have HO148 := n0_; have HO151 := n1_; have HO156 := n2_; have HO159 := n3_; have BK145 := n4_; have HB := n5_; clear n0_ n1_ n2_ n3_ n4_ n5_; (try clear hb); (try clear hb2); (try clear hk); (try clear hi)))
    go_meet
    case rel => exact ⟨_, (!t164), (by first | rfl | (simp; done) | (simp [*]; done)), H', ⟨by first | omega | exact Nat.le_refl _⟩, ⟨by (with_reducible repeat (first | refine blk_drewN ?_ _ | refine blk_drew ?_ | refine blk_alloc ?_ _)); exact BK145.out⟩, ⟨by repeat (first | (with_reducible first | exact HB.out | apply below_alloc | apply pwd | apply bd1 | refine below_set ?_ GE145.out) | exact HB.out)⟩⟩
   ·replace c23 := Bool.eq_false_iff.mpr c23
    subst c23
    have H1 : (q8FixesTold.j0 k a1 a2 t152 t153 t160 t161 true l0_0 l0_1) = some r := by rw [if_neg (show ¬ (false = true) by decide)] at H; exact H
    clear H
    have H := H1
    clear H1
    have H' := As0.mk H
    clear H
    have hcz31_0 : w19.cell? ⟨gb145, 0, none⟩ = some (.slice A0_0 l0_0.length c0_0) := (blk_cell BK145.out 0).trans rfl
    have hcz31_1 : w19.cell? ⟨gb145, 1, none⟩ = some (.slice A0_1 l0_1.length c0_1) := (blk_cell BK145.out 1).trans rfl
    have hfz31_0 := blk_frozen BK145.out 0
    have hfz31_1 := blk_frozen BK145.out 1
    go_wp2_with (first | ((with_reducible refine gate_callee (f := 21) rfl ?_); refine goesL_ (some 36) rfl rfl Try.func21 (by kernel_rfl) rfl #[.agg #[.slice A0_0 l0_0.length c0_0, .slice A0_1 l0_1.length c0_1]] rfl (by (try simp only [sm]); first | done | rfl | (simp only [List.length_drop, List.length_take]; rfl)) ?_; (with_reducible refine (PB.r8Valid.calls k _ _ l0_0 _ _ l0_1 true _ ?side1 ?side2 ?side3 ?side4 A20.out).mono ?_); (case side1 => repeat (first | exact (Kd.C_below HR0_0.out HB.out) | (with_reducible refine Kd.C_alloc ?_ _) | (with_reducible refine Kd.C_drewN ?_ _) | (with_reducible refine Kd.C_drew ?_))); (case side2 => exact HC0_0.out); (case side3 => repeat (first | exact (Kd.C_below HR0_1.out HB.out) | (with_reducible refine Kd.C_alloc ?_ _) | (with_reducible refine Kd.C_drewN ?_ _) | (with_reducible refine Kd.C_drew ?_))); (case side4 => exact HC0_1.out); rintro e w32 ⟨rfl, hb⟩; refine ⟨_, rfl, ?_⟩; have n0_ := As0.mk (Kd.R_below (by (with_reducible repeat (first | apply Kd.R_alloc | apply Kd.R_drewN | apply Kd.R_drew)); exact HO148.out) hb); have n1_ := As0.mk (Kd.R_below (by (with_reducible repeat (first | apply Kd.R_alloc | apply Kd.R_drewN | apply Kd.R_drew)); exact HO151.out) hb); have n2_ := As0.mk (Kd.R_below (by (with_reducible repeat (first | apply Kd.R_alloc | apply Kd.R_drewN | apply Kd.R_drew)); exact HO156.out) hb); have n3_ := As0.mk (Kd.R_below (by (with_reducible repeat (first | apply Kd.R_alloc | apply Kd.R_drewN | apply Kd.R_drew)); exact HO159.out) hb); have n4_ := As0.mk (blk_below (g := gb145) (o := .cells #[.slice A0_0 l0_0.length c0_0, .slice A0_1 l0_1.length c0_1] 24 (0, 0)) (by (with_reducible repeat (first | refine blk_drewN ?_ _ | refine blk_drew ?_ | refine blk_alloc ?_ _)); exact BK145.out) hb); have n5_ := As0.mk (bst (by repeat (first | (with_reducible first | exact HB.out | apply below_alloc | apply pwd | apply bd1 | refine below_set ?_ GE145.out) | exact HB.out)) hb); clear HO148; clear HO151; clear HO156; clear HO159; clear BK145; clear HB; have HO148 := n0_; have HO151 := n1_; have HO156 := n2_; have HO159 := n3_; have BK145 := n4_; have HB := n5_; clear n0_ n1_ n2_ n3_ n4_ n5_; (try clear hb); (try clear hb2); (try clear hk); (try clear hi); have hcz33_0 : w32.cell? ⟨gb145, 0, none⟩ = some (.slice A0_0 l0_0.length c0_0) := (blk_cell BK145.out 0).trans rfl; have hcz33_1 : w32.cell? ⟨gb145, 1, none⟩ = some (.slice A0_1 l0_1.length c0_1) := (blk_cell BK145.out 1).trans rfl; have hfz33_0 := blk_frozen BK145.out 0; have hfz33_1 := blk_frozen BK145.out 1) | (go_at_call 40; (with_reducible refine (PF.r8State.calls _ _ l0_0 _ _ l0_1 a1 false _ ?side1 ?side2 ?side3 ?side4 A22.out).mono ?_); (case side1 => repeat (first | exact (Kd.C_below HR0_0.out HB.out) | (with_reducible refine Kd.C_alloc ?_ _) | (with_reducible refine Kd.C_drewN ?_ _) | (with_reducible refine Kd.C_drew ?_))); (case side2 => exact HC0_0.out); (case side3 => repeat (first | exact (Kd.C_below HR0_1.out HB.out) | (with_reducible refine Kd.C_alloc ?_ _) | (with_reducible refine Kd.C_drewN ?_ _) | (with_reducible refine Kd.C_drew ?_))); (case side4 => exact HC0_1.out); rintro e w34 ⟨rfl, hb⟩; have n0_ := As0.mk (Kd.R_below (by (with_reducible repeat (first | apply Kd.R_alloc | apply Kd.R_drewN | apply Kd.R_drew)); exact HO148.out) hb); have n1_ := As0.mk (Kd.R_below (by (with_reducible repeat (first | apply Kd.R_alloc | apply Kd.R_drewN | apply Kd.R_drew)); exact HO151.out) hb); have n2_ := As0.mk (Kd.R_below (by (with_reducible repeat (first | apply Kd.R_alloc | apply Kd.R_drewN | apply Kd.R_drew)); exact HO156.out) hb); have n3_ := As0.mk (Kd.R_below (by (with_reducible repeat (first | apply Kd.R_alloc | apply Kd.R_drewN | apply Kd.R_drew)); exact HO159.out) hb); have n4_ := As0.mk (blk_below (g := gb145) (o := .cells #[.slice A0_0 l0_0.length c0_0, .slice A0_1 l0_1.length c0_1] 24 (0, 0)) (by (with_reducible repeat (first | refine blk_drewN ?_ _ | refine blk_drew ?_ | refine blk_alloc ?_ _)); exact BK145.out) hb); have n5_ := As0.mk (bst (by repeat (first | (with_reducible first | exact HB.out | apply below_alloc | apply pwd | apply bd1 | refine below_set ?_ GE145.out) | exact HB.out)) hb); clear HO148; clear HO151; clear HO156; clear HO159; clear BK145; clear HB; have HO148 := n0_; have HO151 := n1_; have HO156 := n2_; have HO159 := n3_; have BK145 := n4_; have HB := n5_; clear n0_ n1_ n2_ n3_ n4_ n5_; (try clear hb); (try clear hb2); (try clear hk); (try clear hi)))
    go_meet
    case rel => exact ⟨_, (true), (by first | rfl | (simp; done) | (simp [*]; done)), H', ⟨by first | omega | exact Nat.le_refl _⟩, ⟨by (with_reducible repeat (first | refine blk_drewN ?_ _ | refine blk_drew ?_ | refine blk_alloc ?_ _)); exact BK145.out⟩, ⟨by repeat (first | (with_reducible first | exact HB.out | apply below_alloc | apply pwd | apply bd1 | refine below_set ?_ GE145.out) | exact HB.out)⟩⟩
  ·replace c21 := Bool.eq_false_iff.mpr c21
   subst c21
   have H1 : (q8FixesTold.j0 k a1 a2 t152 t153 t160 t161 true l0_0 l0_1) = some r := by rw [if_neg (show ¬ (false = true) by decide)] at H; exact H
   clear H
   have H := H1
   clear H1
   have H' := As0.mk H
   clear H
   have hcz35_0 : w19.cell? ⟨gb145, 0, none⟩ = some (.slice A0_0 l0_0.length c0_0) := (blk_cell BK145.out 0).trans rfl
   have hcz35_1 : w19.cell? ⟨gb145, 1, none⟩ = some (.slice A0_1 l0_1.length c0_1) := (blk_cell BK145.out 1).trans rfl
   have hfz35_0 := blk_frozen BK145.out 0
   have hfz35_1 := blk_frozen BK145.out 1
   go_wp2_with (first | ((with_reducible refine gate_callee (f := 21) rfl ?_); refine goesL_ (some 36) rfl rfl Try.func21 (by kernel_rfl) rfl #[.agg #[.slice A0_0 l0_0.length c0_0, .slice A0_1 l0_1.length c0_1]] rfl (by (try simp only [sm]); first | done | rfl | (simp only [List.length_drop, List.length_take]; rfl)) ?_; (with_reducible refine (PB.r8Valid.calls k _ _ l0_0 _ _ l0_1 false _ ?side1 ?side2 ?side3 ?side4 A20.out).mono ?_); (case side1 => repeat (first | exact (Kd.C_below HR0_0.out HB.out) | (with_reducible refine Kd.C_alloc ?_ _) | (with_reducible refine Kd.C_drewN ?_ _) | (with_reducible refine Kd.C_drew ?_))); (case side2 => exact HC0_0.out); (case side3 => repeat (first | exact (Kd.C_below HR0_1.out HB.out) | (with_reducible refine Kd.C_alloc ?_ _) | (with_reducible refine Kd.C_drewN ?_ _) | (with_reducible refine Kd.C_drew ?_))); (case side4 => exact HC0_1.out); rintro e w36 ⟨rfl, hb⟩; refine ⟨_, rfl, ?_⟩; have n0_ := As0.mk (Kd.R_below (by (with_reducible repeat (first | apply Kd.R_alloc | apply Kd.R_drewN | apply Kd.R_drew)); exact HO148.out) hb); have n1_ := As0.mk (Kd.R_below (by (with_reducible repeat (first | apply Kd.R_alloc | apply Kd.R_drewN | apply Kd.R_drew)); exact HO151.out) hb); have n2_ := As0.mk (Kd.R_below (by (with_reducible repeat (first | apply Kd.R_alloc | apply Kd.R_drewN | apply Kd.R_drew)); exact HO156.out) hb); have n3_ := As0.mk (Kd.R_below (by (with_reducible repeat (first | apply Kd.R_alloc | apply Kd.R_drewN | apply Kd.R_drew)); exact HO159.out) hb); have n4_ := As0.mk (blk_below (g := gb145) (o := .cells #[.slice A0_0 l0_0.length c0_0, .slice A0_1 l0_1.length c0_1] 24 (0, 0)) (by (with_reducible repeat (first | refine blk_drewN ?_ _ | refine blk_drew ?_ | refine blk_alloc ?_ _)); exact BK145.out) hb); have n5_ := As0.mk (bst (by repeat (first | (with_reducible first | exact HB.out | apply below_alloc | apply pwd | apply bd1 | refine below_set ?_ GE145.out) | exact HB.out)) hb); clear HO148; clear HO151; clear HO156; clear HO159; clear BK145; clear HB; have HO148 := n0_; have HO151 := n1_; have HO156 := n2_; have HO159 := n3_; have BK145 := n4_; have HB := n5_; clear n0_ n1_ n2_ n3_ n4_ n5_; (try clear hb); (try clear hb2); (try clear hk); (try clear hi)))
   go_meet
   case rel => exact ⟨_, (true), (by first | rfl | (simp; done) | (simp [*]; done)), H', ⟨by first | omega | exact Nat.le_refl _⟩, ⟨by (with_reducible repeat (first | refine blk_drewN ?_ _ | refine blk_drew ?_ | refine blk_alloc ?_ _)); exact BK145.out⟩, ⟨by repeat (first | (with_reducible first | exact HB.out | apply below_alloc | apply pwd | apply bd1 | refine below_set ?_ GE145.out) | exact HB.out)⟩⟩
 case rest =>
  clear HC8
  try clear c1
  try clear c2
  try clear p2
  try clear c4
  try clear c15
  try clear c17
  try clear c21
  try clear c23
  try clear hcz10_0
  try clear hcz10_1
  try clear hcz15_0
  try clear hcz15_1
  try clear hcz25_0
  try clear hcz25_1
  try clear hcz27_0
  try clear hcz27_1
  try clear hcz29_0
  try clear hcz29_1
  try clear hcz31_0
  try clear hcz31_1
  try clear hcz33_0
  try clear hcz33_1
  try clear hcz35_0
  try clear hcz35_1
  try clear hfz10_0
  try clear hfz10_1
  try clear hfz15_0
  try clear hfz15_1
  try clear hfz25_0
  try clear hfz25_1
  try clear hfz27_0
  try clear hfz27_1
  try clear hfz29_0
  try clear hfz29_1
  try clear hfz31_0
  try clear hfz31_1
  try clear hfz33_0
  try clear hfz33_1
  try clear hfz35_0
  try clear hfz35_1
  obtain ⟨kq, x49_7, rfl, HA, HJ7, BK145, HB⟩ := hcut
  cases kq with
  | zero => exact absurd HA.out (by simp [q8FixesTold.j0])
  | succ kj7 =>
   have H := HA.out
   clear HA
   simp only [q8FixesTold.j0] at H
   by_cases c37 : x49_7 = true
   ·subst c37
    have H1 : (if t153 = 2 then (if t161 = 2 then ((PB.q8awake.f kj7).bind fun t165 => (some t165)) else (some false)) else (some false)) = some r := by rw [if_pos rfl] at H; exact H
    clear H
    have H := H1
    clear H1
    by_cases c38 : t153 = 2
    ·rw [if_pos c38] at H
     have c38b0 : (t153 == 2) = true := beq_iff_eq.mpr c38
     have c38b1 : (t153 != 2) = false := bne_eq_false_iff_eq.mpr c38
     clear c38
     by_cases c39 : t161 = 2
     ·rw [if_pos c39] at H
      have c39b0 : (t161 == 2) = true := beq_iff_eq.mpr c39
      have c39b1 : (t161 != 2) = false := bne_eq_false_iff_eq.mpr c39
      clear c39
      replace H := Option.bind_eq_some_iff.mp H
      obtain ⟨t165, A400, H⟩ := H
      replace H : (some t165) = some r := H
      have A40 := As0.mk A400
      clear A400
      obtain rfl := Option.some.inj H
      go_wp2_with (first | (go_at_call 22; (with_reducible refine (PB.q8awake.calls kj7  t165 _ A40.out).mono ?_); rintro e w41 ⟨rfl, hb⟩; have n0_ := As0.mk (blk_below (g := gb145) (o := .cells #[.slice A0_0 l0_0.length c0_0, .slice A0_1 l0_1.length c0_1] 24 (0, 0)) (by (with_reducible repeat (first | refine blk_drewN ?_ _ | refine blk_drew ?_ | refine blk_alloc ?_ _)); exact BK145.out) hb); have n1_ := As0.mk (bst (by repeat (first | (with_reducible first | exact HB.out | apply below_alloc | apply pwd | apply bd1 | refine below_set ?_ GE145.out) | exact HB.out)) hb); clear BK145; clear HB; have BK145 := n0_; have HB := n1_; clear n0_ n1_; (try clear hb); (try clear hb2); (try clear hk); (try clear hi)))
      go_ret
      exact ⟨by first | rfl | (simp [errW_none, errW_some] <;> rfl) | (simp [*, errW_none, errW_some] <;> rfl), by repeat (first | (with_reducible first | exact HB.out | apply below_alloc | apply pwd | apply bd1 | refine below_set ?_ GE145.out) | exact HB.out)⟩
     ·rw [if_neg c39] at H
      exact absurd (Option.some.inj H) (by rw [ht]; decide)
    ·rw [if_neg c38] at H
     exact absurd (Option.some.inj H) (by rw [ht]; decide)
   ·replace c37 := Bool.eq_false_iff.mpr c37
    subst c37
    have H1 : ((PA.q8Of.f l0_0 l0_1).bind fun bt166 => ((PF.fixes_Alike.f kj7 bt166.1 bt166.2 a1 a2).bind fun bt172 => (if bt172.2 = 0 then (if bt172.1 = true then (if t153 = 4 then (if t161 = 4 then ((PB.q8awake.f kj7).bind fun t174 => (some t174)) else (some false)) else (some false)) else ((PA.q8Of.f l0_0 l0_1).bind fun bt175 => ((X.fixes_CheckTell.f kj7 bt175.1 bt175.2 a1 a2 t152).bind fun bt181 => ((PA.q8Of.f l0_0 l0_1).bind fun bt184 => ((X.fixes_CheckTell.f kj7 bt184.1 bt184.2 a2 a1 t160).bind fun bt190 => (if t153 = 0 then (if t161 = 0 then (if bt181.2.2 = 0 then (if bt190.2.2 = 0 then (if bt181.2.1 = true then (if bt190.2.1 = true then (if bt181.1 = bt190.1 then (if bt181.1 ≥ 0 then (if bt181.1 ≤ 5 then ((PB.q8awake.f kj7).bind fun t193 => (some t193)) else (some false)) else (some false)) else (some false)) else (some false)) else (some false)) else (some false)) else (some false)) else (some false)) else (some false))))))) else (some false)))) = some r := by rw [if_neg (show ¬ (false = true) by decide)] at H; exact H
    clear H
    have H := H1
    clear H1
    replace H := Option.bind_eq_some_iff.mp H
    obtain ⟨⟨t166, t169⟩, A420, H⟩ := H
    replace H : ((PF.fixes_Alike.f kj7 t166 t169 a1 a2).bind fun bt172 => (if bt172.2 = 0 then (if bt172.1 = true then (if t153 = 4 then (if t161 = 4 then ((PB.q8awake.f kj7).bind fun t174 => (some t174)) else (some false)) else (some false)) else ((PA.q8Of.f l0_0 l0_1).bind fun bt175 => ((X.fixes_CheckTell.f kj7 bt175.1 bt175.2 a1 a2 t152).bind fun bt181 => ((PA.q8Of.f l0_0 l0_1).bind fun bt184 => ((X.fixes_CheckTell.f kj7 bt184.1 bt184.2 a2 a1 t160).bind fun bt190 => (if t153 = 0 then (if t161 = 0 then (if bt181.2.2 = 0 then (if bt190.2.2 = 0 then (if bt181.2.1 = true then (if bt190.2.1 = true then (if bt181.1 = bt190.1 then (if bt181.1 ≥ 0 then (if bt181.1 ≤ 5 then ((PB.q8awake.f kj7).bind fun t193 => (some t193)) else (some false)) else (some false)) else (some false)) else (some false)) else (some false)) else (some false)) else (some false)) else (some false)) else (some false))))))) else (some false))) = some r := H
    have A42 := As0.mk A420
    clear A420
    replace H := Option.bind_eq_some_iff.mp H
    obtain ⟨⟨t172, t173⟩, A430, H⟩ := H
    replace H : (if t173 = 0 then (if t172 = true then (if t153 = 4 then (if t161 = 4 then ((PB.q8awake.f kj7).bind fun t174 => (some t174)) else (some false)) else (some false)) else ((PA.q8Of.f l0_0 l0_1).bind fun bt175 => ((X.fixes_CheckTell.f kj7 bt175.1 bt175.2 a1 a2 t152).bind fun bt181 => ((PA.q8Of.f l0_0 l0_1).bind fun bt184 => ((X.fixes_CheckTell.f kj7 bt184.1 bt184.2 a2 a1 t160).bind fun bt190 => (if t153 = 0 then (if t161 = 0 then (if bt181.2.2 = 0 then (if bt190.2.2 = 0 then (if bt181.2.1 = true then (if bt190.2.1 = true then (if bt181.1 = bt190.1 then (if bt181.1 ≥ 0 then (if bt181.1 ≤ 5 then ((PB.q8awake.f kj7).bind fun t193 => (some t193)) else (some false)) else (some false)) else (some false)) else (some false)) else (some false)) else (some false)) else (some false)) else (some false)) else (some false))))))) else (some false)) = some r := H
    have A43 := As0.mk A430
    clear A430
    by_cases c44 : t173 = 0
    ·rw [if_pos c44] at H
     have c44b0 : (t173 == 0) = true := beq_iff_eq.mpr c44
     have c44b1 : (t173 != 0) = false := bne_eq_false_iff_eq.mpr c44
     clear c44
     by_cases c45 : t172 = true
     ·subst c45
      have H1 : (if t153 = 4 then (if t161 = 4 then ((PB.q8awake.f kj7).bind fun t174 => (some t174)) else (some false)) else (some false)) = some r := by rw [if_pos rfl] at H; exact H
      clear H
      have H := H1
      clear H1
      by_cases c46 : t153 = 4
      ·rw [if_pos c46] at H
       have c46b0 : (t153 == 4) = true := beq_iff_eq.mpr c46
       have c46b1 : (t153 != 4) = false := bne_eq_false_iff_eq.mpr c46
       clear c46
       by_cases c47 : t161 = 4
       ·rw [if_pos c47] at H
        have c47b0 : (t161 == 4) = true := beq_iff_eq.mpr c47
        have c47b1 : (t161 != 4) = false := bne_eq_false_iff_eq.mpr c47
        clear c47
        replace H := Option.bind_eq_some_iff.mp H
        obtain ⟨t174, A480, H⟩ := H
        replace H : (some t174) = some r := H
        have A48 := As0.mk A480
        clear A480
        obtain rfl := Option.some.inj H
        have hcz49_0 : wc.cell? ⟨gb145, 0, none⟩ = some (.slice A0_0 l0_0.length c0_0) := (blk_cell BK145.out 0).trans rfl
        have hcz49_1 : wc.cell? ⟨gb145, 1, none⟩ = some (.slice A0_1 l0_1.length c0_1) := (blk_cell BK145.out 1).trans rfl
        have hfz49_0 := blk_frozen BK145.out 0
        have hfz49_1 := blk_frozen BK145.out 1
        go_wp2_with (first | ((with_reducible refine gate_callee (f := 17) rfl ?_); refine goesL_ (some 61) rfl rfl Try.func17 (by kernel_rfl) rfl #[.agg #[.slice A0_0 l0_0.length c0_0, .slice A0_1 l0_1.length c0_1]] rfl (by (try simp only [sm]); first | done | rfl | (simp only [List.length_drop, List.length_take]; rfl)) ?_; (with_reducible refine (PA.q8Of.calls _ _ l0_0 _ _ l0_1 t166 t169 _ ?side1 ?side2 ?side3 ?side4 A42.out).mono ?_); (case side1 => repeat (first | exact (Kd.C_below HR0_0.out HB.out) | (with_reducible refine Kd.C_alloc ?_ _) | (with_reducible refine Kd.C_drewN ?_ _) | (with_reducible refine Kd.C_drew ?_))); (case side2 => exact HC0_0.out); (case side3 => repeat (first | exact (Kd.C_below HR0_1.out HB.out) | (with_reducible refine Kd.C_alloc ?_ _) | (with_reducible refine Kd.C_drewN ?_ _) | (with_reducible refine Kd.C_drew ?_))); (case side4 => exact HC0_1.out); rintro e w50 ⟨v167, v170, rfl, ho0, ho1, hb⟩; refine ⟨_, rfl, ?_⟩; have n0_ := As0.mk (Kd.R_lower ho0 (below_size (by repeat (first | (with_reducible first | exact HB.out | apply below_alloc | apply pwd | apply bd1 | refine below_set ?_ GE145.out) | exact HB.out)))); have n1_ := As0.mk (Kd.R_lower ho1 (below_size (by repeat (first | (with_reducible first | exact HB.out | apply below_alloc | apply pwd | apply bd1 | refine below_set ?_ GE145.out) | exact HB.out)))); have n2_ := As0.mk (blk_below (g := gb145) (o := .cells #[.slice A0_0 l0_0.length c0_0, .slice A0_1 l0_1.length c0_1] 24 (0, 0)) (by (with_reducible repeat (first | refine blk_drewN ?_ _ | refine blk_drew ?_ | refine blk_alloc ?_ _)); exact BK145.out) hb); have n3_ := As0.mk (bst (by repeat (first | (with_reducible first | exact HB.out | apply below_alloc | apply pwd | apply bd1 | refine below_set ?_ GE145.out) | exact HB.out)) hb); clear BK145; clear HB; have HO168 := n0_; have HO171 := n1_; have BK145 := n2_; have HB := n3_; clear n0_ n1_ n2_ n3_; (try clear hb); (try clear hb2); (try clear hk); (try clear hi); (try clear ho0); (try clear ho1); obtain ⟨Ao51, co51, eo51⟩ := Kd.R_slice HO168.out; subst eo51; obtain ⟨Ao52, co52, eo52⟩ := Kd.R_slice HO171.out; subst eo52) | ((with_reducible refine gate_callee (f := 38) rfl ?_); refine goesL_ (some 64) rfl rfl Try.func38 (by kernel_rfl) rfl #[.agg #[.slice Ao51 t166.length co51, .slice Ao52 t169.length co52], .int .i64 a1, .int .i64 a2] rfl (by (try simp only [sm]); first | done | rfl | (simp only [List.length_drop, List.length_take]; rfl)) ?_; (with_reducible refine (PF.fixes_Alike.calls kj7 _ _ t166 _ _ t169 a1 a2 true t173 _ ?side1 ?side2 ?side3 ?side4 A43.out).mono ?_); (case side1 => repeat (first | exact (Kd.R_reads' HO168.out).2.2 | (with_reducible refine Kd.C_alloc ?_ _) | (with_reducible refine Kd.C_drewN ?_ _) | (with_reducible refine Kd.C_drew ?_))); (case side2 => exact (Kd.R_reads' HO168.out).2.1); (case side3 => repeat (first | exact (Kd.R_reads' HO171.out).2.2 | (with_reducible refine Kd.C_alloc ?_ _) | (with_reducible refine Kd.C_drewN ?_ _) | (with_reducible refine Kd.C_drew ?_))); (case side4 => exact (Kd.R_reads' HO171.out).2.1); rintro e w53 ⟨rfl, hb⟩; refine ⟨_, rfl, ?_⟩; have n0_ := As0.mk (Kd.R_below (by (with_reducible repeat (first | apply Kd.R_alloc | apply Kd.R_drewN | apply Kd.R_drew)); exact HO168.out) hb); have n1_ := As0.mk (Kd.R_below (by (with_reducible repeat (first | apply Kd.R_alloc | apply Kd.R_drewN | apply Kd.R_drew)); exact HO171.out) hb); have n2_ := As0.mk (blk_below (g := gb145) (o := .cells #[.slice A0_0 l0_0.length c0_0, .slice A0_1 l0_1.length c0_1] 24 (0, 0)) (by (with_reducible repeat (first | refine blk_drewN ?_ _ | refine blk_drew ?_ | refine blk_alloc ?_ _)); exact BK145.out) hb); have n3_ := As0.mk (bst (by repeat (first | (with_reducible first | exact HB.out | apply below_alloc | apply pwd | apply bd1 | refine below_set ?_ GE145.out) | exact HB.out)) hb); clear HO168; clear HO171; clear BK145; clear HB; have HO168 := n0_; have HO171 := n1_; have BK145 := n2_; have HB := n3_; clear n0_ n1_ n2_ n3_; (try clear hb); (try clear hb2); (try clear hk); (try clear hi)) | (go_at_call 22; (with_reducible refine (PB.q8awake.calls kj7  t174 _ A48.out).mono ?_); rintro e w54 ⟨rfl, hb⟩; have n0_ := As0.mk (Kd.R_below (by (with_reducible repeat (first | apply Kd.R_alloc | apply Kd.R_drewN | apply Kd.R_drew)); exact HO168.out) hb); have n1_ := As0.mk (Kd.R_below (by (with_reducible repeat (first | apply Kd.R_alloc | apply Kd.R_drewN | apply Kd.R_drew)); exact HO171.out) hb); have n2_ := As0.mk (blk_below (g := gb145) (o := .cells #[.slice A0_0 l0_0.length c0_0, .slice A0_1 l0_1.length c0_1] 24 (0, 0)) (by (with_reducible repeat (first | refine blk_drewN ?_ _ | refine blk_drew ?_ | refine blk_alloc ?_ _)); exact BK145.out) hb); have n3_ := As0.mk (bst (by repeat (first | (with_reducible first | exact HB.out | apply below_alloc | apply pwd | apply bd1 | refine below_set ?_ GE145.out) | exact HB.out)) hb); clear HO168; clear HO171; clear BK145; clear HB; have HO168 := n0_; have HO171 := n1_; have BK145 := n2_; have HB := n3_; clear n0_ n1_ n2_ n3_; (try clear hb); (try clear hb2); (try clear hk); (try clear hi)))
        go_ret
        exact ⟨by first | rfl | (simp [errW_none, errW_some] <;> rfl) | (simp [*, errW_none, errW_some] <;> rfl), by repeat (first | (with_reducible first | exact HB.out | apply below_alloc | apply pwd | apply bd1 | refine below_set ?_ GE145.out) | exact HB.out)⟩
       ·rw [if_neg c47] at H
        exact absurd (Option.some.inj H) (by rw [ht]; decide)
      ·rw [if_neg c46] at H
       exact absurd (Option.some.inj H) (by rw [ht]; decide)
     ·replace c45 := Bool.eq_false_iff.mpr c45
      subst c45
      have H1 : ((PA.q8Of.f l0_0 l0_1).bind fun bt175 => ((X.fixes_CheckTell.f kj7 bt175.1 bt175.2 a1 a2 t152).bind fun bt181 => ((PA.q8Of.f l0_0 l0_1).bind fun bt184 => ((X.fixes_CheckTell.f kj7 bt184.1 bt184.2 a2 a1 t160).bind fun bt190 => (if t153 = 0 then (if t161 = 0 then (if bt181.2.2 = 0 then (if bt190.2.2 = 0 then (if bt181.2.1 = true then (if bt190.2.1 = true then (if bt181.1 = bt190.1 then (if bt181.1 ≥ 0 then (if bt181.1 ≤ 5 then ((PB.q8awake.f kj7).bind fun t193 => (some t193)) else (some false)) else (some false)) else (some false)) else (some false)) else (some false)) else (some false)) else (some false)) else (some false)) else (some false)))))) = some r := by rw [if_neg (show ¬ (false = true) by decide)] at H; exact H
      clear H
      have H := H1
      clear H1
      replace H := Option.bind_eq_some_iff.mp H
      obtain ⟨⟨t175, t178⟩, A650, H⟩ := H
      replace H : ((X.fixes_CheckTell.f kj7 t175 t178 a1 a2 t152).bind fun bt181 => ((PA.q8Of.f l0_0 l0_1).bind fun bt184 => ((X.fixes_CheckTell.f kj7 bt184.1 bt184.2 a2 a1 t160).bind fun bt190 => (if t153 = 0 then (if t161 = 0 then (if bt181.2.2 = 0 then (if bt190.2.2 = 0 then (if bt181.2.1 = true then (if bt190.2.1 = true then (if bt181.1 = bt190.1 then (if bt181.1 ≥ 0 then (if bt181.1 ≤ 5 then ((PB.q8awake.f kj7).bind fun t193 => (some t193)) else (some false)) else (some false)) else (some false)) else (some false)) else (some false)) else (some false)) else (some false)) else (some false)) else (some false))))) = some r := H
      have A65 := As0.mk A650
      clear A650
      replace H := Option.bind_eq_some_iff.mp H
      obtain ⟨⟨t181, t182, t183⟩, A660, H⟩ := H
      replace H : ((PA.q8Of.f l0_0 l0_1).bind fun bt184 => ((X.fixes_CheckTell.f kj7 bt184.1 bt184.2 a2 a1 t160).bind fun bt190 => (if t153 = 0 then (if t161 = 0 then (if t183 = 0 then (if bt190.2.2 = 0 then (if t182 = true then (if bt190.2.1 = true then (if t181 = bt190.1 then (if t181 ≥ 0 then (if t181 ≤ 5 then ((PB.q8awake.f kj7).bind fun t193 => (some t193)) else (some false)) else (some false)) else (some false)) else (some false)) else (some false)) else (some false)) else (some false)) else (some false)) else (some false)))) = some r := H
      have A66 := As0.mk A660
      clear A660
      replace H := Option.bind_eq_some_iff.mp H
      obtain ⟨⟨t184, t187⟩, A670, H⟩ := H
      replace H : ((X.fixes_CheckTell.f kj7 t184 t187 a2 a1 t160).bind fun bt190 => (if t153 = 0 then (if t161 = 0 then (if t183 = 0 then (if bt190.2.2 = 0 then (if t182 = true then (if bt190.2.1 = true then (if t181 = bt190.1 then (if t181 ≥ 0 then (if t181 ≤ 5 then ((PB.q8awake.f kj7).bind fun t193 => (some t193)) else (some false)) else (some false)) else (some false)) else (some false)) else (some false)) else (some false)) else (some false)) else (some false)) else (some false))) = some r := H
      have A67 := As0.mk A670
      clear A670
      replace H := Option.bind_eq_some_iff.mp H
      obtain ⟨⟨t190, t191, t192⟩, A680, H⟩ := H
      replace H : (if t153 = 0 then (if t161 = 0 then (if t183 = 0 then (if t192 = 0 then (if t182 = true then (if t191 = true then (if t181 = t190 then (if t181 ≥ 0 then (if t181 ≤ 5 then ((PB.q8awake.f kj7).bind fun t193 => (some t193)) else (some false)) else (some false)) else (some false)) else (some false)) else (some false)) else (some false)) else (some false)) else (some false)) else (some false)) = some r := H
      have A68 := As0.mk A680
      clear A680
      by_cases c69 : t153 = 0
      ·rw [if_pos c69] at H
       have c69b0 : (t153 == 0) = true := beq_iff_eq.mpr c69
       have c69b1 : (t153 != 0) = false := bne_eq_false_iff_eq.mpr c69
       clear c69
       by_cases c70 : t161 = 0
       ·rw [if_pos c70] at H
        have c70b0 : (t161 == 0) = true := beq_iff_eq.mpr c70
        have c70b1 : (t161 != 0) = false := bne_eq_false_iff_eq.mpr c70
        clear c70
        by_cases c71 : t183 = 0
        ·rw [if_pos c71] at H
         have c71b0 : (t183 == 0) = true := beq_iff_eq.mpr c71
         have c71b1 : (t183 != 0) = false := bne_eq_false_iff_eq.mpr c71
         clear c71
         by_cases c72 : t192 = 0
         ·rw [if_pos c72] at H
          have c72b0 : (t192 == 0) = true := beq_iff_eq.mpr c72
          have c72b1 : (t192 != 0) = false := bne_eq_false_iff_eq.mpr c72
          clear c72
          by_cases c73 : t182 = true
          ·subst c73
           have H1 : (if t191 = true then (if t181 = t190 then (if t181 ≥ 0 then (if t181 ≤ 5 then ((PB.q8awake.f kj7).bind fun t193 => (some t193)) else (some false)) else (some false)) else (some false)) else (some false)) = some r := by rw [if_pos rfl] at H; exact H
           clear H
           have H := H1
           clear H1
           by_cases c74 : t191 = true
           ·subst c74
            have H1 : (if t181 = t190 then (if t181 ≥ 0 then (if t181 ≤ 5 then ((PB.q8awake.f kj7).bind fun t193 => (some t193)) else (some false)) else (some false)) else (some false)) = some r := by rw [if_pos rfl] at H; exact H
            clear H
            have H := H1
            clear H1
            by_cases c75 : t181 = t190
            ·rw [if_pos c75] at H
             have c75b0 : (t181 == t190) = true := beq_iff_eq.mpr c75
             have c75b1 : (t181 != t190) = false := bne_eq_false_iff_eq.mpr c75
             clear c75
             by_cases c76 : t181 ≥ 0
             ·rw [if_pos c76] at H
              have c76b0 : decide (0 ≤ t181) = true := decide_eq_true c76
              clear c76
              by_cases c77 : t181 ≤ 5
              ·rw [if_pos c77] at H
               have c77b0 : decide (t181 ≤ 5) = true := decide_eq_true c77
               clear c77
               replace H := Option.bind_eq_some_iff.mp H
               obtain ⟨t193, A780, H⟩ := H
               replace H : (some t193) = some r := H
               have A78 := As0.mk A780
               clear A780
               obtain rfl := Option.some.inj H
               have hcz79_0 : wc.cell? ⟨gb145, 0, none⟩ = some (.slice A0_0 l0_0.length c0_0) := (blk_cell BK145.out 0).trans rfl
               have hcz79_1 : wc.cell? ⟨gb145, 1, none⟩ = some (.slice A0_1 l0_1.length c0_1) := (blk_cell BK145.out 1).trans rfl
               have hfz79_0 := blk_frozen BK145.out 0
               have hfz79_1 := blk_frozen BK145.out 1
               go_wp2_with (first | ((with_reducible refine gate_callee (f := 17) rfl ?_); refine goesL_ (some 61) rfl rfl Try.func17 (by kernel_rfl) rfl #[.agg #[.slice A0_0 l0_0.length c0_0, .slice A0_1 l0_1.length c0_1]] rfl (by (try simp only [sm]); first | done | rfl | (simp only [List.length_drop, List.length_take]; rfl)) ?_; (with_reducible refine (PA.q8Of.calls _ _ l0_0 _ _ l0_1 t166 t169 _ ?side1 ?side2 ?side3 ?side4 A42.out).mono ?_); (case side1 => repeat (first | exact (Kd.C_below HR0_0.out HB.out) | (with_reducible refine Kd.C_alloc ?_ _) | (with_reducible refine Kd.C_drewN ?_ _) | (with_reducible refine Kd.C_drew ?_))); (case side2 => exact HC0_0.out); (case side3 => repeat (first | exact (Kd.C_below HR0_1.out HB.out) | (with_reducible refine Kd.C_alloc ?_ _) | (with_reducible refine Kd.C_drewN ?_ _) | (with_reducible refine Kd.C_drew ?_))); (case side4 => exact HC0_1.out); rintro e w80 ⟨v167, v170, rfl, ho0, ho1, hb⟩; refine ⟨_, rfl, ?_⟩; have n0_ := As0.mk (Kd.R_lower ho0 (below_size (by repeat (first | (with_reducible first | exact HB.out | apply below_alloc | apply pwd | apply bd1 | refine below_set ?_ GE145.out) | exact HB.out)))); have n1_ := As0.mk (Kd.R_lower ho1 (below_size (by repeat (first | (with_reducible first | exact HB.out | apply below_alloc | apply pwd | apply bd1 | refine below_set ?_ GE145.out) | exact HB.out)))); have n2_ := As0.mk (blk_below (g := gb145) (o := .cells #[.slice A0_0 l0_0.length c0_0, .slice A0_1 l0_1.length c0_1] 24 (0, 0)) (by (with_reducible repeat (first | refine blk_drewN ?_ _ | refine blk_drew ?_ | refine blk_alloc ?_ _)); exact BK145.out) hb); have n3_ := As0.mk (bst (by repeat (first | (with_reducible first | exact HB.out | apply below_alloc | apply pwd | apply bd1 | refine below_set ?_ GE145.out) | exact HB.out)) hb); clear BK145; clear HB; have HO168 := n0_; have HO171 := n1_; have BK145 := n2_; have HB := n3_; clear n0_ n1_ n2_ n3_; (try clear hb); (try clear hb2); (try clear hk); (try clear hi); (try clear ho0); (try clear ho1); obtain ⟨Ao81, co81, eo81⟩ := Kd.R_slice HO168.out; subst eo81; obtain ⟨Ao82, co82, eo82⟩ := Kd.R_slice HO171.out; subst eo82) | ((with_reducible refine gate_callee (f := 38) rfl ?_); refine goesL_ (some 64) rfl rfl Try.func38 (by kernel_rfl) rfl #[.agg #[.slice Ao81 t166.length co81, .slice Ao82 t169.length co82], .int .i64 a1, .int .i64 a2] rfl (by (try simp only [sm]); first | done | rfl | (simp only [List.length_drop, List.length_take]; rfl)) ?_; (with_reducible refine (PF.fixes_Alike.calls kj7 _ _ t166 _ _ t169 a1 a2 false t173 _ ?side1 ?side2 ?side3 ?side4 A43.out).mono ?_); (case side1 => repeat (first | exact (Kd.R_reads' HO168.out).2.2 | (with_reducible refine Kd.C_alloc ?_ _) | (with_reducible refine Kd.C_drewN ?_ _) | (with_reducible refine Kd.C_drew ?_))); (case side2 => exact (Kd.R_reads' HO168.out).2.1); (case side3 => repeat (first | exact (Kd.R_reads' HO171.out).2.2 | (with_reducible refine Kd.C_alloc ?_ _) | (with_reducible refine Kd.C_drewN ?_ _) | (with_reducible refine Kd.C_drew ?_))); (case side4 => exact (Kd.R_reads' HO171.out).2.1); rintro e w83 ⟨rfl, hb⟩; refine ⟨_, rfl, ?_⟩; have n0_ := As0.mk (Kd.R_below (by (with_reducible repeat (first | apply Kd.R_alloc | apply Kd.R_drewN | apply Kd.R_drew)); exact HO168.out) hb); have n1_ := As0.mk (Kd.R_below (by (with_reducible repeat (first | apply Kd.R_alloc | apply Kd.R_drewN | apply Kd.R_drew)); exact HO171.out) hb); have n2_ := As0.mk (blk_below (g := gb145) (o := .cells #[.slice A0_0 l0_0.length c0_0, .slice A0_1 l0_1.length c0_1] 24 (0, 0)) (by (with_reducible repeat (first | refine blk_drewN ?_ _ | refine blk_drew ?_ | refine blk_alloc ?_ _)); exact BK145.out) hb); have n3_ := As0.mk (bst (by repeat (first | (with_reducible first | exact HB.out | apply below_alloc | apply pwd | apply bd1 | refine below_set ?_ GE145.out) | exact HB.out)) hb); clear HO168; clear HO171; clear BK145; clear HB; have HO168 := n0_; have HO171 := n1_; have BK145 := n2_; have HB := n3_; clear n0_ n1_ n2_ n3_; (try clear hb); (try clear hb2); (try clear hk); (try clear hi); have hcz84_0 : w83.cell? ⟨gb145, 0, none⟩ = some (.slice A0_0 l0_0.length c0_0) := (blk_cell BK145.out 0).trans rfl; have hcz84_1 : w83.cell? ⟨gb145, 1, none⟩ = some (.slice A0_1 l0_1.length c0_1) := (blk_cell BK145.out 1).trans rfl; have hfz84_0 := blk_frozen BK145.out 0; have hfz84_1 := blk_frozen BK145.out 1) | ((with_reducible refine gate_callee (f := 17) rfl ?_); refine goesL_ (some 81) rfl rfl Try.func17 (by kernel_rfl) rfl #[.agg #[.slice A0_0 l0_0.length c0_0, .slice A0_1 l0_1.length c0_1]] rfl (by (try simp only [sm]); first | done | rfl | (simp only [List.length_drop, List.length_take]; rfl)) ?_; (with_reducible refine (PA.q8Of.calls _ _ l0_0 _ _ l0_1 t175 t178 _ ?side1 ?side2 ?side3 ?side4 A65.out).mono ?_); (case side1 => repeat (first | exact (Kd.C_below HR0_0.out HB.out) | (with_reducible refine Kd.C_alloc ?_ _) | (with_reducible refine Kd.C_drewN ?_ _) | (with_reducible refine Kd.C_drew ?_))); (case side2 => exact HC0_0.out); (case side3 => repeat (first | exact (Kd.C_below HR0_1.out HB.out) | (with_reducible refine Kd.C_alloc ?_ _) | (with_reducible refine Kd.C_drewN ?_ _) | (with_reducible refine Kd.C_drew ?_))); (case side4 => exact HC0_1.out); rintro e w85 ⟨v176, v179, rfl, ho0, ho1, hb⟩; refine ⟨_, rfl, ?_⟩; have n0_ := As0.mk (Kd.R_mono (Kd.R_told (Kd.R_told (Kd.R_old (by (with_reducible repeat (first | apply Kd.R_alloc | apply Kd.R_drewN | apply Kd.R_drew)); exact HO168.out) hb) (Kd.R_base ho0)) (Kd.R_base ho1)) (fun _ h_ => h_.1)); have n1_ := As0.mk (Kd.R_mono (Kd.R_told (Kd.R_told (Kd.R_old (by (with_reducible repeat (first | apply Kd.R_alloc | apply Kd.R_drewN | apply Kd.R_drew)); exact HO171.out) hb) (Kd.R_base ho0)) (Kd.R_base ho1)) (fun _ h_ => h_.1)); have n2_ := As0.mk (Kd.R_lower (Kd.R_new' (Kd.R_new' ho0 (Kd.R_lt (by (with_reducible repeat (first | apply Kd.R_alloc | apply Kd.R_drewN | apply Kd.R_drew)); exact HO168.out))) (Kd.R_lt (by (with_reducible repeat (first | apply Kd.R_alloc | apply Kd.R_drewN | apply Kd.R_drew)); exact HO171.out))) (below_size (by repeat (first | (with_reducible first | exact HB.out | apply below_alloc | apply pwd | apply bd1 | refine below_set ?_ GE145.out) | exact HB.out)))); have n3_ := As0.mk (Kd.R_lower (Kd.R_new' (Kd.R_new' ho1 (Kd.R_lt (by (with_reducible repeat (first | apply Kd.R_alloc | apply Kd.R_drewN | apply Kd.R_drew)); exact HO168.out))) (Kd.R_lt (by (with_reducible repeat (first | apply Kd.R_alloc | apply Kd.R_drewN | apply Kd.R_drew)); exact HO171.out))) (below_size (by repeat (first | (with_reducible first | exact HB.out | apply below_alloc | apply pwd | apply bd1 | refine below_set ?_ GE145.out) | exact HB.out)))); have n4_ := As0.mk (blk_below (g := gb145) (o := .cells #[.slice A0_0 l0_0.length c0_0, .slice A0_1 l0_1.length c0_1] 24 (0, 0)) (by (with_reducible repeat (first | refine blk_drewN ?_ _ | refine blk_drew ?_ | refine blk_alloc ?_ _)); exact BK145.out) hb); have n5_ := As0.mk (bst (by repeat (first | (with_reducible first | exact HB.out | apply below_alloc | apply pwd | apply bd1 | refine below_set ?_ GE145.out) | exact HB.out)) hb); clear HO168; clear HO171; clear BK145; clear HB; have HO168 := n0_; have HO171 := n1_; have HO177 := n2_; have HO180 := n3_; have BK145 := n4_; have HB := n5_; clear n0_ n1_ n2_ n3_ n4_ n5_; (try clear hb); (try clear hb2); (try clear hk); (try clear hi); (try clear ho0); (try clear ho1); obtain ⟨Ao86, co86, eo86⟩ := Kd.R_slice HO177.out; subst eo86; obtain ⟨Ao87, co87, eo87⟩ := Kd.R_slice HO180.out; subst eo87) | ((with_reducible refine gate_callee (f := 43) rfl ?_); refine goesL_ (some 85) rfl rfl Try.func43 (by kernel_rfl) rfl #[.agg #[.slice Ao86 t175.length co86, .slice Ao87 t178.length co87], .int .i64 a1, .int .i64 a2, .string t152] rfl (by (try simp only [sm]); first | done | rfl | (simp only [List.length_drop, List.length_take]; rfl)) ?_; (with_reducible refine (X.fixes_CheckTell.calls kj7 _ _ t175 _ _ t178 a1 a2 t152 t181 true t183 _ ?side1 ?side2 ?side3 ?side4 A66.out).mono ?_); (case side1 => repeat (first | exact (Kd.R_reads' HO177.out).2.2 | (with_reducible refine Kd.C_alloc ?_ _) | (with_reducible refine Kd.C_drewN ?_ _) | (with_reducible refine Kd.C_drew ?_))); (case side2 => exact (Kd.R_reads' HO177.out).2.1); (case side3 => repeat (first | exact (Kd.R_reads' HO180.out).2.2 | (with_reducible refine Kd.C_alloc ?_ _) | (with_reducible refine Kd.C_drewN ?_ _) | (with_reducible refine Kd.C_drew ?_))); (case side4 => exact (Kd.R_reads' HO180.out).2.1); rintro e w88 ⟨rfl, hb⟩; refine ⟨_, rfl, ?_⟩; have n0_ := As0.mk (Kd.R_below (by (with_reducible repeat (first | apply Kd.R_alloc | apply Kd.R_drewN | apply Kd.R_drew)); exact HO168.out) hb); have n1_ := As0.mk (Kd.R_below (by (with_reducible repeat (first | apply Kd.R_alloc | apply Kd.R_drewN | apply Kd.R_drew)); exact HO171.out) hb); have n2_ := As0.mk (Kd.R_below (by (with_reducible repeat (first | apply Kd.R_alloc | apply Kd.R_drewN | apply Kd.R_drew)); exact HO177.out) hb); have n3_ := As0.mk (Kd.R_below (by (with_reducible repeat (first | apply Kd.R_alloc | apply Kd.R_drewN | apply Kd.R_drew)); exact HO180.out) hb); have n4_ := As0.mk (blk_below (g := gb145) (o := .cells #[.slice A0_0 l0_0.length c0_0, .slice A0_1 l0_1.length c0_1] 24 (0, 0)) (by (with_reducible repeat (first | refine blk_drewN ?_ _ | refine blk_drew ?_ | refine blk_alloc ?_ _)); exact BK145.out) hb); have n5_ := As0.mk (bst (by repeat (first | (with_reducible first | exact HB.out | apply below_alloc | apply pwd | apply bd1 | refine below_set ?_ GE145.out) | exact HB.out)) hb); clear HO168; clear HO171; clear HO177; clear HO180; clear BK145; clear HB; have HO168 := n0_; have HO171 := n1_; have HO177 := n2_; have HO180 := n3_; have BK145 := n4_; have HB := n5_; clear n0_ n1_ n2_ n3_ n4_ n5_; (try clear hb); (try clear hb2); (try clear hk); (try clear hi); have hcz89_0 : w88.cell? ⟨gb145, 0, none⟩ = some (.slice A0_0 l0_0.length c0_0) := (blk_cell BK145.out 0).trans rfl; have hcz89_1 : w88.cell? ⟨gb145, 1, none⟩ = some (.slice A0_1 l0_1.length c0_1) := (blk_cell BK145.out 1).trans rfl; have hfz89_0 := blk_frozen BK145.out 0; have hfz89_1 := blk_frozen BK145.out 1) | ((with_reducible refine gate_callee (f := 17) rfl ?_); refine goesL_ (some 91) rfl rfl Try.func17 (by kernel_rfl) rfl #[.agg #[.slice A0_0 l0_0.length c0_0, .slice A0_1 l0_1.length c0_1]] rfl (by (try simp only [sm]); first | done | rfl | (simp only [List.length_drop, List.length_take]; rfl)) ?_; (with_reducible refine (PA.q8Of.calls _ _ l0_0 _ _ l0_1 t184 t187 _ ?side1 ?side2 ?side3 ?side4 A67.out).mono ?_); (case side1 => repeat (first | exact (Kd.C_below HR0_0.out HB.out) | (with_reducible refine Kd.C_alloc ?_ _) | (with_reducible refine Kd.C_drewN ?_ _) | (with_reducible refine Kd.C_drew ?_))); (case side2 => exact HC0_0.out); (case side3 => repeat (first | exact (Kd.C_below HR0_1.out HB.out) | (with_reducible refine Kd.C_alloc ?_ _) | (with_reducible refine Kd.C_drewN ?_ _) | (with_reducible refine Kd.C_drew ?_))); (case side4 => exact HC0_1.out); rintro e w90 ⟨v185, v188, rfl, ho0, ho1, hb⟩; refine ⟨_, rfl, ?_⟩; have n0_ := As0.mk (Kd.R_mono (Kd.R_told (Kd.R_told (Kd.R_old (by (with_reducible repeat (first | apply Kd.R_alloc | apply Kd.R_drewN | apply Kd.R_drew)); exact HO168.out) hb) (Kd.R_base ho0)) (Kd.R_base ho1)) (fun _ h_ => h_.1)); have n1_ := As0.mk (Kd.R_mono (Kd.R_told (Kd.R_told (Kd.R_old (by (with_reducible repeat (first | apply Kd.R_alloc | apply Kd.R_drewN | apply Kd.R_drew)); exact HO171.out) hb) (Kd.R_base ho0)) (Kd.R_base ho1)) (fun _ h_ => h_.1)); have n2_ := As0.mk (Kd.R_mono (Kd.R_told (Kd.R_told (Kd.R_old (by (with_reducible repeat (first | apply Kd.R_alloc | apply Kd.R_drewN | apply Kd.R_drew)); exact HO177.out) hb) (Kd.R_base ho0)) (Kd.R_base ho1)) (fun _ h_ => h_.1)); have n3_ := As0.mk (Kd.R_mono (Kd.R_told (Kd.R_told (Kd.R_old (by (with_reducible repeat (first | apply Kd.R_alloc | apply Kd.R_drewN | apply Kd.R_drew)); exact HO180.out) hb) (Kd.R_base ho0)) (Kd.R_base ho1)) (fun _ h_ => h_.1)); have n4_ := As0.mk (Kd.R_lower (Kd.R_new' (Kd.R_new' (Kd.R_new' (Kd.R_new' ho0 (Kd.R_lt (by (with_reducible repeat (first | apply Kd.R_alloc | apply Kd.R_drewN | apply Kd.R_drew)); exact HO168.out))) (Kd.R_lt (by (with_reducible repeat (first | apply Kd.R_alloc | apply Kd.R_drewN | apply Kd.R_drew)); exact HO171.out))) (Kd.R_lt (by (with_reducible repeat (first | apply Kd.R_alloc | apply Kd.R_drewN | apply Kd.R_drew)); exact HO177.out))) (Kd.R_lt (by (with_reducible repeat (first | apply Kd.R_alloc | apply Kd.R_drewN | apply Kd.R_drew)); exact HO180.out))) (below_size (by repeat (first | (with_reducible first | exact HB.out | apply below_alloc | apply pwd | apply bd1 | refine below_set ?_ GE145.out) | exact HB.out)))); have n5_ := As0.mk (Kd.R_lower (Kd.R_new' (Kd.R_new' (Kd.R_new' (Kd.R_new' ho1 (Kd.R_lt (by (with_reducible repeat (first | apply Kd.R_alloc | apply Kd.R_drewN | apply Kd.R_drew)); exact HO168.out))) (Kd.R_lt (by (with_reducible repeat (first | apply Kd.R_alloc | apply Kd.R_drewN | apply Kd.R_drew)); exact HO171.out))) (Kd.R_lt (by (with_reducible repeat (first | apply Kd.R_alloc | apply Kd.R_drewN | apply Kd.R_drew)); exact HO177.out))) (Kd.R_lt (by (with_reducible repeat (first | apply Kd.R_alloc | apply Kd.R_drewN | apply Kd.R_drew)); exact HO180.out))) (below_size (by repeat (first | (with_reducible first | exact HB.out | apply below_alloc | apply pwd | apply bd1 | refine below_set ?_ GE145.out) | exact HB.out)))); have n6_ := As0.mk (blk_below (g := gb145) (o := .cells #[.slice A0_0 l0_0.length c0_0, .slice A0_1 l0_1.length c0_1] 24 (0, 0)) (by (with_reducible repeat (first | refine blk_drewN ?_ _ | refine blk_drew ?_ | refine blk_alloc ?_ _)); exact BK145.out) hb); have n7_ := As0.mk (bst (by repeat (first | (with_reducible first | exact HB.out | apply below_alloc | apply pwd | apply bd1 | refine below_set ?_ GE145.out) | exact HB.out)) hb); clear HO168; clear HO171; clear HO177; clear HO180; clear BK145; clear HB; have HO168 := n0_; have HO171 := n1_; have HO177 := n2_; have HO180 := n3_; have HO186 := n4_; have HO189 := n5_; have BK145 := n6_; have HB := n7_; clear n0_ n1_ n2_ n3_ n4_ n5_ n6_ n7_; (try clear hb); (try clear hb2); (try clear hk); (try clear hi); (try clear ho0); (try clear ho1); obtain ⟨Ao91, co91, eo91⟩ := Kd.R_slice HO186.out; subst eo91; obtain ⟨Ao92, co92, eo92⟩ := Kd.R_slice HO189.out; subst eo92) | ((with_reducible refine gate_callee (f := 43) rfl ?_); refine goesL_ (some 95) rfl rfl Try.func43 (by kernel_rfl) rfl #[.agg #[.slice Ao91 t184.length co91, .slice Ao92 t187.length co92], .int .i64 a2, .int .i64 a1, .string t160] rfl (by (try simp only [sm]); first | done | rfl | (simp only [List.length_drop, List.length_take]; rfl)) ?_; (with_reducible refine (X.fixes_CheckTell.calls kj7 _ _ t184 _ _ t187 a2 a1 t160 t190 true t192 _ ?side1 ?side2 ?side3 ?side4 A68.out).mono ?_); (case side1 => repeat (first | exact (Kd.R_reads' HO186.out).2.2 | (with_reducible refine Kd.C_alloc ?_ _) | (with_reducible refine Kd.C_drewN ?_ _) | (with_reducible refine Kd.C_drew ?_))); (case side2 => exact (Kd.R_reads' HO186.out).2.1); (case side3 => repeat (first | exact (Kd.R_reads' HO189.out).2.2 | (with_reducible refine Kd.C_alloc ?_ _) | (with_reducible refine Kd.C_drewN ?_ _) | (with_reducible refine Kd.C_drew ?_))); (case side4 => exact (Kd.R_reads' HO189.out).2.1); rintro e w93 ⟨rfl, hb⟩; refine ⟨_, rfl, ?_⟩; have n0_ := As0.mk (Kd.R_below (by (with_reducible repeat (first | apply Kd.R_alloc | apply Kd.R_drewN | apply Kd.R_drew)); exact HO168.out) hb); have n1_ := As0.mk (Kd.R_below (by (with_reducible repeat (first | apply Kd.R_alloc | apply Kd.R_drewN | apply Kd.R_drew)); exact HO171.out) hb); have n2_ := As0.mk (Kd.R_below (by (with_reducible repeat (first | apply Kd.R_alloc | apply Kd.R_drewN | apply Kd.R_drew)); exact HO177.out) hb); have n3_ := As0.mk (Kd.R_below (by (with_reducible repeat (first | apply Kd.R_alloc | apply Kd.R_drewN | apply Kd.R_drew)); exact HO180.out) hb); have n4_ := As0.mk (Kd.R_below (by (with_reducible repeat (first | apply Kd.R_alloc | apply Kd.R_drewN | apply Kd.R_drew)); exact HO186.out) hb); have n5_ := As0.mk (Kd.R_below (by (with_reducible repeat (first | apply Kd.R_alloc | apply Kd.R_drewN | apply Kd.R_drew)); exact HO189.out) hb); have n6_ := As0.mk (blk_below (g := gb145) (o := .cells #[.slice A0_0 l0_0.length c0_0, .slice A0_1 l0_1.length c0_1] 24 (0, 0)) (by (with_reducible repeat (first | refine blk_drewN ?_ _ | refine blk_drew ?_ | refine blk_alloc ?_ _)); exact BK145.out) hb); have n7_ := As0.mk (bst (by repeat (first | (with_reducible first | exact HB.out | apply below_alloc | apply pwd | apply bd1 | refine below_set ?_ GE145.out) | exact HB.out)) hb); clear HO168; clear HO171; clear HO177; clear HO180; clear HO186; clear HO189; clear BK145; clear HB; have HO168 := n0_; have HO171 := n1_; have HO177 := n2_; have HO180 := n3_; have HO186 := n4_; have HO189 := n5_; have BK145 := n6_; have HB := n7_; clear n0_ n1_ n2_ n3_ n4_ n5_ n6_ n7_; (try clear hb); (try clear hb2); (try clear hk); (try clear hi)) | (go_at_call 22; (with_reducible refine (PB.q8awake.calls kj7  t193 _ A78.out).mono ?_); rintro e w94 ⟨rfl, hb⟩; have n0_ := As0.mk (Kd.R_below (by (with_reducible repeat (first | apply Kd.R_alloc | apply Kd.R_drewN | apply Kd.R_drew)); exact HO168.out) hb); have n1_ := As0.mk (Kd.R_below (by (with_reducible repeat (first | apply Kd.R_alloc | apply Kd.R_drewN | apply Kd.R_drew)); exact HO171.out) hb); have n2_ := As0.mk (Kd.R_below (by (with_reducible repeat (first | apply Kd.R_alloc | apply Kd.R_drewN | apply Kd.R_drew)); exact HO177.out) hb); have n3_ := As0.mk (Kd.R_below (by (with_reducible repeat (first | apply Kd.R_alloc | apply Kd.R_drewN | apply Kd.R_drew)); exact HO180.out) hb); have n4_ := As0.mk (Kd.R_below (by (with_reducible repeat (first | apply Kd.R_alloc | apply Kd.R_drewN | apply Kd.R_drew)); exact HO186.out) hb); have n5_ := As0.mk (Kd.R_below (by (with_reducible repeat (first | apply Kd.R_alloc | apply Kd.R_drewN | apply Kd.R_drew)); exact HO189.out) hb); have n6_ := As0.mk (blk_below (g := gb145) (o := .cells #[.slice A0_0 l0_0.length c0_0, .slice A0_1 l0_1.length c0_1] 24 (0, 0)) (by (with_reducible repeat (first | refine blk_drewN ?_ _ | refine blk_drew ?_ | refine blk_alloc ?_ _)); exact BK145.out) hb); have n7_ := As0.mk (bst (by repeat (first | (with_reducible first | exact HB.out | apply below_alloc | apply pwd | apply bd1 | refine below_set ?_ GE145.out) | exact HB.out)) hb); clear HO168; clear HO171; clear HO177; clear HO180; clear HO186; clear HO189; clear BK145; clear HB; have HO168 := n0_; have HO171 := n1_; have HO177 := n2_; have HO180 := n3_; have HO186 := n4_; have HO189 := n5_; have BK145 := n6_; have HB := n7_; clear n0_ n1_ n2_ n3_ n4_ n5_ n6_ n7_; (try clear hb); (try clear hb2); (try clear hk); (try clear hi)))
               go_ret
               exact ⟨by first | rfl | (simp [errW_none, errW_some] <;> rfl) | (simp [*, errW_none, errW_some] <;> rfl), by repeat (first | (with_reducible first | exact HB.out | apply below_alloc | apply pwd | apply bd1 | refine below_set ?_ GE145.out) | exact HB.out)⟩
              ·rw [if_neg c77] at H
               exact absurd (Option.some.inj H) (by rw [ht]; decide)
             ·rw [if_neg c76] at H
              exact absurd (Option.some.inj H) (by rw [ht]; decide)
            ·rw [if_neg c75] at H
             exact absurd (Option.some.inj H) (by rw [ht]; decide)
           ·replace c74 := Bool.eq_false_iff.mpr c74
            subst c74
            have H1 : (some false) = some r := by rw [if_neg (show ¬ (false = true) by decide)] at H; exact H
            clear H
            have H := H1
            clear H1
            obtain rfl := Option.some.inj H
            have hcz140_0 : wc.cell? ⟨gb145, 0, none⟩ = some (.slice A0_0 l0_0.length c0_0) := (blk_cell BK145.out 0).trans rfl
            have hcz140_1 : wc.cell? ⟨gb145, 1, none⟩ = some (.slice A0_1 l0_1.length c0_1) := (blk_cell BK145.out 1).trans rfl
            have hfz140_0 := blk_frozen BK145.out 0
            have hfz140_1 := blk_frozen BK145.out 1
            go_wp2_with (first | ((with_reducible refine gate_callee (f := 17) rfl ?_); refine goesL_ (some 61) rfl rfl Try.func17 (by kernel_rfl) rfl #[.agg #[.slice A0_0 l0_0.length c0_0, .slice A0_1 l0_1.length c0_1]] rfl (by (try simp only [sm]); first | done | rfl | (simp only [List.length_drop, List.length_take]; rfl)) ?_; (with_reducible refine (PA.q8Of.calls _ _ l0_0 _ _ l0_1 t166 t169 _ ?side1 ?side2 ?side3 ?side4 A42.out).mono ?_); (case side1 => repeat (first | exact (Kd.C_below HR0_0.out HB.out) | (with_reducible refine Kd.C_alloc ?_ _) | (with_reducible refine Kd.C_drewN ?_ _) | (with_reducible refine Kd.C_drew ?_))); (case side2 => exact HC0_0.out); (case side3 => repeat (first | exact (Kd.C_below HR0_1.out HB.out) | (with_reducible refine Kd.C_alloc ?_ _) | (with_reducible refine Kd.C_drewN ?_ _) | (with_reducible refine Kd.C_drew ?_))); (case side4 => exact HC0_1.out); rintro e w141 ⟨v167, v170, rfl, ho0, ho1, hb⟩; refine ⟨_, rfl, ?_⟩; have n0_ := As0.mk (Kd.R_lower ho0 (below_size (by repeat (first | (with_reducible first | exact HB.out | apply below_alloc | apply pwd | apply bd1 | refine below_set ?_ GE145.out) | exact HB.out)))); have n1_ := As0.mk (Kd.R_lower ho1 (below_size (by repeat (first | (with_reducible first | exact HB.out | apply below_alloc | apply pwd | apply bd1 | refine below_set ?_ GE145.out) | exact HB.out)))); have n2_ := As0.mk (blk_below (g := gb145) (o := .cells #[.slice A0_0 l0_0.length c0_0, .slice A0_1 l0_1.length c0_1] 24 (0, 0)) (by (with_reducible repeat (first | refine blk_drewN ?_ _ | refine blk_drew ?_ | refine blk_alloc ?_ _)); exact BK145.out) hb); have n3_ := As0.mk (bst (by repeat (first | (with_reducible first | exact HB.out | apply below_alloc | apply pwd | apply bd1 | refine below_set ?_ GE145.out) | exact HB.out)) hb); clear BK145; clear HB; have HO168 := n0_; have HO171 := n1_; have BK145 := n2_; have HB := n3_; clear n0_ n1_ n2_ n3_; (try clear hb); (try clear hb2); (try clear hk); (try clear hi); (try clear ho0); (try clear ho1); obtain ⟨Ao142, co142, eo142⟩ := Kd.R_slice HO168.out; subst eo142; obtain ⟨Ao143, co143, eo143⟩ := Kd.R_slice HO171.out; subst eo143) | ((with_reducible refine gate_callee (f := 38) rfl ?_); refine goesL_ (some 64) rfl rfl Try.func38 (by kernel_rfl) rfl #[.agg #[.slice Ao142 t166.length co142, .slice Ao143 t169.length co143], .int .i64 a1, .int .i64 a2] rfl (by (try simp only [sm]); first | done | rfl | (simp only [List.length_drop, List.length_take]; rfl)) ?_; (with_reducible refine (PF.fixes_Alike.calls kj7 _ _ t166 _ _ t169 a1 a2 false t173 _ ?side1 ?side2 ?side3 ?side4 A43.out).mono ?_); (case side1 => repeat (first | exact (Kd.R_reads' HO168.out).2.2 | (with_reducible refine Kd.C_alloc ?_ _) | (with_reducible refine Kd.C_drewN ?_ _) | (with_reducible refine Kd.C_drew ?_))); (case side2 => exact (Kd.R_reads' HO168.out).2.1); (case side3 => repeat (first | exact (Kd.R_reads' HO171.out).2.2 | (with_reducible refine Kd.C_alloc ?_ _) | (with_reducible refine Kd.C_drewN ?_ _) | (with_reducible refine Kd.C_drew ?_))); (case side4 => exact (Kd.R_reads' HO171.out).2.1); rintro e w144 ⟨rfl, hb⟩; refine ⟨_, rfl, ?_⟩; have n0_ := As0.mk (Kd.R_below (by (with_reducible repeat (first | apply Kd.R_alloc | apply Kd.R_drewN | apply Kd.R_drew)); exact HO168.out) hb); have n1_ := As0.mk (Kd.R_below (by (with_reducible repeat (first | apply Kd.R_alloc | apply Kd.R_drewN | apply Kd.R_drew)); exact HO171.out) hb); have n2_ := As0.mk (blk_below (g := gb145) (o := .cells #[.slice A0_0 l0_0.length c0_0, .slice A0_1 l0_1.length c0_1] 24 (0, 0)) (by (with_reducible repeat (first | refine blk_drewN ?_ _ | refine blk_drew ?_ | refine blk_alloc ?_ _)); exact BK145.out) hb); have n3_ := As0.mk (bst (by repeat (first | (with_reducible first | exact HB.out | apply below_alloc | apply pwd | apply bd1 | refine below_set ?_ GE145.out) | exact HB.out)) hb); clear HO168; clear HO171; clear BK145; clear HB; have HO168 := n0_; have HO171 := n1_; have BK145 := n2_; have HB := n3_; clear n0_ n1_ n2_ n3_; (try clear hb); (try clear hb2); (try clear hk); (try clear hi); have hcz145_0 : w144.cell? ⟨gb145, 0, none⟩ = some (.slice A0_0 l0_0.length c0_0) := (blk_cell BK145.out 0).trans rfl; have hcz145_1 : w144.cell? ⟨gb145, 1, none⟩ = some (.slice A0_1 l0_1.length c0_1) := (blk_cell BK145.out 1).trans rfl; have hfz145_0 := blk_frozen BK145.out 0; have hfz145_1 := blk_frozen BK145.out 1) | ((with_reducible refine gate_callee (f := 17) rfl ?_); refine goesL_ (some 81) rfl rfl Try.func17 (by kernel_rfl) rfl #[.agg #[.slice A0_0 l0_0.length c0_0, .slice A0_1 l0_1.length c0_1]] rfl (by (try simp only [sm]); first | done | rfl | (simp only [List.length_drop, List.length_take]; rfl)) ?_; (with_reducible refine (PA.q8Of.calls _ _ l0_0 _ _ l0_1 t175 t178 _ ?side1 ?side2 ?side3 ?side4 A65.out).mono ?_); (case side1 => repeat (first | exact (Kd.C_below HR0_0.out HB.out) | (with_reducible refine Kd.C_alloc ?_ _) | (with_reducible refine Kd.C_drewN ?_ _) | (with_reducible refine Kd.C_drew ?_))); (case side2 => exact HC0_0.out); (case side3 => repeat (first | exact (Kd.C_below HR0_1.out HB.out) | (with_reducible refine Kd.C_alloc ?_ _) | (with_reducible refine Kd.C_drewN ?_ _) | (with_reducible refine Kd.C_drew ?_))); (case side4 => exact HC0_1.out); rintro e w146 ⟨v176, v179, rfl, ho0, ho1, hb⟩; refine ⟨_, rfl, ?_⟩; have n0_ := As0.mk (Kd.R_mono (Kd.R_told (Kd.R_told (Kd.R_old (by (with_reducible repeat (first | apply Kd.R_alloc | apply Kd.R_drewN | apply Kd.R_drew)); exact HO168.out) hb) (Kd.R_base ho0)) (Kd.R_base ho1)) (fun _ h_ => h_.1)); have n1_ := As0.mk (Kd.R_mono (Kd.R_told (Kd.R_told (Kd.R_old (by (with_reducible repeat (first | apply Kd.R_alloc | apply Kd.R_drewN | apply Kd.R_drew)); exact HO171.out) hb) (Kd.R_base ho0)) (Kd.R_base ho1)) (fun _ h_ => h_.1)); have n2_ := As0.mk (Kd.R_lower (Kd.R_new' (Kd.R_new' ho0 (Kd.R_lt (by (with_reducible repeat (first | apply Kd.R_alloc | apply Kd.R_drewN | apply Kd.R_drew)); exact HO168.out))) (Kd.R_lt (by (with_reducible repeat (first | apply Kd.R_alloc | apply Kd.R_drewN | apply Kd.R_drew)); exact HO171.out))) (below_size (by repeat (first | (with_reducible first | exact HB.out | apply below_alloc | apply pwd | apply bd1 | refine below_set ?_ GE145.out) | exact HB.out)))); have n3_ := As0.mk (Kd.R_lower (Kd.R_new' (Kd.R_new' ho1 (Kd.R_lt (by (with_reducible repeat (first | apply Kd.R_alloc | apply Kd.R_drewN | apply Kd.R_drew)); exact HO168.out))) (Kd.R_lt (by (with_reducible repeat (first | apply Kd.R_alloc | apply Kd.R_drewN | apply Kd.R_drew)); exact HO171.out))) (below_size (by repeat (first | (with_reducible first | exact HB.out | apply below_alloc | apply pwd | apply bd1 | refine below_set ?_ GE145.out) | exact HB.out)))); have n4_ := As0.mk (blk_below (g := gb145) (o := .cells #[.slice A0_0 l0_0.length c0_0, .slice A0_1 l0_1.length c0_1] 24 (0, 0)) (by (with_reducible repeat (first | refine blk_drewN ?_ _ | refine blk_drew ?_ | refine blk_alloc ?_ _)); exact BK145.out) hb); have n5_ := As0.mk (bst (by repeat (first | (with_reducible first | exact HB.out | apply below_alloc | apply pwd | apply bd1 | refine below_set ?_ GE145.out) | exact HB.out)) hb); clear HO168; clear HO171; clear BK145; clear HB; have HO168 := n0_; have HO171 := n1_; have HO177 := n2_; have HO180 := n3_; have BK145 := n4_; have HB := n5_; clear n0_ n1_ n2_ n3_ n4_ n5_; (try clear hb); (try clear hb2); (try clear hk); (try clear hi); (try clear ho0); (try clear ho1); obtain ⟨Ao147, co147, eo147⟩ := Kd.R_slice HO177.out; subst eo147; obtain ⟨Ao148, co148, eo148⟩ := Kd.R_slice HO180.out; subst eo148) | ((with_reducible refine gate_callee (f := 43) rfl ?_); refine goesL_ (some 85) rfl rfl Try.func43 (by kernel_rfl) rfl #[.agg #[.slice Ao147 t175.length co147, .slice Ao148 t178.length co148], .int .i64 a1, .int .i64 a2, .string t152] rfl (by (try simp only [sm]); first | done | rfl | (simp only [List.length_drop, List.length_take]; rfl)) ?_; (with_reducible refine (X.fixes_CheckTell.calls kj7 _ _ t175 _ _ t178 a1 a2 t152 t181 true t183 _ ?side1 ?side2 ?side3 ?side4 A66.out).mono ?_); (case side1 => repeat (first | exact (Kd.R_reads' HO177.out).2.2 | (with_reducible refine Kd.C_alloc ?_ _) | (with_reducible refine Kd.C_drewN ?_ _) | (with_reducible refine Kd.C_drew ?_))); (case side2 => exact (Kd.R_reads' HO177.out).2.1); (case side3 => repeat (first | exact (Kd.R_reads' HO180.out).2.2 | (with_reducible refine Kd.C_alloc ?_ _) | (with_reducible refine Kd.C_drewN ?_ _) | (with_reducible refine Kd.C_drew ?_))); (case side4 => exact (Kd.R_reads' HO180.out).2.1); rintro e w149 ⟨rfl, hb⟩; refine ⟨_, rfl, ?_⟩; have n0_ := As0.mk (Kd.R_below (by (with_reducible repeat (first | apply Kd.R_alloc | apply Kd.R_drewN | apply Kd.R_drew)); exact HO168.out) hb); have n1_ := As0.mk (Kd.R_below (by (with_reducible repeat (first | apply Kd.R_alloc | apply Kd.R_drewN | apply Kd.R_drew)); exact HO171.out) hb); have n2_ := As0.mk (Kd.R_below (by (with_reducible repeat (first | apply Kd.R_alloc | apply Kd.R_drewN | apply Kd.R_drew)); exact HO177.out) hb); have n3_ := As0.mk (Kd.R_below (by (with_reducible repeat (first | apply Kd.R_alloc | apply Kd.R_drewN | apply Kd.R_drew)); exact HO180.out) hb); have n4_ := As0.mk (blk_below (g := gb145) (o := .cells #[.slice A0_0 l0_0.length c0_0, .slice A0_1 l0_1.length c0_1] 24 (0, 0)) (by (with_reducible repeat (first | refine blk_drewN ?_ _ | refine blk_drew ?_ | refine blk_alloc ?_ _)); exact BK145.out) hb); have n5_ := As0.mk (bst (by repeat (first | (with_reducible first | exact HB.out | apply below_alloc | apply pwd | apply bd1 | refine below_set ?_ GE145.out) | exact HB.out)) hb); clear HO168; clear HO171; clear HO177; clear HO180; clear BK145; clear HB; have HO168 := n0_; have HO171 := n1_; have HO177 := n2_; have HO180 := n3_; have BK145 := n4_; have HB := n5_; clear n0_ n1_ n2_ n3_ n4_ n5_; (try clear hb); (try clear hb2); (try clear hk); (try clear hi); have hcz150_0 : w149.cell? ⟨gb145, 0, none⟩ = some (.slice A0_0 l0_0.length c0_0) := (blk_cell BK145.out 0).trans rfl; have hcz150_1 : w149.cell? ⟨gb145, 1, none⟩ = some (.slice A0_1 l0_1.length c0_1) := (blk_cell BK145.out 1).trans rfl; have hfz150_0 := blk_frozen BK145.out 0; have hfz150_1 := blk_frozen BK145.out 1) | ((with_reducible refine gate_callee (f := 17) rfl ?_); refine goesL_ (some 91) rfl rfl Try.func17 (by kernel_rfl) rfl #[.agg #[.slice A0_0 l0_0.length c0_0, .slice A0_1 l0_1.length c0_1]] rfl (by (try simp only [sm]); first | done | rfl | (simp only [List.length_drop, List.length_take]; rfl)) ?_; (with_reducible refine (PA.q8Of.calls _ _ l0_0 _ _ l0_1 t184 t187 _ ?side1 ?side2 ?side3 ?side4 A67.out).mono ?_); (case side1 => repeat (first | exact (Kd.C_below HR0_0.out HB.out) | (with_reducible refine Kd.C_alloc ?_ _) | (with_reducible refine Kd.C_drewN ?_ _) | (with_reducible refine Kd.C_drew ?_))); (case side2 => exact HC0_0.out); (case side3 => repeat (first | exact (Kd.C_below HR0_1.out HB.out) | (with_reducible refine Kd.C_alloc ?_ _) | (with_reducible refine Kd.C_drewN ?_ _) | (with_reducible refine Kd.C_drew ?_))); (case side4 => exact HC0_1.out); rintro e w151 ⟨v185, v188, rfl, ho0, ho1, hb⟩; refine ⟨_, rfl, ?_⟩; have n0_ := As0.mk (Kd.R_mono (Kd.R_told (Kd.R_told (Kd.R_old (by (with_reducible repeat (first | apply Kd.R_alloc | apply Kd.R_drewN | apply Kd.R_drew)); exact HO168.out) hb) (Kd.R_base ho0)) (Kd.R_base ho1)) (fun _ h_ => h_.1)); have n1_ := As0.mk (Kd.R_mono (Kd.R_told (Kd.R_told (Kd.R_old (by (with_reducible repeat (first | apply Kd.R_alloc | apply Kd.R_drewN | apply Kd.R_drew)); exact HO171.out) hb) (Kd.R_base ho0)) (Kd.R_base ho1)) (fun _ h_ => h_.1)); have n2_ := As0.mk (Kd.R_mono (Kd.R_told (Kd.R_told (Kd.R_old (by (with_reducible repeat (first | apply Kd.R_alloc | apply Kd.R_drewN | apply Kd.R_drew)); exact HO177.out) hb) (Kd.R_base ho0)) (Kd.R_base ho1)) (fun _ h_ => h_.1)); have n3_ := As0.mk (Kd.R_mono (Kd.R_told (Kd.R_told (Kd.R_old (by (with_reducible repeat (first | apply Kd.R_alloc | apply Kd.R_drewN | apply Kd.R_drew)); exact HO180.out) hb) (Kd.R_base ho0)) (Kd.R_base ho1)) (fun _ h_ => h_.1)); have n4_ := As0.mk (Kd.R_lower (Kd.R_new' (Kd.R_new' (Kd.R_new' (Kd.R_new' ho0 (Kd.R_lt (by (with_reducible repeat (first | apply Kd.R_alloc | apply Kd.R_drewN | apply Kd.R_drew)); exact HO168.out))) (Kd.R_lt (by (with_reducible repeat (first | apply Kd.R_alloc | apply Kd.R_drewN | apply Kd.R_drew)); exact HO171.out))) (Kd.R_lt (by (with_reducible repeat (first | apply Kd.R_alloc | apply Kd.R_drewN | apply Kd.R_drew)); exact HO177.out))) (Kd.R_lt (by (with_reducible repeat (first | apply Kd.R_alloc | apply Kd.R_drewN | apply Kd.R_drew)); exact HO180.out))) (below_size (by repeat (first | (with_reducible first | exact HB.out | apply below_alloc | apply pwd | apply bd1 | refine below_set ?_ GE145.out) | exact HB.out)))); have n5_ := As0.mk (Kd.R_lower (Kd.R_new' (Kd.R_new' (Kd.R_new' (Kd.R_new' ho1 (Kd.R_lt (by (with_reducible repeat (first | apply Kd.R_alloc | apply Kd.R_drewN | apply Kd.R_drew)); exact HO168.out))) (Kd.R_lt (by (with_reducible repeat (first | apply Kd.R_alloc | apply Kd.R_drewN | apply Kd.R_drew)); exact HO171.out))) (Kd.R_lt (by (with_reducible repeat (first | apply Kd.R_alloc | apply Kd.R_drewN | apply Kd.R_drew)); exact HO177.out))) (Kd.R_lt (by (with_reducible repeat (first | apply Kd.R_alloc | apply Kd.R_drewN | apply Kd.R_drew)); exact HO180.out))) (below_size (by repeat (first | (with_reducible first | exact HB.out | apply below_alloc | apply pwd | apply bd1 | refine below_set ?_ GE145.out) | exact HB.out)))); have n6_ := As0.mk (blk_below (g := gb145) (o := .cells #[.slice A0_0 l0_0.length c0_0, .slice A0_1 l0_1.length c0_1] 24 (0, 0)) (by (with_reducible repeat (first | refine blk_drewN ?_ _ | refine blk_drew ?_ | refine blk_alloc ?_ _)); exact BK145.out) hb); have n7_ := As0.mk (bst (by repeat (first | (with_reducible first | exact HB.out | apply below_alloc | apply pwd | apply bd1 | refine below_set ?_ GE145.out) | exact HB.out)) hb); clear HO168; clear HO171; clear HO177; clear HO180; clear BK145; clear HB; have HO168 := n0_; have HO171 := n1_; have HO177 := n2_; have HO180 := n3_; have HO186 := n4_; have HO189 := n5_; have BK145 := n6_; have HB := n7_; clear n0_ n1_ n2_ n3_ n4_ n5_ n6_ n7_; (try clear hb); (try clear hb2); (try clear hk); (try clear hi); (try clear ho0); (try clear ho1); obtain ⟨Ao152, co152, eo152⟩ := Kd.R_slice HO186.out; subst eo152; obtain ⟨Ao153, co153, eo153⟩ := Kd.R_slice HO189.out; subst eo153) | ((with_reducible refine gate_callee (f := 43) rfl ?_); refine goesL_ (some 95) rfl rfl Try.func43 (by kernel_rfl) rfl #[.agg #[.slice Ao152 t184.length co152, .slice Ao153 t187.length co153], .int .i64 a2, .int .i64 a1, .string t160] rfl (by (try simp only [sm]); first | done | rfl | (simp only [List.length_drop, List.length_take]; rfl)) ?_; (with_reducible refine (X.fixes_CheckTell.calls kj7 _ _ t184 _ _ t187 a2 a1 t160 t190 false t192 _ ?side1 ?side2 ?side3 ?side4 A68.out).mono ?_); (case side1 => repeat (first | exact (Kd.R_reads' HO186.out).2.2 | (with_reducible refine Kd.C_alloc ?_ _) | (with_reducible refine Kd.C_drewN ?_ _) | (with_reducible refine Kd.C_drew ?_))); (case side2 => exact (Kd.R_reads' HO186.out).2.1); (case side3 => repeat (first | exact (Kd.R_reads' HO189.out).2.2 | (with_reducible refine Kd.C_alloc ?_ _) | (with_reducible refine Kd.C_drewN ?_ _) | (with_reducible refine Kd.C_drew ?_))); (case side4 => exact (Kd.R_reads' HO189.out).2.1); rintro e w154 ⟨rfl, hb⟩; refine ⟨_, rfl, ?_⟩; have n0_ := As0.mk (Kd.R_below (by (with_reducible repeat (first | apply Kd.R_alloc | apply Kd.R_drewN | apply Kd.R_drew)); exact HO168.out) hb); have n1_ := As0.mk (Kd.R_below (by (with_reducible repeat (first | apply Kd.R_alloc | apply Kd.R_drewN | apply Kd.R_drew)); exact HO171.out) hb); have n2_ := As0.mk (Kd.R_below (by (with_reducible repeat (first | apply Kd.R_alloc | apply Kd.R_drewN | apply Kd.R_drew)); exact HO177.out) hb); have n3_ := As0.mk (Kd.R_below (by (with_reducible repeat (first | apply Kd.R_alloc | apply Kd.R_drewN | apply Kd.R_drew)); exact HO180.out) hb); have n4_ := As0.mk (Kd.R_below (by (with_reducible repeat (first | apply Kd.R_alloc | apply Kd.R_drewN | apply Kd.R_drew)); exact HO186.out) hb); have n5_ := As0.mk (Kd.R_below (by (with_reducible repeat (first | apply Kd.R_alloc | apply Kd.R_drewN | apply Kd.R_drew)); exact HO189.out) hb); have n6_ := As0.mk (blk_below (g := gb145) (o := .cells #[.slice A0_0 l0_0.length c0_0, .slice A0_1 l0_1.length c0_1] 24 (0, 0)) (by (with_reducible repeat (first | refine blk_drewN ?_ _ | refine blk_drew ?_ | refine blk_alloc ?_ _)); exact BK145.out) hb); have n7_ := As0.mk (bst (by repeat (first | (with_reducible first | exact HB.out | apply below_alloc | apply pwd | apply bd1 | refine below_set ?_ GE145.out) | exact HB.out)) hb); clear HO168; clear HO171; clear HO177; clear HO180; clear HO186; clear HO189; clear BK145; clear HB; have HO168 := n0_; have HO171 := n1_; have HO177 := n2_; have HO180 := n3_; have HO186 := n4_; have HO189 := n5_; have BK145 := n6_; have HB := n7_; clear n0_ n1_ n2_ n3_ n4_ n5_ n6_ n7_; (try clear hb); (try clear hb2); (try clear hk); (try clear hi)))
            go_ret
            exact ⟨by first | rfl | (simp [errW_none, errW_some] <;> rfl) | (simp [*, errW_none, errW_some] <;> rfl), by repeat (first | (with_reducible first | exact HB.out | apply below_alloc | apply pwd | apply bd1 | refine below_set ?_ GE145.out) | exact HB.out)⟩
          ·replace c73 := Bool.eq_false_iff.mpr c73
           subst c73
           have H1 : (some false) = some r := by rw [if_neg (show ¬ (false = true) by decide)] at H; exact H
           clear H
           have H := H1
           clear H1
           obtain rfl := Option.some.inj H
           have hcz155_0 : wc.cell? ⟨gb145, 0, none⟩ = some (.slice A0_0 l0_0.length c0_0) := (blk_cell BK145.out 0).trans rfl
           have hcz155_1 : wc.cell? ⟨gb145, 1, none⟩ = some (.slice A0_1 l0_1.length c0_1) := (blk_cell BK145.out 1).trans rfl
           have hfz155_0 := blk_frozen BK145.out 0
           have hfz155_1 := blk_frozen BK145.out 1
           go_wp2_with (first | ((with_reducible refine gate_callee (f := 17) rfl ?_); refine goesL_ (some 61) rfl rfl Try.func17 (by kernel_rfl) rfl #[.agg #[.slice A0_0 l0_0.length c0_0, .slice A0_1 l0_1.length c0_1]] rfl (by (try simp only [sm]); first | done | rfl | (simp only [List.length_drop, List.length_take]; rfl)) ?_; (with_reducible refine (PA.q8Of.calls _ _ l0_0 _ _ l0_1 t166 t169 _ ?side1 ?side2 ?side3 ?side4 A42.out).mono ?_); (case side1 => repeat (first | exact (Kd.C_below HR0_0.out HB.out) | (with_reducible refine Kd.C_alloc ?_ _) | (with_reducible refine Kd.C_drewN ?_ _) | (with_reducible refine Kd.C_drew ?_))); (case side2 => exact HC0_0.out); (case side3 => repeat (first | exact (Kd.C_below HR0_1.out HB.out) | (with_reducible refine Kd.C_alloc ?_ _) | (with_reducible refine Kd.C_drewN ?_ _) | (with_reducible refine Kd.C_drew ?_))); (case side4 => exact HC0_1.out); rintro e w156 ⟨v167, v170, rfl, ho0, ho1, hb⟩; refine ⟨_, rfl, ?_⟩; have n0_ := As0.mk (Kd.R_lower ho0 (below_size (by repeat (first | (with_reducible first | exact HB.out | apply below_alloc | apply pwd | apply bd1 | refine below_set ?_ GE145.out) | exact HB.out)))); have n1_ := As0.mk (Kd.R_lower ho1 (below_size (by repeat (first | (with_reducible first | exact HB.out | apply below_alloc | apply pwd | apply bd1 | refine below_set ?_ GE145.out) | exact HB.out)))); have n2_ := As0.mk (blk_below (g := gb145) (o := .cells #[.slice A0_0 l0_0.length c0_0, .slice A0_1 l0_1.length c0_1] 24 (0, 0)) (by (with_reducible repeat (first | refine blk_drewN ?_ _ | refine blk_drew ?_ | refine blk_alloc ?_ _)); exact BK145.out) hb); have n3_ := As0.mk (bst (by repeat (first | (with_reducible first | exact HB.out | apply below_alloc | apply pwd | apply bd1 | refine below_set ?_ GE145.out) | exact HB.out)) hb); clear BK145; clear HB; have HO168 := n0_; have HO171 := n1_; have BK145 := n2_; have HB := n3_; clear n0_ n1_ n2_ n3_; (try clear hb); (try clear hb2); (try clear hk); (try clear hi); (try clear ho0); (try clear ho1); obtain ⟨Ao157, co157, eo157⟩ := Kd.R_slice HO168.out; subst eo157; obtain ⟨Ao158, co158, eo158⟩ := Kd.R_slice HO171.out; subst eo158) | ((with_reducible refine gate_callee (f := 38) rfl ?_); refine goesL_ (some 64) rfl rfl Try.func38 (by kernel_rfl) rfl #[.agg #[.slice Ao157 t166.length co157, .slice Ao158 t169.length co158], .int .i64 a1, .int .i64 a2] rfl (by (try simp only [sm]); first | done | rfl | (simp only [List.length_drop, List.length_take]; rfl)) ?_; (with_reducible refine (PF.fixes_Alike.calls kj7 _ _ t166 _ _ t169 a1 a2 false t173 _ ?side1 ?side2 ?side3 ?side4 A43.out).mono ?_); (case side1 => repeat (first | exact (Kd.R_reads' HO168.out).2.2 | (with_reducible refine Kd.C_alloc ?_ _) | (with_reducible refine Kd.C_drewN ?_ _) | (with_reducible refine Kd.C_drew ?_))); (case side2 => exact (Kd.R_reads' HO168.out).2.1); (case side3 => repeat (first | exact (Kd.R_reads' HO171.out).2.2 | (with_reducible refine Kd.C_alloc ?_ _) | (with_reducible refine Kd.C_drewN ?_ _) | (with_reducible refine Kd.C_drew ?_))); (case side4 => exact (Kd.R_reads' HO171.out).2.1); rintro e w159 ⟨rfl, hb⟩; refine ⟨_, rfl, ?_⟩; have n0_ := As0.mk (Kd.R_below (by (with_reducible repeat (first | apply Kd.R_alloc | apply Kd.R_drewN | apply Kd.R_drew)); exact HO168.out) hb); have n1_ := As0.mk (Kd.R_below (by (with_reducible repeat (first | apply Kd.R_alloc | apply Kd.R_drewN | apply Kd.R_drew)); exact HO171.out) hb); have n2_ := As0.mk (blk_below (g := gb145) (o := .cells #[.slice A0_0 l0_0.length c0_0, .slice A0_1 l0_1.length c0_1] 24 (0, 0)) (by (with_reducible repeat (first | refine blk_drewN ?_ _ | refine blk_drew ?_ | refine blk_alloc ?_ _)); exact BK145.out) hb); have n3_ := As0.mk (bst (by repeat (first | (with_reducible first | exact HB.out | apply below_alloc | apply pwd | apply bd1 | refine below_set ?_ GE145.out) | exact HB.out)) hb); clear HO168; clear HO171; clear BK145; clear HB; have HO168 := n0_; have HO171 := n1_; have BK145 := n2_; have HB := n3_; clear n0_ n1_ n2_ n3_; (try clear hb); (try clear hb2); (try clear hk); (try clear hi); have hcz160_0 : w159.cell? ⟨gb145, 0, none⟩ = some (.slice A0_0 l0_0.length c0_0) := (blk_cell BK145.out 0).trans rfl; have hcz160_1 : w159.cell? ⟨gb145, 1, none⟩ = some (.slice A0_1 l0_1.length c0_1) := (blk_cell BK145.out 1).trans rfl; have hfz160_0 := blk_frozen BK145.out 0; have hfz160_1 := blk_frozen BK145.out 1) | ((with_reducible refine gate_callee (f := 17) rfl ?_); refine goesL_ (some 81) rfl rfl Try.func17 (by kernel_rfl) rfl #[.agg #[.slice A0_0 l0_0.length c0_0, .slice A0_1 l0_1.length c0_1]] rfl (by (try simp only [sm]); first | done | rfl | (simp only [List.length_drop, List.length_take]; rfl)) ?_; (with_reducible refine (PA.q8Of.calls _ _ l0_0 _ _ l0_1 t175 t178 _ ?side1 ?side2 ?side3 ?side4 A65.out).mono ?_); (case side1 => repeat (first | exact (Kd.C_below HR0_0.out HB.out) | (with_reducible refine Kd.C_alloc ?_ _) | (with_reducible refine Kd.C_drewN ?_ _) | (with_reducible refine Kd.C_drew ?_))); (case side2 => exact HC0_0.out); (case side3 => repeat (first | exact (Kd.C_below HR0_1.out HB.out) | (with_reducible refine Kd.C_alloc ?_ _) | (with_reducible refine Kd.C_drewN ?_ _) | (with_reducible refine Kd.C_drew ?_))); (case side4 => exact HC0_1.out); rintro e w161 ⟨v176, v179, rfl, ho0, ho1, hb⟩; refine ⟨_, rfl, ?_⟩; have n0_ := As0.mk (Kd.R_mono (Kd.R_told (Kd.R_told (Kd.R_old (by (with_reducible repeat (first | apply Kd.R_alloc | apply Kd.R_drewN | apply Kd.R_drew)); exact HO168.out) hb) (Kd.R_base ho0)) (Kd.R_base ho1)) (fun _ h_ => h_.1)); have n1_ := As0.mk (Kd.R_mono (Kd.R_told (Kd.R_told (Kd.R_old (by (with_reducible repeat (first | apply Kd.R_alloc | apply Kd.R_drewN | apply Kd.R_drew)); exact HO171.out) hb) (Kd.R_base ho0)) (Kd.R_base ho1)) (fun _ h_ => h_.1)); have n2_ := As0.mk (Kd.R_lower (Kd.R_new' (Kd.R_new' ho0 (Kd.R_lt (by (with_reducible repeat (first | apply Kd.R_alloc | apply Kd.R_drewN | apply Kd.R_drew)); exact HO168.out))) (Kd.R_lt (by (with_reducible repeat (first | apply Kd.R_alloc | apply Kd.R_drewN | apply Kd.R_drew)); exact HO171.out))) (below_size (by repeat (first | (with_reducible first | exact HB.out | apply below_alloc | apply pwd | apply bd1 | refine below_set ?_ GE145.out) | exact HB.out)))); have n3_ := As0.mk (Kd.R_lower (Kd.R_new' (Kd.R_new' ho1 (Kd.R_lt (by (with_reducible repeat (first | apply Kd.R_alloc | apply Kd.R_drewN | apply Kd.R_drew)); exact HO168.out))) (Kd.R_lt (by (with_reducible repeat (first | apply Kd.R_alloc | apply Kd.R_drewN | apply Kd.R_drew)); exact HO171.out))) (below_size (by repeat (first | (with_reducible first | exact HB.out | apply below_alloc | apply pwd | apply bd1 | refine below_set ?_ GE145.out) | exact HB.out)))); have n4_ := As0.mk (blk_below (g := gb145) (o := .cells #[.slice A0_0 l0_0.length c0_0, .slice A0_1 l0_1.length c0_1] 24 (0, 0)) (by (with_reducible repeat (first | refine blk_drewN ?_ _ | refine blk_drew ?_ | refine blk_alloc ?_ _)); exact BK145.out) hb); have n5_ := As0.mk (bst (by repeat (first | (with_reducible first | exact HB.out | apply below_alloc | apply pwd | apply bd1 | refine below_set ?_ GE145.out) | exact HB.out)) hb); clear HO168; clear HO171; clear BK145; clear HB; have HO168 := n0_; have HO171 := n1_; have HO177 := n2_; have HO180 := n3_; have BK145 := n4_; have HB := n5_; clear n0_ n1_ n2_ n3_ n4_ n5_; (try clear hb); (try clear hb2); (try clear hk); (try clear hi); (try clear ho0); (try clear ho1); obtain ⟨Ao162, co162, eo162⟩ := Kd.R_slice HO177.out; subst eo162; obtain ⟨Ao163, co163, eo163⟩ := Kd.R_slice HO180.out; subst eo163) | ((with_reducible refine gate_callee (f := 43) rfl ?_); refine goesL_ (some 85) rfl rfl Try.func43 (by kernel_rfl) rfl #[.agg #[.slice Ao162 t175.length co162, .slice Ao163 t178.length co163], .int .i64 a1, .int .i64 a2, .string t152] rfl (by (try simp only [sm]); first | done | rfl | (simp only [List.length_drop, List.length_take]; rfl)) ?_; (with_reducible refine (X.fixes_CheckTell.calls kj7 _ _ t175 _ _ t178 a1 a2 t152 t181 false t183 _ ?side1 ?side2 ?side3 ?side4 A66.out).mono ?_); (case side1 => repeat (first | exact (Kd.R_reads' HO177.out).2.2 | (with_reducible refine Kd.C_alloc ?_ _) | (with_reducible refine Kd.C_drewN ?_ _) | (with_reducible refine Kd.C_drew ?_))); (case side2 => exact (Kd.R_reads' HO177.out).2.1); (case side3 => repeat (first | exact (Kd.R_reads' HO180.out).2.2 | (with_reducible refine Kd.C_alloc ?_ _) | (with_reducible refine Kd.C_drewN ?_ _) | (with_reducible refine Kd.C_drew ?_))); (case side4 => exact (Kd.R_reads' HO180.out).2.1); rintro e w164 ⟨rfl, hb⟩; refine ⟨_, rfl, ?_⟩; have n0_ := As0.mk (Kd.R_below (by (with_reducible repeat (first | apply Kd.R_alloc | apply Kd.R_drewN | apply Kd.R_drew)); exact HO168.out) hb); have n1_ := As0.mk (Kd.R_below (by (with_reducible repeat (first | apply Kd.R_alloc | apply Kd.R_drewN | apply Kd.R_drew)); exact HO171.out) hb); have n2_ := As0.mk (Kd.R_below (by (with_reducible repeat (first | apply Kd.R_alloc | apply Kd.R_drewN | apply Kd.R_drew)); exact HO177.out) hb); have n3_ := As0.mk (Kd.R_below (by (with_reducible repeat (first | apply Kd.R_alloc | apply Kd.R_drewN | apply Kd.R_drew)); exact HO180.out) hb); have n4_ := As0.mk (blk_below (g := gb145) (o := .cells #[.slice A0_0 l0_0.length c0_0, .slice A0_1 l0_1.length c0_1] 24 (0, 0)) (by (with_reducible repeat (first | refine blk_drewN ?_ _ | refine blk_drew ?_ | refine blk_alloc ?_ _)); exact BK145.out) hb); have n5_ := As0.mk (bst (by repeat (first | (with_reducible first | exact HB.out | apply below_alloc | apply pwd | apply bd1 | refine below_set ?_ GE145.out) | exact HB.out)) hb); clear HO168; clear HO171; clear HO177; clear HO180; clear BK145; clear HB; have HO168 := n0_; have HO171 := n1_; have HO177 := n2_; have HO180 := n3_; have BK145 := n4_; have HB := n5_; clear n0_ n1_ n2_ n3_ n4_ n5_; (try clear hb); (try clear hb2); (try clear hk); (try clear hi); have hcz165_0 : w164.cell? ⟨gb145, 0, none⟩ = some (.slice A0_0 l0_0.length c0_0) := (blk_cell BK145.out 0).trans rfl; have hcz165_1 : w164.cell? ⟨gb145, 1, none⟩ = some (.slice A0_1 l0_1.length c0_1) := (blk_cell BK145.out 1).trans rfl; have hfz165_0 := blk_frozen BK145.out 0; have hfz165_1 := blk_frozen BK145.out 1) | ((with_reducible refine gate_callee (f := 17) rfl ?_); refine goesL_ (some 91) rfl rfl Try.func17 (by kernel_rfl) rfl #[.agg #[.slice A0_0 l0_0.length c0_0, .slice A0_1 l0_1.length c0_1]] rfl (by (try simp only [sm]); first | done | rfl | (simp only [List.length_drop, List.length_take]; rfl)) ?_; (with_reducible refine (PA.q8Of.calls _ _ l0_0 _ _ l0_1 t184 t187 _ ?side1 ?side2 ?side3 ?side4 A67.out).mono ?_); (case side1 => repeat (first | exact (Kd.C_below HR0_0.out HB.out) | (with_reducible refine Kd.C_alloc ?_ _) | (with_reducible refine Kd.C_drewN ?_ _) | (with_reducible refine Kd.C_drew ?_))); (case side2 => exact HC0_0.out); (case side3 => repeat (first | exact (Kd.C_below HR0_1.out HB.out) | (with_reducible refine Kd.C_alloc ?_ _) | (with_reducible refine Kd.C_drewN ?_ _) | (with_reducible refine Kd.C_drew ?_))); (case side4 => exact HC0_1.out); rintro e w166 ⟨v185, v188, rfl, ho0, ho1, hb⟩; refine ⟨_, rfl, ?_⟩; have n0_ := As0.mk (Kd.R_mono (Kd.R_told (Kd.R_told (Kd.R_old (by (with_reducible repeat (first | apply Kd.R_alloc | apply Kd.R_drewN | apply Kd.R_drew)); exact HO168.out) hb) (Kd.R_base ho0)) (Kd.R_base ho1)) (fun _ h_ => h_.1)); have n1_ := As0.mk (Kd.R_mono (Kd.R_told (Kd.R_told (Kd.R_old (by (with_reducible repeat (first | apply Kd.R_alloc | apply Kd.R_drewN | apply Kd.R_drew)); exact HO171.out) hb) (Kd.R_base ho0)) (Kd.R_base ho1)) (fun _ h_ => h_.1)); have n2_ := As0.mk (Kd.R_mono (Kd.R_told (Kd.R_told (Kd.R_old (by (with_reducible repeat (first | apply Kd.R_alloc | apply Kd.R_drewN | apply Kd.R_drew)); exact HO177.out) hb) (Kd.R_base ho0)) (Kd.R_base ho1)) (fun _ h_ => h_.1)); have n3_ := As0.mk (Kd.R_mono (Kd.R_told (Kd.R_told (Kd.R_old (by (with_reducible repeat (first | apply Kd.R_alloc | apply Kd.R_drewN | apply Kd.R_drew)); exact HO180.out) hb) (Kd.R_base ho0)) (Kd.R_base ho1)) (fun _ h_ => h_.1)); have n4_ := As0.mk (Kd.R_lower (Kd.R_new' (Kd.R_new' (Kd.R_new' (Kd.R_new' ho0 (Kd.R_lt (by (with_reducible repeat (first | apply Kd.R_alloc | apply Kd.R_drewN | apply Kd.R_drew)); exact HO168.out))) (Kd.R_lt (by (with_reducible repeat (first | apply Kd.R_alloc | apply Kd.R_drewN | apply Kd.R_drew)); exact HO171.out))) (Kd.R_lt (by (with_reducible repeat (first | apply Kd.R_alloc | apply Kd.R_drewN | apply Kd.R_drew)); exact HO177.out))) (Kd.R_lt (by (with_reducible repeat (first | apply Kd.R_alloc | apply Kd.R_drewN | apply Kd.R_drew)); exact HO180.out))) (below_size (by repeat (first | (with_reducible first | exact HB.out | apply below_alloc | apply pwd | apply bd1 | refine below_set ?_ GE145.out) | exact HB.out)))); have n5_ := As0.mk (Kd.R_lower (Kd.R_new' (Kd.R_new' (Kd.R_new' (Kd.R_new' ho1 (Kd.R_lt (by (with_reducible repeat (first | apply Kd.R_alloc | apply Kd.R_drewN | apply Kd.R_drew)); exact HO168.out))) (Kd.R_lt (by (with_reducible repeat (first | apply Kd.R_alloc | apply Kd.R_drewN | apply Kd.R_drew)); exact HO171.out))) (Kd.R_lt (by (with_reducible repeat (first | apply Kd.R_alloc | apply Kd.R_drewN | apply Kd.R_drew)); exact HO177.out))) (Kd.R_lt (by (with_reducible repeat (first | apply Kd.R_alloc | apply Kd.R_drewN | apply Kd.R_drew)); exact HO180.out))) (below_size (by repeat (first | (with_reducible first | exact HB.out | apply below_alloc | apply pwd | apply bd1 | refine below_set ?_ GE145.out) | exact HB.out)))); have n6_ := As0.mk (blk_below (g := gb145) (o := .cells #[.slice A0_0 l0_0.length c0_0, .slice A0_1 l0_1.length c0_1] 24 (0, 0)) (by (with_reducible repeat (first | refine blk_drewN ?_ _ | refine blk_drew ?_ | refine blk_alloc ?_ _)); exact BK145.out) hb); have n7_ := As0.mk (bst (by repeat (first | (with_reducible first | exact HB.out | apply below_alloc | apply pwd | apply bd1 | refine below_set ?_ GE145.out) | exact HB.out)) hb); clear HO168; clear HO171; clear HO177; clear HO180; clear BK145; clear HB; have HO168 := n0_; have HO171 := n1_; have HO177 := n2_; have HO180 := n3_; have HO186 := n4_; have HO189 := n5_; have BK145 := n6_; have HB := n7_; clear n0_ n1_ n2_ n3_ n4_ n5_ n6_ n7_; (try clear hb); (try clear hb2); (try clear hk); (try clear hi); (try clear ho0); (try clear ho1); obtain ⟨Ao167, co167, eo167⟩ := Kd.R_slice HO186.out; subst eo167; obtain ⟨Ao168, co168, eo168⟩ := Kd.R_slice HO189.out; subst eo168) | ((with_reducible refine gate_callee (f := 43) rfl ?_); refine goesL_ (some 95) rfl rfl Try.func43 (by kernel_rfl) rfl #[.agg #[.slice Ao167 t184.length co167, .slice Ao168 t187.length co168], .int .i64 a2, .int .i64 a1, .string t160] rfl (by (try simp only [sm]); first | done | rfl | (simp only [List.length_drop, List.length_take]; rfl)) ?_; (with_reducible refine (X.fixes_CheckTell.calls kj7 _ _ t184 _ _ t187 a2 a1 t160 t190 t191 t192 _ ?side1 ?side2 ?side3 ?side4 A68.out).mono ?_); (case side1 => repeat (first | exact (Kd.R_reads' HO186.out).2.2 | (with_reducible refine Kd.C_alloc ?_ _) | (with_reducible refine Kd.C_drewN ?_ _) | (with_reducible refine Kd.C_drew ?_))); (case side2 => exact (Kd.R_reads' HO186.out).2.1); (case side3 => repeat (first | exact (Kd.R_reads' HO189.out).2.2 | (with_reducible refine Kd.C_alloc ?_ _) | (with_reducible refine Kd.C_drewN ?_ _) | (with_reducible refine Kd.C_drew ?_))); (case side4 => exact (Kd.R_reads' HO189.out).2.1); rintro e w169 ⟨rfl, hb⟩; refine ⟨_, rfl, ?_⟩; have n0_ := As0.mk (Kd.R_below (by (with_reducible repeat (first | apply Kd.R_alloc | apply Kd.R_drewN | apply Kd.R_drew)); exact HO168.out) hb); have n1_ := As0.mk (Kd.R_below (by (with_reducible repeat (first | apply Kd.R_alloc | apply Kd.R_drewN | apply Kd.R_drew)); exact HO171.out) hb); have n2_ := As0.mk (Kd.R_below (by (with_reducible repeat (first | apply Kd.R_alloc | apply Kd.R_drewN | apply Kd.R_drew)); exact HO177.out) hb); have n3_ := As0.mk (Kd.R_below (by (with_reducible repeat (first | apply Kd.R_alloc | apply Kd.R_drewN | apply Kd.R_drew)); exact HO180.out) hb); have n4_ := As0.mk (Kd.R_below (by (with_reducible repeat (first | apply Kd.R_alloc | apply Kd.R_drewN | apply Kd.R_drew)); exact HO186.out) hb); have n5_ := As0.mk (Kd.R_below (by (with_reducible repeat (first | apply Kd.R_alloc | apply Kd.R_drewN | apply Kd.R_drew)); exact HO189.out) hb); have n6_ := As0.mk (blk_below (g := gb145) (o := .cells #[.slice A0_0 l0_0.length c0_0, .slice A0_1 l0_1.length c0_1] 24 (0, 0)) (by (with_reducible repeat (first | refine blk_drewN ?_ _ | refine blk_drew ?_ | refine blk_alloc ?_ _)); exact BK145.out) hb); have n7_ := As0.mk (bst (by repeat (first | (with_reducible first | exact HB.out | apply below_alloc | apply pwd | apply bd1 | refine below_set ?_ GE145.out) | exact HB.out)) hb); clear HO168; clear HO171; clear HO177; clear HO180; clear HO186; clear HO189; clear BK145; clear HB; have HO168 := n0_; have HO171 := n1_; have HO177 := n2_; have HO180 := n3_; have HO186 := n4_; have HO189 := n5_; have BK145 := n6_; have HB := n7_; clear n0_ n1_ n2_ n3_ n4_ n5_ n6_ n7_; (try clear hb); (try clear hb2); (try clear hk); (try clear hi)))
           go_ret
           exact ⟨by first | rfl | (simp [errW_none, errW_some] <;> rfl) | (simp [*, errW_none, errW_some] <;> rfl), by repeat (first | (with_reducible first | exact HB.out | apply below_alloc | apply pwd | apply bd1 | refine below_set ?_ GE145.out) | exact HB.out)⟩
         ·rw [if_neg c72] at H
          exact absurd (Option.some.inj H) (by rw [ht]; decide)
        ·rw [if_neg c71] at H
         exact absurd (Option.some.inj H) (by rw [ht]; decide)
       ·rw [if_neg c70] at H
        exact absurd (Option.some.inj H) (by rw [ht]; decide)
      ·rw [if_neg c69] at H
       exact absurd (Option.some.inj H) (by rw [ht]; decide)
    ·rw [if_neg c44] at H
     exact absurd (Option.some.inj H) (by rw [ht]; decide)
end Go.Proofs.Ytjffhhalmicodaa.PH
end

section
set_option linter.unusedVariables false
set_option linter.unusedSimpArgs false
namespace Go.Proofs.Ytjffhhalmicodaa.L
open Go.RowKit Go.Proofs.G.PrintWords Go.Proofs.G.PrintLast Go.Proofs.G.PrintMore Go.Proofs.Ytjffhhalmicodaa.X Go.Proofs.Ytjffhhalmicodaa.PH Go.Proofs.Ytjffhhalmicodaa.PF Go.Proofs.Ytjffhhalmicodaa.PB
theorem Pure_FixesTold (nx mk : List Int) (a b : Int) : ∃ k, q8FixesTold.f k nx mk a b = some true := by
 apply Evr.ex
 unfold q8FixesTold.f
 simp only [Of_eq, Option.bind_some, State_eq]
 have aw : Evr (fun k => (PB.q8awake.f k).bind fun t138 => some t138) true := Evr.bind awake_ev (Evr.const _)
 have bad : Evr (fun k => q8FixesTold.j0 k a b ⟨#[]⟩ 2 ⟨#[]⟩ 2 true nx mk) true := by
  refine Evr.step (h := fun k => (PB.q8awake.f k).bind fun t => some t) (fun k => ?_) aw
  rw [q8FixesTold.j0, if_pos rfl, if_pos rfl, if_pos rfl]
 by_cases hv : VW nx mk
 ·obtain ⟨e1, e2⟩ := take_of hv
  obtain ⟨K, hK, _, hnc⟩ := lv_last hv
  have h6 := hv.le
  have hl := hK.le hv
  by_cases hst : St nx a ∧ St nx b
  ·obtain ⟨s, rfl, hs⟩ := hst.1.nat
   obtain ⟨t, rfl, ht⟩ := hst.2.nat
   have fin : ∀ (r r' : ByteArray) (e e' : Int), Evr (fun k => q8FixesTold.j0 k (s : Int) (t : Int) r e r' e' false nx mk) true → Evr (fun k => (PB.r8Valid.f k nx mk).bind fun t162 => (if t162 = true then (if decide (St nx (s : Int)) = true then (q8FixesTold.j0 k (s : Int) (t : Int) r e r' e' (!decide (St nx (t : Int))) nx mk) else (q8FixesTold.j0 k (s : Int) (t : Int) r e r' e' true nx mk)) else (q8FixesTold.j0 k (s : Int) (t : Int) r e r' e' true nx mk))) true := by
    intro r r' e e' h
    refine Evr.bind (Valid_ev nx mk) ?_
    simp only [hv, hst.1, hst.2, decide_true, if_true, Bool.not_true]
    exact h
   obtain ⟨k1, q1⟩ := Alike_ev hv hK hs ht
   obtain ⟨k3, q3⟩ := aw
   by_cases hE : E nx mk K s t
   ·rw [e1, e2]
    refine Evr.bind (Tell_same_ev hv hK hs ht hE) (Evr.bind (Tell_same_ev hv hK ht hs hE.symm) (fin _ _ _ _ ?_))
    dsimp only at q1 q3
    refine ⟨k1 + k3 + 2, fun k hk => ?_⟩
    obtain ⟨m, rfl⟩ : ∃ m, k = m + 1 + 1 := ⟨k - 2, by omega⟩
    dsimp only
    have hb : (rd (lv nx mk K) (s : Int) == rd (lv nx mk K) (t : Int)) = true := beq_iff_eq.2 hE
    rw [q8FixesTold.j0, if_neg (by decide), Of_eq, e1, e2]
    simp only [Option.bind_some]
    rw [q1 _ (by omega), hb]
    simp only [Option.bind_some, if_true]
    exact q3 _ (by omega)
   ·obtain ⟨r, e, g1, g2, g3, g4⟩ := Tell_yes_ev hv hK hnc hs ht hE
    obtain ⟨r', e', g1', g2', g3', g4'⟩ := Tell_yes_ev hv hK hnc ht hs (fun q => hE q.symm)
    obtain rfl : e = e' := g1.uniq g1'.symm
    rw [e1, e2]
    refine Evr.bind g3 (Evr.bind g3' (fin _ _ _ _ ?_))
    obtain ⟨k4, q4⟩ := Check_ev hv hs ht r
    obtain ⟨k5, q5⟩ := Check_ev hv ht hs r'
    dsimp only at q1 q3 q4 q5
    refine ⟨k1 + k3 + k4 + k5 + 2, fun k hk => ?_⟩
    obtain ⟨m, rfl⟩ : ∃ m, k = m + 1 + 1 := ⟨k - 2, by omega⟩
    dsimp only
    have hb : (rd (lv nx mk K) (s : Int) == rd (lv nx mk K) (t : Int)) = false := beq_eq_false_iff_ne.2 hE
    rw [q8FixesTold.j0, if_neg (by decide), Of_eq, e1, e2]
    simp only [Option.bind_some]
    rw [q1 _ (by omega), hb]
    simp only [Option.bind_some, Bool.false_eq_true, if_false, if_true]
    rw [q4 _ (by omega), g4]
    simp only [Option.bind_some]
    rw [q5 _ (by omega), g4']
    simp only [Option.bind_some, if_true]
    rw [if_pos (by omega), if_pos (by omega)]
    exact q3 _ (by omega)
  ·rw [e1, e2]
   refine Evr.bind (Evr.of_all (Tell_off_ev hv hst)) (Evr.bind (Evr.of_all (Tell_off_ev hv (fun q => hst ⟨q.2, q.1⟩))) (Evr.bind (Valid_ev nx mk) ?_))
   simp only [hv, decide_true, if_true]
   by_cases h1 : St nx a
   ·have h2 : ¬ St nx b := fun q => hst ⟨h1, q⟩
    simp only [h1, h2, decide_true, decide_false, if_true, Bool.not_false]
    exact bad
   ·simp only [h1, decide_false, Bool.false_eq_true, if_false]
    exact bad
 ·have hv' := vw_no hv
  refine Evr.bind (Evr.of_all (Tell_bad hv' a b)) (Evr.bind (Evr.of_all (Tell_bad hv' b a)) (Evr.bind (Valid_ev nx mk) ?_))
  simp only [hv, decide_false, Bool.false_eq_true, if_false]
  exact bad
end Go.Proofs.Ytjffhhalmicodaa.L
end
