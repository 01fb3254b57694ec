import Derived.Test.YtjffhhalmicodaaXl
import Derived.Test.YtjffhhalmicodaaXd
set_option linter.unusedVariables false
set_option linter.unusedSimpArgs false
namespace Go.Proofs.Ytjffhhalmicodaa.X
open Go.RowKit Go.Proofs.YtjffhhalmicodaaW.PrintWords Go.Proofs.YtjffhhalmicodaaW.PrintLast Go.Proofs.YtjffhhalmicodaaW.PrintMore

/-- all cells read as before -/
def Cells (w w' : World) : Prop := ∀ a v, w.cell? a = some v → w'.cell? a = some v
theorem Cells.refl (w : World) : Cells w w := fun _ _ h => h
theorem Cells.trans {a b c : World} (h : Cells a b) (k : Cells b c) : Cells a c := fun p v hc => k p v (h p v hc)
theorem Cells.of_below {w w' : World} (h : Below w.heap.size w w') : Cells w w' := fun _ _ hc => pw_cell_below h hc
theorem Cells.of_map {w w' : World} {r : Nat} {es clock} (hm : w.heap[r]? = some (.map es clock)) (hk : KeepBut w w' r none) : Cells w w' := by
  intro a v hc
  refine keep_cell hk hc (fun e => ?_)
  unfold World.cell? at hc
  rw [e, hm] at hc
  cases hc
theorem Cells.same {ok : Nat → Prop} {w w' : World} (h : Cells w w') : SameBut ok w w' := fun a v _ hc _ => h a v hc
theorem Cells.ints {k : IntKind} {w w' : World} {A : Option Addr} {n : Nat} {xs : List Int} (hc : Cells w w') (h : (Kd.int k).C w A n xs) : (Kd.int k).C w' A n xs := by
  obtain ⟨h1, h2, h3⟩ := h
  refine ⟨h1, h2, fun hn => ?_⟩
  obtain ⟨ad, e, h4⟩ := h3 hn
  refine ⟨ad, e, fun j p hj => ?_⟩
  obtain ⟨c, hs, hR, hcell⟩ := h4 j p hj
  exact ⟨c, hs, hR, fun i u hu => hc _ _ (hcell i u hu)⟩

/-- a mark of a state -/
def markOf (mk : List Int) (k : Nat) (s : Nat) : Int := bits .and .i64 (rd mk s / 2 ^ min k 64) 1

set_option maxHeartbeats 1000000 in
theorem H1_calls (bw bf gn b off n c0 s k : Nat) (x : Int) (W : World) (hw : W.cell? ⟨bw, 1, none⟩ = some (.slice (some ⟨b, off, none⟩) n c0)) (hf : W.cell? ⟨bf, 0, none⟩ = some (.pointer (some ⟨gn, 0, none⟩))) (hm : W.cell? ⟨gn, 1, none⟩ = some (.int .i64 k))
    (hsn : s < n) (hn : n ≤ 9223372036854775807) (hx : W.cell? ⟨b, off + s, none⟩ = some (.int .i64 x)) :
    Calls Try.prog 69 #[.int .i64 s, .pointer (some ⟨bw, 0, none⟩), .pointer (some ⟨bf, 0, none⟩)] W fun e w' => e = .returned (.bool (bits .and .i64 (x / 2 ^ min k 64) 1 == 1)) ∧ ∃ q, w' = W.drewN q := by
  have hu := Try.underlying28
  have hu2 := Try.underlying74
  have h1 : (s : Int) < (n : Int) := by omega
  go_enter Try.func69, Try.ntmps69
  go_wp2_with fail
  go_quiet (fail)
  go_wp2
  go_ret
  exact ⟨rfl, _, rfl⟩
set_option maxHeartbeats 1000000 in
theorem H2_calls (bw bf gn b off n c0 s k : Nat) (x : Int) (W : World) (hw : W.cell? ⟨bw, 1, none⟩ = some (.slice (some ⟨b, off, none⟩) n c0)) (hf : W.cell? ⟨bf, 0, none⟩ = some (.pointer (some ⟨gn, 0, none⟩))) (hm : W.cell? ⟨gn, 1, none⟩ = some (.int .i64 k))
    (hsn : s < n) (hn : n ≤ 9223372036854775807) (hx : W.cell? ⟨b, off + s, none⟩ = some (.int .i64 x)) :
    Calls Try.prog 70 #[.int .i64 s, .pointer (some ⟨bw, 0, none⟩), .pointer (some ⟨bf, 0, none⟩)] W fun e w' => e = .returned (.bool (bits .and .i64 (x / 2 ^ min k 64) 1 == 0)) ∧ ∃ q, w' = W.drewN q := by
  have hu := Try.underlying28
  have hu2 := Try.underlying74
  have h1 : (s : Int) < (n : Int) := by omega
  go_enter Try.func70, Try.ntmps70
  go_wp2_with fail
  go_quiet (fail)
  go_wp2
  go_ret
  exact ⟨rfl, _, rfl⟩
set_option maxHeartbeats 1000000 in
theorem H3_calls (bw bs b off n c0 s : Nat) (x set : Int) (W : World) (hw : W.cell? ⟨bw, 0, none⟩ = some (.slice (some ⟨b, off, none⟩) n c0)) (hs : W.cell? ⟨bs, 0, none⟩ = some (.int .i64 set))
    (hsn : s < n) (hn : n ≤ 9223372036854775807) (hx : W.cell? ⟨b, off + s, none⟩ = some (.int .i64 x)) :
    Calls Try.prog 72 #[.int .i64 s, .pointer (some ⟨bw, 0, none⟩), .pointer (some ⟨bs, 0, none⟩)] W fun e w' => e = .returned (.bool (bits .and .i64 x set != 0)) ∧ ∃ q, w' = W.drewN q := by
  have hu := Try.underlying28
  have h1 : (s : Int) < (n : Int) := by omega
  go_enter Try.func72, Try.ntmps72
  go_wp2_with fail
  go_quiet (fail)
  go_wp2
  go_ret
  exact ⟨rfl, _, rfl⟩

set_option maxHeartbeats 1000000 in
theorem H4_calls (bw bs b off n c0 s : Nat) (x set : Int) (W : World) (hw : W.cell? ⟨bw, 0, none⟩ = some (.slice (some ⟨b, off, none⟩) n c0)) (hs : W.cell? ⟨bs, 0, none⟩ = some (.int .i64 set))
    (hsn : s < n) (hn : n ≤ 9223372036854775807) (hx : W.cell? ⟨b, off + s, none⟩ = some (.int .i64 x)) :
    Calls Try.prog 73 #[.int .i64 s, .pointer (some ⟨bw, 0, none⟩), .pointer (some ⟨bs, 0, none⟩)] W fun e w' => e = .returned (.bool (bits .andNot .i64 x set == 0)) ∧ ∃ q, w' = W.drewN q := by
  have hu := Try.underlying28
  have h1 : (s : Int) < (n : Int) := by omega
  go_enter Try.func73, Try.ntmps73
  go_wp2_with fail
  go_quiet (fail)
  go_wp2
  go_ret
  exact ⟨rfl, _, rfl⟩

theorem pred_h1 (w : World) (bw bf gn : Nat) (A1 : Option Addr) (c1 k n : Nat) (mk : List Int) (hr : Kd.C (Kd.int .i64) w A1 mk.length mk) (hn : n = mk.length) (hw : w.cell? ⟨bw, 1, none⟩ = some (.slice A1 mk.length c1)) (hf : w.cell? ⟨bf, 0, none⟩ = some (.pointer (some ⟨gn, 0, none⟩))) (hm : w.cell? ⟨gn, 1, none⟩ = some (.int .i64 k)) :
    Pred w 69 #[.pointer (some ⟨bw, 0, none⟩), .pointer (some ⟨bf, 0, none⟩)] n (fun s => markOf mk k s == 1) := by
  intro W s hsn hb
  subst hn
  obtain ⟨b, off, rfl, hlt, hc⟩ := ints_at hr (by omega)
  have k1 := pw_cell_below hb hw
  have k2 := pw_cell_below hb hf
  have k3 := pw_cell_below hb hm
  have k4 := pw_cell_below hb (hc s hsn)
  exact (H1_calls bw bf gn b off mk.length c1 s k (rd mk s) W k1 k2 k3 hsn hr.2.1 k4).mono fun e w' ⟨he, q, hq⟩ => ⟨he, hq ▸ pw_below_drewN (Below.refl _ _) q⟩

theorem pred_h2 (w : World) (bw bf gn : Nat) (A1 : Option Addr) (c1 k n : Nat) (mk : List Int) (hr : Kd.C (Kd.int .i64) w A1 mk.length mk) (hn : n = mk.length) (hw : w.cell? ⟨bw, 1, none⟩ = some (.slice A1 mk.length c1)) (hf : w.cell? ⟨bf, 0, none⟩ = some (.pointer (some ⟨gn, 0, none⟩))) (hm : w.cell? ⟨gn, 1, none⟩ = some (.int .i64 k)) :
    Pred w 70 #[.pointer (some ⟨bw, 0, none⟩), .pointer (some ⟨bf, 0, none⟩)] n (fun s => markOf mk k s == 0) := by
  intro W s hsn hb
  subst hn
  obtain ⟨b, off, rfl, hlt, hc⟩ := ints_at hr (by omega)
  have k1 := pw_cell_below hb hw
  have k2 := pw_cell_below hb hf
  have k3 := pw_cell_below hb hm
  have k4 := pw_cell_below hb (hc s hsn)
  exact (H2_calls bw bf gn b off mk.length c1 s k (rd mk s) W k1 k2 k3 hsn hr.2.1 k4).mono fun e w' ⟨he, q, hq⟩ => ⟨he, hq ▸ pw_below_drewN (Below.refl _ _) q⟩

theorem pred_h3 (w : World) (bw bs : Nat) (A0 : Option Addr) (c0 : Nat) (nx : List Int) (set : Int) (hr : Kd.C (Kd.int .i64) w A0 nx.length nx) (hw : w.cell? ⟨bw, 0, none⟩ = some (.slice A0 nx.length c0)) (hs : w.cell? ⟨bs, 0, none⟩ = some (.int .i64 set)) :
    Pred w 72 #[.pointer (some ⟨bw, 0, none⟩), .pointer (some ⟨bs, 0, none⟩)] nx.length (fun s => bits .and .i64 (rd nx s) set != 0) := by
  intro W s hsn hb
  obtain ⟨b, off, rfl, hlt, hc⟩ := ints_at hr (by omega)
  have k1 := pw_cell_below hb hw
  have k2 := pw_cell_below hb hs
  have k3 := pw_cell_below hb (hc s hsn)
  exact (H3_calls bw bs b off nx.length c0 s (rd nx s) set W k1 k2 hsn hr.2.1 k3).mono fun e w' ⟨he, q, hq⟩ => ⟨he, hq ▸ pw_below_drewN (Below.refl _ _) q⟩

theorem pred_h4 (w : World) (bw bs : Nat) (A0 : Option Addr) (c0 : Nat) (nx : List Int) (set : Int) (hr : Kd.C (Kd.int .i64) w A0 nx.length nx) (hw : w.cell? ⟨bw, 0, none⟩ = some (.slice A0 nx.length c0)) (hs : w.cell? ⟨bs, 0, none⟩ = some (.int .i64 set)) :
    Pred w 73 #[.pointer (some ⟨bw, 0, none⟩), .pointer (some ⟨bs, 0, none⟩)] nx.length (fun s => bits .andNot .i64 (rd nx s) set == 0) := by
  intro W s hsn hb
  obtain ⟨b, off, rfl, hlt, hc⟩ := ints_at hr (by omega)
  have k1 := pw_cell_below hb hw
  have k2 := pw_cell_below hb hs
  have k3 := pw_cell_below hb (hc s hsn)
  exact (H4_calls bw bs b off nx.length c0 s (rd nx s) set W k1 k2 hsn hr.2.1 k3).mono fun e w' ⟨he, q, hq⟩ => ⟨he, hq ▸ pw_below_drewN (Below.refl _ _) q⟩

end Go.Proofs.Ytjffhhalmicodaa.X
