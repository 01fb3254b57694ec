import Derived.Test.YtjffhhalmicodaaB
import Derived.WalkSpells
namespace Go.Proofs.Ytjffhhalmicodaa.X
open Go.RowKit Go.Proofs.YtjffhhalmicodaaW.PrintWords Go.Proofs.YtjffhhalmicodaaW.PrintLast Go.Proofs.YtjffhhalmicodaaW.PrintMore

theorem info3 : (Try.prog.info? 3).map (fun i => (i.zero, i.size, i.bytes)) = some (some (.int .i64 0), 1, 8) := by kernel_rfl

theorem R_none_lit (w : World) : Kd.R (Kd.int .i64) 3 (w.alloc (.cells #[] 3)) w.heap.size (fun _ => True) (.slice (some ⟨w.heap.size, 0, none⟩) 0 0) [] :=
  ⟨fun _ _ => trivial, OwnRow.lit (ps := ([] : List Int)) (inner := []) w w.heap.size (Reps.none _ _) (Nat.le_refl _) (by simp)⟩

def slices_Clone.f (l : List Int) : Option (List Int) := if l.length < 17592186044416 then some l else none

set_option maxHeartbeats 1000000 in
theorem slices_Clone.calls (A0 : Option Addr) (c0 : Nat) (l0 : List Int) (r : List Int) (w : World) (hr0 : Kd.C (Kd.int .i64) w A0 l0.length l0) (_hc0 : l0.length ≤ c0) (h : slices_Clone.f l0 = some r) :
    Calls Try.prog 74 #[.slice A0 l0.length c0] w fun e w' => ∃ v0_ : Value, e = .returned (v0_) ∧ Kd.R (Kd.int .i64) 3 w' w.heap.size (fun _ => True) v0_ r ∧ Below w.heap.size w w' := by
  unfold slices_Clone.f at h
  split at h
  · rename_i hl
    obtain rfl := Option.some.inj h
    clear h
    cases A0 with
    | none =>
      have hn : l0 = [] := by
        cases l0 with
        | nil => rfl
        | cons a l =>
          obtain ⟨ad, e, _⟩ := Kd.at_int hr0 0 (by omega) (by simp)
          cases e
      subst hn
      have hx := fun w : World => Lib.run_eql_slice_nil (P := Try.prog) w 22 3 none 0 c0 0 0 Try.underlying22
      clear hr0
      go_enter Try.func74, Try.ntmps74
      go_wp2
      go_ret
      exact ⟨_, rfl, Kd.R_nil _ _ _ _ _, Below.refl _ _⟩
    | some ad =>
      have hx := fun w : World => Lib.run_eql_slice_nil (P := Try.prog) w 22 3 (some ad) l0.length c0 0 0 Try.underlying22
      have HR := Lib.hid hr0; clear hr0
      go_enter Try.func74, Try.ntmps74
      go_wp2_with (first | (at_builtin; refine Kd.R_append_row (Value.int .i64) 0 (h1 := fun _ => rfl) (w0 := w) w.heap.size rfl (.tmp 5) (.tmp 6) 22 3 (.int .i64 0) 8 rfl Try.underlying22 info3 rfl (by decide) (.slice (some ⟨w.heap.size, 0, none⟩) 0 0) [] l0 (some ad) l0.length c0 (fun _ => True) rfl rfl (fun _ _ => trivial) (R_none_lit w) (Kd.C_below HR.out (below_alloc (Below.refl _ _) _)) (below_alloc (Below.refl _ _) _) (by simp) (by simp; omega) ?_; intro v1 w1 hv hb hg _; have HV := Lib.hid hv; clear hv))
      go_ret
      exact ⟨_, rfl, HV.out, hb⟩
  · simp at h
end Go.Proofs.Ytjffhhalmicodaa.X
