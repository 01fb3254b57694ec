/- Texts of this claim, merged by a program (wip/tools/shake.py); what nothing names is left out. -/
import Derived.KernelRfl
import Derived.Test.YtpfenoioeajkmaaDoorSma
section
namespace Go.Proofs.YtpfenoioeajkmaaDoor.PB
open Go.RowKit Go.Proofs.YtpfenoioeajkmaaDoorW.PrintWords Go.Proofs.YtpfenoioeajkmaaDoorW.PrintLast Go.Proofs.YtpfenoioeajkmaaDoorW.PrintMore
attribute [local go_sem] max2_int min2_int max_two min_two max_three min_three max_four min_four
set_option linter.unusedVariables false
set_option linter.unusedSimpArgs false
def moulds_Mirror.f (a0 : ByteArray) : Option (ByteArray × Int) := (Go.Proofs.YtpfenoioeajkmaaDoor.X.moulds_Is.f a0).bind fun t129 => (if t129 = true then ((Go.Proofs.YtpfenoioeajkmaaDoor.X.moulds_exchanged.f a0 (⟨#[114, 117, 108, 100]⟩ : ByteArray) (⟨#[108, 117, 114, 100]⟩ : ByteArray)).bind fun t130 => ((Go.Proofs.YtpfenoioeajkmaaDoor.X.moulds_back.f t130).bind fun t131 => ((Go.Proofs.YtpfenoioeajkmaaDoor.X.moulds_first.f t131).bind fun t132 => (some (t132, 0))))) else (some ((⟨#[]⟩ : ByteArray), 2)))
set_option maxHeartbeats 8000000 in
set_option maxRecDepth 100000 in
theorem moulds_Mirror.calls (a0 : ByteArray) (r1 : ByteArray) (r2 : Int) (w : World) (h : moulds_Mirror.f a0 = some (r1, r2)) :
    Calls Tryd.prog 26 #[.string a0] w fun e w' => e = .returned (.tuple #[.string r1, .int .i64 r2]) ∧ Below w.heap.size w w' := by
  have HB := Aside0.mk (Below.refl w.heap.size w)
  have H : ((Go.Proofs.YtpfenoioeajkmaaDoor.X.moulds_Is.f a0).bind fun t129 => (if t129 = true then ((Go.Proofs.YtpfenoioeajkmaaDoor.X.moulds_exchanged.f a0 (⟨#[114, 117, 108, 100]⟩ : ByteArray) (⟨#[108, 117, 114, 100]⟩ : ByteArray)).bind fun t130 => ((Go.Proofs.YtpfenoioeajkmaaDoor.X.moulds_back.f t130).bind fun t131 => ((Go.Proofs.YtpfenoioeajkmaaDoor.X.moulds_first.f t131).bind fun t132 => (some (t132, 0))))) else (some ((⟨#[]⟩ : ByteArray), 2)))) = some (r1, r2) := h
  clear h
  replace H := Option.bind_eq_some_iff.mp H
  obtain ⟨t129, A20, H⟩ := H
  replace H : (if t129 = true then ((Go.Proofs.YtpfenoioeajkmaaDoor.X.moulds_exchanged.f a0 (⟨#[114, 117, 108, 100]⟩ : ByteArray) (⟨#[108, 117, 114, 100]⟩ : ByteArray)).bind fun t130 => ((Go.Proofs.YtpfenoioeajkmaaDoor.X.moulds_back.f t130).bind fun t131 => ((Go.Proofs.YtpfenoioeajkmaaDoor.X.moulds_first.f t131).bind fun t132 => (some (t132, 0))))) else (some ((⟨#[]⟩ : ByteArray), 2))) = some (r1, r2) := H
  have A2 := Aside0.mk A20
  clear A20
  by_cases c3 : t129 = true
  · subst c3
    have H1 : ((Go.Proofs.YtpfenoioeajkmaaDoor.X.moulds_exchanged.f a0 (⟨#[114, 117, 108, 100]⟩ : ByteArray) (⟨#[108, 117, 114, 100]⟩ : ByteArray)).bind fun t130 => ((Go.Proofs.YtpfenoioeajkmaaDoor.X.moulds_back.f t130).bind fun t131 => ((Go.Proofs.YtpfenoioeajkmaaDoor.X.moulds_first.f t131).bind fun t132 => (some (t132, 0))))) = some (r1, r2) := by rw [if_pos rfl] at H; exact H
    clear H
    have H := H1
    clear H1
    replace H := Option.bind_eq_some_iff.mp H
    obtain ⟨t130, A40, H⟩ := H
    replace H : ((Go.Proofs.YtpfenoioeajkmaaDoor.X.moulds_back.f t130).bind fun t131 => ((Go.Proofs.YtpfenoioeajkmaaDoor.X.moulds_first.f t131).bind fun t132 => (some (t132, 0)))) = some (r1, r2) := H
    have A4 := Aside0.mk A40
    clear A40
    replace H := Option.bind_eq_some_iff.mp H
    obtain ⟨t131, A50, H⟩ := H
    replace H : ((Go.Proofs.YtpfenoioeajkmaaDoor.X.moulds_first.f t131).bind fun t132 => (some (t132, 0))) = some (r1, r2) := H
    have A5 := Aside0.mk A50
    clear A50
    replace H := Option.bind_eq_some_iff.mp H
    obtain ⟨t132, A60, H⟩ := H
    replace H : (some (t132, 0)) = some (r1, r2) := H
    have A6 := Aside0.mk A60
    clear A60
    simp only [Option.some.injEq, Prod.mk.injEq] at H
    obtain ⟨rfl, rfl⟩ := H
    go_enter Tryd.func26, Tryd.ntmps26
    go_wp2_with (first | ((with_reducible refine gate_callee (f := 49) rfl ?_); refine goesL_ (some 5) rfl rfl Tryd.func49 (by kernel_rfl) rfl #[.string a0] rfl (by (try simp only [List.map_toArray, List.map_cons, List.map_nil]); first | done | rfl | (simp only [List.length_drop, List.length_take]; rfl)) ?_; (with_reducible refine (Go.Proofs.YtpfenoioeajkmaaDoor.X.moulds_Is.calls a0 true _ A2.out).mono ?_); rintro e w7 ⟨rfl, hb⟩; refine ⟨_, rfl, ?_⟩; have n0_ := Aside0.mk (below_step (by repeat (first | (with_reducible first | exact HB.out | apply below_alloc | apply pw_below_drewN | apply below_drew1) | exact HB.out)) hb); clear HB; have HB := n0_; clear n0_; (try clear hb); (try clear hb2); (try clear hk); (try clear hi)) | ((with_reducible refine gate_callee (f := 57) rfl ?_); refine goesL_ (some 8) rfl rfl Tryd.func57 (by kernel_rfl) rfl #[.string a0, .string (⟨#[114, 117, 108, 100]⟩ : ByteArray), .string (⟨#[108, 117, 114, 100]⟩ : ByteArray)] rfl (by (try simp only [List.map_toArray, List.map_cons, List.map_nil]); first | done | rfl | (simp only [List.length_drop, List.length_take]; rfl)) ?_; (with_reducible refine (Go.Proofs.YtpfenoioeajkmaaDoor.X.moulds_exchanged.calls a0 (⟨#[114, 117, 108, 100]⟩ : ByteArray) (⟨#[108, 117, 114, 100]⟩ : ByteArray) t130 _ A4.out).mono ?_); rintro e w8 ⟨rfl, hb⟩; refine ⟨_, rfl, ?_⟩; have n0_ := Aside0.mk (below_step (by repeat (first | (with_reducible first | exact HB.out | apply below_alloc | apply pw_below_drewN | apply below_drew1) | exact HB.out)) hb); clear HB; have HB := n0_; clear n0_; (try clear hb); (try clear hb2); (try clear hk); (try clear hi)) | ((with_reducible refine gate_callee (f := 53) rfl ?_); refine goesL_ (some 9) rfl rfl Tryd.func53 (by kernel_rfl) rfl #[.string t130] rfl (by (try simp only [List.map_toArray, List.map_cons, List.map_nil]); first | done | rfl | (simp only [List.length_drop, List.length_take]; rfl)) ?_; (with_reducible refine (Go.Proofs.YtpfenoioeajkmaaDoor.X.moulds_back.calls t130 t131 _ A5.out).mono ?_); rintro e w9 ⟨rfl, hb⟩; refine ⟨_, rfl, ?_⟩; have n0_ := Aside0.mk (below_step (by repeat (first | (with_reducible first | exact HB.out | apply below_alloc | apply pw_below_drewN | apply below_drew1) | exact HB.out)) hb); clear HB; have HB := n0_; clear n0_; (try clear hb); (try clear hb2); (try clear hk); (try clear hi)) | ((with_reducible refine gate_callee (f := 55) rfl ?_); refine goesL_ (some 10) rfl rfl Tryd.func55 (by kernel_rfl) rfl #[.string t131] rfl (by (try simp only [List.map_toArray, List.map_cons, List.map_nil]); first | done | rfl | (simp only [List.length_drop, List.length_take]; rfl)) ?_; (with_reducible refine (Go.Proofs.YtpfenoioeajkmaaDoor.X.moulds_first.calls t131 t132 _ A6.out).mono ?_); rintro e w10 ⟨rfl, hb⟩; refine ⟨_, rfl, ?_⟩; have n0_ := Aside0.mk (below_step (by repeat (first | (with_reducible first | exact HB.out | apply below_alloc | apply pw_below_drewN | apply below_drew1) | exact HB.out)) hb); clear HB; have HB := n0_; clear n0_; (try clear hb); (try clear hb2); (try clear hk); (try clear hi)))
    go_ret2
    exact ⟨by first | rfl | (simp [errW_none, errW_some] <;> rfl) | (simp [*, errW_none, errW_some] <;> rfl), by repeat (first | (with_reducible first | exact HB.out | apply below_alloc | apply pw_below_drewN | apply below_drew1) | exact HB.out)⟩
  · replace c3 := Bool.eq_false_iff.mpr c3
    subst c3
    have H1 : (some ((⟨#[]⟩ : ByteArray), 2)) = some (r1, r2) := by rw [if_neg (show ¬ (false = true) by decide)] at H; exact H
    clear H
    have H := H1
    clear H1
    simp only [Option.some.injEq, Prod.mk.injEq] at H
    obtain ⟨rfl, rfl⟩ := H
    go_enter Tryd.func26, Tryd.ntmps26
    go_wp2_with (first | ((with_reducible refine gate_callee (f := 49) rfl ?_); refine goesL_ (some 5) rfl rfl Tryd.func49 (by kernel_rfl) rfl #[.string a0] rfl (by (try simp only [List.map_toArray, List.map_cons, List.map_nil]); first | done | rfl | (simp only [List.length_drop, List.length_take]; rfl)) ?_; (with_reducible refine (Go.Proofs.YtpfenoioeajkmaaDoor.X.moulds_Is.calls a0 false _ A2.out).mono ?_); rintro e w11 ⟨rfl, hb⟩; refine ⟨_, rfl, ?_⟩; have n0_ := Aside0.mk (below_step (by repeat (first | (with_reducible first | exact HB.out | apply below_alloc | apply pw_below_drewN | apply below_drew1) | exact HB.out)) hb); clear HB; have HB := n0_; clear n0_; (try clear hb); (try clear hb2); (try clear hk); (try clear hi)))
    go_ret2
    exact ⟨by first | rfl | (simp [errW_none, errW_some] <;> rfl) | (simp [*, errW_none, errW_some] <;> rfl), by repeat (first | (with_reducible first | exact HB.out | apply below_alloc | apply pw_below_drewN | apply below_drew1) | exact HB.out)⟩
def moulds_Quarter.f (a0 : ByteArray) : Option (ByteArray × Int) := (Go.Proofs.YtpfenoioeajkmaaDoor.X.moulds_Is.f a0).bind fun t133 => (if t133 = true then ((Go.Proofs.YtpfenoioeajkmaaDoor.X.moulds_exchanged.f a0 (⟨#[114, 117, 108, 100]⟩ : ByteArray) (⟨#[117, 108, 100, 114]⟩ : ByteArray)).bind fun t134 => ((Go.Proofs.YtpfenoioeajkmaaDoor.X.moulds_first.f t134).bind fun t135 => (some (t135, 0)))) else (some ((⟨#[]⟩ : ByteArray), 2)))
set_option maxHeartbeats 8000000 in
set_option maxRecDepth 100000 in
theorem moulds_Quarter.calls (a0 : ByteArray) (r1 : ByteArray) (r2 : Int) (w : World) (h : moulds_Quarter.f a0 = some (r1, r2)) :
    Calls Tryd.prog 27 #[.string a0] w fun e w' => e = .returned (.tuple #[.string r1, .int .i64 r2]) ∧ Below w.heap.size w w' := by
  have HB := Aside0.mk (Below.refl w.heap.size w)
  have H : ((Go.Proofs.YtpfenoioeajkmaaDoor.X.moulds_Is.f a0).bind fun t133 => (if t133 = true then ((Go.Proofs.YtpfenoioeajkmaaDoor.X.moulds_exchanged.f a0 (⟨#[114, 117, 108, 100]⟩ : ByteArray) (⟨#[117, 108, 100, 114]⟩ : ByteArray)).bind fun t134 => ((Go.Proofs.YtpfenoioeajkmaaDoor.X.moulds_first.f t134).bind fun t135 => (some (t135, 0)))) else (some ((⟨#[]⟩ : ByteArray), 2)))) = some (r1, r2) := h
  clear h
  replace H := Option.bind_eq_some_iff.mp H
  obtain ⟨t133, A20, H⟩ := H
  replace H : (if t133 = true then ((Go.Proofs.YtpfenoioeajkmaaDoor.X.moulds_exchanged.f a0 (⟨#[114, 117, 108, 100]⟩ : ByteArray) (⟨#[117, 108, 100, 114]⟩ : ByteArray)).bind fun t134 => ((Go.Proofs.YtpfenoioeajkmaaDoor.X.moulds_first.f t134).bind fun t135 => (some (t135, 0)))) else (some ((⟨#[]⟩ : ByteArray), 2))) = some (r1, r2) := H
  have A2 := Aside0.mk A20
  clear A20
  by_cases c3 : t133 = true
  · subst c3
    have H1 : ((Go.Proofs.YtpfenoioeajkmaaDoor.X.moulds_exchanged.f a0 (⟨#[114, 117, 108, 100]⟩ : ByteArray) (⟨#[117, 108, 100, 114]⟩ : ByteArray)).bind fun t134 => ((Go.Proofs.YtpfenoioeajkmaaDoor.X.moulds_first.f t134).bind fun t135 => (some (t135, 0)))) = some (r1, r2) := by rw [if_pos rfl] at H; exact H
    clear H
    have H := H1
    clear H1
    replace H := Option.bind_eq_some_iff.mp H
    obtain ⟨t134, A40, H⟩ := H
    replace H : ((Go.Proofs.YtpfenoioeajkmaaDoor.X.moulds_first.f t134).bind fun t135 => (some (t135, 0))) = some (r1, r2) := H
    have A4 := Aside0.mk A40
    clear A40
    replace H := Option.bind_eq_some_iff.mp H
    obtain ⟨t135, A50, H⟩ := H
    replace H : (some (t135, 0)) = some (r1, r2) := H
    have A5 := Aside0.mk A50
    clear A50
    simp only [Option.some.injEq, Prod.mk.injEq] at H
    obtain ⟨rfl, rfl⟩ := H
    go_enter Tryd.func27, Tryd.ntmps27
    go_wp2_with (first | ((with_reducible refine gate_callee (f := 49) rfl ?_); refine goesL_ (some 5) rfl rfl Tryd.func49 (by kernel_rfl) rfl #[.string a0] rfl (by (try simp only [List.map_toArray, List.map_cons, List.map_nil]); first | done | rfl | (simp only [List.length_drop, List.length_take]; rfl)) ?_; (with_reducible refine (Go.Proofs.YtpfenoioeajkmaaDoor.X.moulds_Is.calls a0 true _ A2.out).mono ?_); rintro e w6 ⟨rfl, hb⟩; refine ⟨_, rfl, ?_⟩; have n0_ := Aside0.mk (below_step (by repeat (first | (with_reducible first | exact HB.out | apply below_alloc | apply pw_below_drewN | apply below_drew1) | exact HB.out)) hb); clear HB; have HB := n0_; clear n0_; (try clear hb); (try clear hb2); (try clear hk); (try clear hi)) | ((with_reducible refine gate_callee (f := 57) rfl ?_); refine goesL_ (some 8) rfl rfl Tryd.func57 (by kernel_rfl) rfl #[.string a0, .string (⟨#[114, 117, 108, 100]⟩ : ByteArray), .string (⟨#[117, 108, 100, 114]⟩ : ByteArray)] rfl (by (try simp only [List.map_toArray, List.map_cons, List.map_nil]); first | done | rfl | (simp only [List.length_drop, List.length_take]; rfl)) ?_; (with_reducible refine (Go.Proofs.YtpfenoioeajkmaaDoor.X.moulds_exchanged.calls a0 (⟨#[114, 117, 108, 100]⟩ : ByteArray) (⟨#[117, 108, 100, 114]⟩ : ByteArray) t134 _ A4.out).mono ?_); rintro e w7 ⟨rfl, hb⟩; refine ⟨_, rfl, ?_⟩; have n0_ := Aside0.mk (below_step (by repeat (first | (with_reducible first | exact HB.out | apply below_alloc | apply pw_below_drewN | apply below_drew1) | exact HB.out)) hb); clear HB; have HB := n0_; clear n0_; (try clear hb); (try clear hb2); (try clear hk); (try clear hi)) | ((with_reducible refine gate_callee (f := 55) rfl ?_); refine goesL_ (some 9) rfl rfl Tryd.func55 (by kernel_rfl) rfl #[.string t134] rfl (by (try simp only [List.map_toArray, List.map_cons, List.map_nil]); first | done | rfl | (simp only [List.length_drop, List.length_take]; rfl)) ?_; (with_reducible refine (Go.Proofs.YtpfenoioeajkmaaDoor.X.moulds_first.calls t134 t135 _ A5.out).mono ?_); rintro e w8 ⟨rfl, hb⟩; refine ⟨_, rfl, ?_⟩; have n0_ := Aside0.mk (below_step (by repeat (first | (with_reducible first | exact HB.out | apply below_alloc | apply pw_below_drewN | apply below_drew1) | exact HB.out)) hb); clear HB; have HB := n0_; clear n0_; (try clear hb); (try clear hb2); (try clear hk); (try clear hi)))
    go_ret2
    exact ⟨by first | rfl | (simp [errW_none, errW_some] <;> rfl) | (simp [*, errW_none, errW_some] <;> rfl), by repeat (first | (with_reducible first | exact HB.out | apply below_alloc | apply pw_below_drewN | apply below_drew1) | exact HB.out)⟩
  · replace c3 := Bool.eq_false_iff.mpr c3
    subst c3
    have H1 : (some ((⟨#[]⟩ : ByteArray), 2)) = some (r1, r2) := by rw [if_neg (show ¬ (false = true) by decide)] at H; exact H
    clear H
    have H := H1
    clear H1
    simp only [Option.some.injEq, Prod.mk.injEq] at H
    obtain ⟨rfl, rfl⟩ := H
    go_enter Tryd.func27, Tryd.ntmps27
    go_wp2_with (first | ((with_reducible refine gate_callee (f := 49) rfl ?_); refine goesL_ (some 5) rfl rfl Tryd.func49 (by kernel_rfl) rfl #[.string a0] rfl (by (try simp only [List.map_toArray, List.map_cons, List.map_nil]); first | done | rfl | (simp only [List.length_drop, List.length_take]; rfl)) ?_; (with_reducible refine (Go.Proofs.YtpfenoioeajkmaaDoor.X.moulds_Is.calls a0 false _ A2.out).mono ?_); rintro e w9 ⟨rfl, hb⟩; refine ⟨_, rfl, ?_⟩; have n0_ := Aside0.mk (below_step (by repeat (first | (with_reducible first | exact HB.out | apply below_alloc | apply pw_below_drewN | apply below_drew1) | exact HB.out)) hb); clear HB; have HB := n0_; clear n0_; (try clear hb); (try clear hb2); (try clear hk); (try clear hi)))
    go_ret2
    exact ⟨by first | rfl | (simp [errW_none, errW_some] <;> rfl) | (simp [*, errW_none, errW_some] <;> rfl), by repeat (first | (with_reducible first | exact HB.out | apply below_alloc | apply pw_below_drewN | apply below_drew1) | exact HB.out)⟩
def comfitref07_Mirror.l0 : Nat → ByteArray → ByteArray → Int → Option (ByteArray)
  | 0, _, _, _ => none
  | k + 1, x0, x3, x4 => if x4 ≥ 0 then (if 0 ≤ x4 then (if x4 ≤ (wrap64 (x4 + 1)) then (if (wrap64 (x4 + 1)) ≤ (x0.size : Int) then (if x3.size + (x0.extract (x4 : Int).toNat ((wrap64 (x4 + 1)) : Int).toNat).size ≤ 9223372036854775807 then (comfitref07_Mirror.l0 k x0 (x3 ++ (x0.extract (x4 : Int).toNat ((wrap64 (x4 + 1)) : Int).toNat)) (wrap64 (x4 - 1))) else (none)) else (none)) else (none)) else (none)) else ((Go.Proofs.YtpfenoioeajkmaaDoor.X.ref_exchanged.f x3 (⟨#[117, 100]⟩ : ByteArray) (⟨#[100, 117]⟩ : ByteArray)).bind fun t136 => ((Go.Proofs.YtpfenoioeajkmaaDoor.X.ref_First.f t136).bind fun t137 => (some t137)))
def comfitref07_Mirror.f (k : Nat) (a0 : ByteArray) : Option (ByteArray) := comfitref07_Mirror.l0 k a0 (⟨#[]⟩ : ByteArray) (wrap64 ((a0.size : Int) - 1))
set_option maxHeartbeats 8000000 in
set_option maxRecDepth 100000 in
theorem comfitref07_Mirror.calls (k : Nat) (a0 : ByteArray) (r : ByteArray) (w : World) (h : comfitref07_Mirror.f k a0 = some r) :
    Calls Tryd.prog 28 #[.string a0] w fun e w' => e = .returned (.string r) ∧ Below w.heap.size w w' := by
  have HB := Aside0.mk (Below.refl w.heap.size w)
  have H : (comfitref07_Mirror.l0 k a0 (⟨#[]⟩ : ByteArray) (wrap64 ((a0.size : Int) - 1))) = some r := h
  clear h
  have H' := Aside0.mk H
  clear H
  go_enter Tryd.func28, Tryd.ntmps28
  go_wp2
  go_loopg [3, 4] k (fun kq v3 v4 w' => ∃ (x3_1 : ByteArray) (x4_1 : Int), v3 = .string x3_1 ∧ v4 = .int .i64 x4_1 ∧ Aside0 (comfitref07_Mirror.l0 kq a0 x3_1 x4_1 = some r) ∧ Aside0 (kq ≤ k) ∧ Aside0 (Below w.heap.size w w'))
  case atStart => exact ⟨((⟨#[]⟩ : ByteArray)), (wrap64 ((a0.size : Int) - 1)), (by first | rfl | (simp; done) | (simp [*]; done)), (by first | rfl | (simp; done) | (simp [*]; done)), H', ⟨Nat.le_refl _⟩, ⟨by repeat (first | (with_reducible first | exact HB.out | apply below_alloc | apply pw_below_drewN | apply below_drew1) | exact HB.out)⟩⟩
  case round =>
    clear H'
    obtain ⟨x3_1, x4_1, rfl, rfl, HA, HK1, HB⟩ := hrel
    cases gk with
    | zero => exact absurd HA.out (by simp [comfitref07_Mirror.l0])
    | succ k1 =>
      have H := HA.out
      clear HA
      simp only [comfitref07_Mirror.l0] at H
      by_cases c2 : x4_1 ≥ 0
      · rw [if_pos c2] at H
        have c2b0 : decide (0 ≤ x4_1) = true := decide_eq_true c2
        clear c2
        by_cases c3 : 0 ≤ x4_1
        · rw [if_pos c3] at H
          have c3b0 := eq_true c3
          have c3b1 : decide (0 ≤ x4_1) = true := decide_eq_true c3
          clear c3
          by_cases c4 : x4_1 ≤ (wrap64 (x4_1 + 1))
          · rw [if_pos c4] at H
            have c4b0 := eq_true c4
            have c4b1 : decide (x4_1 ≤ (wrap64 (x4_1 + 1))) = true := decide_eq_true c4
            by_cases c5 : (wrap64 (x4_1 + 1)) ≤ (a0.size : Int)
            · rw [if_pos c5] at H
              have c5b0 := eq_true c5
              have c5b1 : decide ((wrap64 (x4_1 + 1)) ≤ (a0.size : Int)) = true := decide_eq_true c5
              by_cases c6 : x3_1.size + (a0.extract (x4_1 : Int).toNat ((wrap64 (x4_1 + 1)) : Int).toNat).size ≤ 9223372036854775807
              · rw [if_pos c6] at H
                have c6b0 := eq_true c6
                have c6b1 : decide (x3_1.size + (a0.extract (x4_1 : Int).toNat ((wrap64 (x4_1 + 1)) : Int).toNat).size ≤ 9223372036854775807) = true := decide_eq_true c6
                try have c6b2 : (9223372036854775807 < x3_1.size + (a0.extract (x4_1 : Int).toNat ((wrap64 (x4_1 + 1)) : Int).toNat).size) = False := eq_false (Nat.not_lt.2 c6)
                have H' := Aside0.mk H
                clear H
                go_wp2
                go_roundg k1
                case measure => have := HK1.out; omega
                case rel => exact ⟨(x3_1 ++ (a0.extract (x4_1 : Int).toNat ((wrap64 (x4_1 + 1)) : Int).toNat)), (wrap64 (x4_1 - 1)), (by first | rfl | (simp; done) | (simp [*]; done)), (by first | rfl | (simp; done) | (simp [*]; done)), H', ⟨by have := HK1.out; omega⟩, ⟨by repeat (first | (with_reducible first | exact HB.out | apply below_alloc | apply pw_below_drewN | apply below_drew1) | exact HB.out)⟩⟩
              · rw [if_neg c6] at H
                exact absurd H (by simp)
            · rw [if_neg c5] at H
              exact absurd H (by simp)
          · rw [if_neg c4] at H
            exact absurd H (by simp)
        · rw [if_neg c3] at H
          exact absurd H (by simp)
      · rw [if_neg c2] at H
        have c2b0 : decide (0 ≤ x4_1) = false := decide_eq_false c2
        clear c2
        replace H := Option.bind_eq_some_iff.mp H
        obtain ⟨t136, A70, H⟩ := H
        replace H : ((Go.Proofs.YtpfenoioeajkmaaDoor.X.ref_First.f t136).bind fun t137 => (some t137)) = some r := H
        have A7 := Aside0.mk A70
        clear A70
        replace H := Option.bind_eq_some_iff.mp H
        obtain ⟨t137, A80, H⟩ := H
        replace H : (some t137) = some r := H
        have A8 := Aside0.mk A80
        clear A80
        obtain rfl := Option.some.inj H
        go_wp2_with (first | ((with_reducible refine gate_callee (f := 56) rfl ?_); refine goesL_ (some 20) rfl rfl Tryd.func56 (by kernel_rfl) rfl #[.string x3_1, .string (⟨#[117, 100]⟩ : ByteArray), .string (⟨#[100, 117]⟩ : ByteArray)] rfl (by (try simp only [List.map_toArray, List.map_cons, List.map_nil]); first | done | rfl | (simp only [List.length_drop, List.length_take]; rfl)) ?_; (with_reducible refine (Go.Proofs.YtpfenoioeajkmaaDoor.X.ref_exchanged.calls x3_1 (⟨#[117, 100]⟩ : ByteArray) (⟨#[100, 117]⟩ : ByteArray) t136 _ A7.out).mono ?_); rintro e w9 ⟨rfl, hb⟩; refine ⟨_, rfl, ?_⟩; have n0_ := Aside0.mk (below_step (by repeat (first | (with_reducible first | exact HB.out | apply below_alloc | apply pw_below_drewN | apply below_drew1) | exact HB.out)) hb); clear HB; have HB := n0_; clear n0_; (try clear hb); (try clear hb2); (try clear hk); (try clear hi)) | ((with_reducible refine gate_callee (f := 25) rfl ?_); refine goesL_ (some 21) rfl rfl Tryd.func25 (by kernel_rfl) rfl #[.string t136] rfl (by (try simp only [List.map_toArray, List.map_cons, List.map_nil]); first | done | rfl | (simp only [List.length_drop, List.length_take]; rfl)) ?_; (with_reducible refine (Go.Proofs.YtpfenoioeajkmaaDoor.X.ref_First.calls t136 t137 _ A8.out).mono ?_); rintro e w10 ⟨rfl, hb⟩; refine ⟨_, rfl, ?_⟩; have n0_ := Aside0.mk (below_step (by repeat (first | (with_reducible first | exact HB.out | apply below_alloc | apply pw_below_drewN | apply below_drew1) | exact HB.out)) hb); clear HB; have HB := n0_; clear n0_; (try clear hb); (try clear hb2); (try clear hk); (try clear hi)))
        go_ret
        exact ⟨by first | rfl | (simp [errW_none, errW_some] <;> rfl) | (simp [*, errW_none, errW_some] <;> rfl), by repeat (first | (with_reducible first | exact HB.out | apply below_alloc | apply pw_below_drewN | apply below_drew1) | exact HB.out)⟩
def comfitref07_Quarter.f (a0 : ByteArray) : Option (ByteArray) := (Go.Proofs.YtpfenoioeajkmaaDoor.X.ref_exchanged.f a0 (⟨#[114, 117, 108, 100]⟩ : ByteArray) (⟨#[117, 108, 100, 114]⟩ : ByteArray)).bind fun t138 => ((Go.Proofs.YtpfenoioeajkmaaDoor.X.ref_First.f t138).bind fun t139 => (some t139))
set_option maxHeartbeats 8000000 in
set_option maxRecDepth 100000 in
theorem comfitref07_Quarter.calls (a0 : ByteArray) (r : ByteArray) (w : World) (h : comfitref07_Quarter.f a0 = some r) :
    Calls Tryd.prog 29 #[.string a0] w fun e w' => e = .returned (.string r) ∧ Below w.heap.size w w' := by
  have HB := Aside0.mk (Below.refl w.heap.size w)
  have H : ((Go.Proofs.YtpfenoioeajkmaaDoor.X.ref_exchanged.f a0 (⟨#[114, 117, 108, 100]⟩ : ByteArray) (⟨#[117, 108, 100, 114]⟩ : ByteArray)).bind fun t138 => ((Go.Proofs.YtpfenoioeajkmaaDoor.X.ref_First.f t138).bind fun t139 => (some t139))) = some r := h
  clear h
  replace H := Option.bind_eq_some_iff.mp H
  obtain ⟨t138, A20, H⟩ := H
  replace H : ((Go.Proofs.YtpfenoioeajkmaaDoor.X.ref_First.f t138).bind fun t139 => (some t139)) = some r := H
  have A2 := Aside0.mk A20
  clear A20
  replace H := Option.bind_eq_some_iff.mp H
  obtain ⟨t139, A30, H⟩ := H
  replace H : (some t139) = some r := H
  have A3 := Aside0.mk A30
  clear A30
  obtain rfl := Option.some.inj H
  go_enter Tryd.func29, Tryd.ntmps29
  go_wp2_with (first | ((with_reducible refine gate_callee (f := 56) rfl ?_); refine goesL_ (some 4) rfl rfl Tryd.func56 (by kernel_rfl) rfl #[.string a0, .string (⟨#[114, 117, 108, 100]⟩ : ByteArray), .string (⟨#[117, 108, 100, 114]⟩ : ByteArray)] rfl (by (try simp only [List.map_toArray, List.map_cons, List.map_nil]); first | done | rfl | (simp only [List.length_drop, List.length_take]; rfl)) ?_; (with_reducible refine (Go.Proofs.YtpfenoioeajkmaaDoor.X.ref_exchanged.calls a0 (⟨#[114, 117, 108, 100]⟩ : ByteArray) (⟨#[117, 108, 100, 114]⟩ : ByteArray) t138 _ A2.out).mono ?_); rintro e w4 ⟨rfl, hb⟩; refine ⟨_, rfl, ?_⟩; have n0_ := Aside0.mk (below_step (by repeat (first | (with_reducible first | exact HB.out | apply below_alloc | apply pw_below_drewN | apply below_drew1) | exact HB.out)) hb); clear HB; have HB := n0_; clear n0_; (try clear hb); (try clear hb2); (try clear hk); (try clear hi)) | ((with_reducible refine gate_callee (f := 25) rfl ?_); refine goesL_ (some 5) rfl rfl Tryd.func25 (by kernel_rfl) rfl #[.string t138] rfl (by (try simp only [List.map_toArray, List.map_cons, List.map_nil]); first | done | rfl | (simp only [List.length_drop, List.length_take]; rfl)) ?_; (with_reducible refine (Go.Proofs.YtpfenoioeajkmaaDoor.X.ref_First.calls t138 t139 _ A3.out).mono ?_); rintro e w5 ⟨rfl, hb⟩; refine ⟨_, rfl, ?_⟩; have n0_ := Aside0.mk (below_step (by repeat (first | (with_reducible first | exact HB.out | apply below_alloc | apply pw_below_drewN | apply below_drew1) | exact HB.out)) hb); clear HB; have HB := n0_; clear n0_; (try clear hb); (try clear hb2); (try clear hk); (try clear hi)))
  go_ret
  exact ⟨by first | rfl | (simp [errW_none, errW_some] <;> rfl) | (simp [*, errW_none, errW_some] <;> rfl), by repeat (first | (with_reducible first | exact HB.out | apply below_alloc | apply pw_below_drewN | apply below_drew1) | exact HB.out)⟩
def comfitlaw07_MouldsMirrors.f (k : Nat) (a0 : ByteArray) : Option (Bool) := (Go.Proofs.YtpfenoioeajkmaaDoor.PA.comfitlaw07_text.f a0).bind fun t140 => ((moulds_Mirror.f t140).bind fun bt141 => ((Go.Proofs.YtpfenoioeajkmaaDoor.PA.comfitlaw07_text.f a0).bind fun t143 => ((moulds_Quarter.f t143).bind fun bt144 => ((Go.Proofs.YtpfenoioeajkmaaDoor.X.ref_Is.f a0).bind fun t146 => (if t146 = true then ((comfitref07_Mirror.f k a0).bind fun t147 => (if bt141.1.toList = t147.toList then ((comfitref07_Quarter.f a0).bind fun t148 => (if bt144.1.toList = t148.toList then (if bt141.2 = 0 then (if bt144.2 = 0 then ((comfitlaw07_awake.f).bind fun t149 => (some t149)) else (some false)) else (some false)) else (some false))) else (some false))) else (if bt141.1.toList = ([] : List UInt8) then (if bt144.1.toList = ([] : List UInt8) then (if bt141.2 = 2 then (if bt144.2 = 2 then ((comfitlaw07_awake.f).bind fun t150 => (some t150)) else (some false)) else (some false)) else (some false)) else (some false)))))))
set_option maxHeartbeats 8000000 in
set_option maxRecDepth 100000 in
theorem comfitlaw07_MouldsMirrors.calls (k : Nat) (a0 : ByteArray) (r : Bool) (w : World) (h : comfitlaw07_MouldsMirrors.f k a0 = some r) :
    Calls Tryd.prog 5 #[.string a0] w fun e w' => e = .returned (.bool r) ∧ Below w.heap.size w w' := by
  have HB := Aside0.mk (Below.refl w.heap.size w)
  have H : ((Go.Proofs.YtpfenoioeajkmaaDoor.PA.comfitlaw07_text.f a0).bind fun t140 => ((moulds_Mirror.f t140).bind fun bt141 => ((Go.Proofs.YtpfenoioeajkmaaDoor.PA.comfitlaw07_text.f a0).bind fun t143 => ((moulds_Quarter.f t143).bind fun bt144 => ((Go.Proofs.YtpfenoioeajkmaaDoor.X.ref_Is.f a0).bind fun t146 => (if t146 = true then ((comfitref07_Mirror.f k a0).bind fun t147 => (if bt141.1.toList = t147.toList then ((comfitref07_Quarter.f a0).bind fun t148 => (if bt144.1.toList = t148.toList then (if bt141.2 = 0 then (if bt144.2 = 0 then ((comfitlaw07_awake.f).bind fun t149 => (some t149)) else (some false)) else (some false)) else (some false))) else (some false))) else (if bt141.1.toList = ([] : List UInt8) then (if bt144.1.toList = ([] : List UInt8) then (if bt141.2 = 2 then (if bt144.2 = 2 then ((comfitlaw07_awake.f).bind fun t150 => (some t150)) else (some false)) else (some false)) else (some false)) else (some false)))))))) = some r := h
  clear h
  replace H := Option.bind_eq_some_iff.mp H
  obtain ⟨t140, A20, H⟩ := H
  replace H : ((moulds_Mirror.f t140).bind fun bt141 => ((Go.Proofs.YtpfenoioeajkmaaDoor.PA.comfitlaw07_text.f a0).bind fun t143 => ((moulds_Quarter.f t143).bind fun bt144 => ((Go.Proofs.YtpfenoioeajkmaaDoor.X.ref_Is.f a0).bind fun t146 => (if t146 = true then ((comfitref07_Mirror.f k a0).bind fun t147 => (if bt141.1.toList = t147.toList then ((comfitref07_Quarter.f a0).bind fun t148 => (if bt144.1.toList = t148.toList then (if bt141.2 = 0 then (if bt144.2 = 0 then ((comfitlaw07_awake.f).bind fun t149 => (some t149)) else (some false)) else (some false)) else (some false))) else (some false))) else (if bt141.1.toList = ([] : List UInt8) then (if bt144.1.toList = ([] : List UInt8) then (if bt141.2 = 2 then (if bt144.2 = 2 then ((comfitlaw07_awake.f).bind fun t150 => (some t150)) else (some false)) else (some false)) else (some false)) else (some false))))))) = some r := H
  have A2 := Aside0.mk A20
  clear A20
  replace H := Option.bind_eq_some_iff.mp H
  obtain ⟨⟨t141, t142⟩, A30, H⟩ := H
  replace H : ((Go.Proofs.YtpfenoioeajkmaaDoor.PA.comfitlaw07_text.f a0).bind fun t143 => ((moulds_Quarter.f t143).bind fun bt144 => ((Go.Proofs.YtpfenoioeajkmaaDoor.X.ref_Is.f a0).bind fun t146 => (if t146 = true then ((comfitref07_Mirror.f k a0).bind fun t147 => (if t141.toList = t147.toList then ((comfitref07_Quarter.f a0).bind fun t148 => (if bt144.1.toList = t148.toList then (if t142 = 0 then (if bt144.2 = 0 then ((comfitlaw07_awake.f).bind fun t149 => (some t149)) else (some false)) else (some false)) else (some false))) else (some false))) else (if t141.toList = ([] : List UInt8) then (if bt144.1.toList = ([] : List UInt8) then (if t142 = 2 then (if bt144.2 = 2 then ((comfitlaw07_awake.f).bind fun t150 => (some t150)) else (some false)) else (some false)) else (some false)) else (some false)))))) = some r := H
  have A3 := Aside0.mk A30
  clear A30
  replace H := Option.bind_eq_some_iff.mp H
  obtain ⟨t143, A40, H⟩ := H
  replace H : ((moulds_Quarter.f t143).bind fun bt144 => ((Go.Proofs.YtpfenoioeajkmaaDoor.X.ref_Is.f a0).bind fun t146 => (if t146 = true then ((comfitref07_Mirror.f k a0).bind fun t147 => (if t141.toList = t147.toList then ((comfitref07_Quarter.f a0).bind fun t148 => (if bt144.1.toList = t148.toList then (if t142 = 0 then (if bt144.2 = 0 then ((comfitlaw07_awake.f).bind fun t149 => (some t149)) else (some false)) else (some false)) else (some false))) else (some false))) else (if t141.toList = ([] : List UInt8) then (if bt144.1.toList = ([] : List UInt8) then (if t142 = 2 then (if bt144.2 = 2 then ((comfitlaw07_awake.f).bind fun t150 => (some t150)) else (some false)) else (some false)) else (some false)) else (some false))))) = some r := H
  have A4 := Aside0.mk A40
  clear A40
  replace H := Option.bind_eq_some_iff.mp H
  obtain ⟨⟨t144, t145⟩, A50, H⟩ := H
  replace H : ((Go.Proofs.YtpfenoioeajkmaaDoor.X.ref_Is.f a0).bind fun t146 => (if t146 = true then ((comfitref07_Mirror.f k a0).bind fun t147 => (if t141.toList = t147.toList then ((comfitref07_Quarter.f a0).bind fun t148 => (if t144.toList = t148.toList then (if t142 = 0 then (if t145 = 0 then ((comfitlaw07_awake.f).bind fun t149 => (some t149)) else (some false)) else (some false)) else (some false))) else (some false))) else (if t141.toList = ([] : List UInt8) then (if t144.toList = ([] : List UInt8) then (if t142 = 2 then (if t145 = 2 then ((comfitlaw07_awake.f).bind fun t150 => (some t150)) else (some false)) else (some false)) else (some false)) else (some false)))) = some r := H
  have A5 := Aside0.mk A50
  clear A50
  replace H := Option.bind_eq_some_iff.mp H
  obtain ⟨t146, A60, H⟩ := H
  replace H : (if t146 = true then ((comfitref07_Mirror.f k a0).bind fun t147 => (if t141.toList = t147.toList then ((comfitref07_Quarter.f a0).bind fun t148 => (if t144.toList = t148.toList then (if t142 = 0 then (if t145 = 0 then ((comfitlaw07_awake.f).bind fun t149 => (some t149)) else (some false)) else (some false)) else (some false))) else (some false))) else (if t141.toList = ([] : List UInt8) then (if t144.toList = ([] : List UInt8) then (if t142 = 2 then (if t145 = 2 then ((comfitlaw07_awake.f).bind fun t150 => (some t150)) else (some false)) else (some false)) else (some false)) else (some false))) = some r := H
  have A6 := Aside0.mk A60
  clear A60
  by_cases c7 : t146 = true
  · subst c7
    have H1 : ((comfitref07_Mirror.f k a0).bind fun t147 => (if t141.toList = t147.toList then ((comfitref07_Quarter.f a0).bind fun t148 => (if t144.toList = t148.toList then (if t142 = 0 then (if t145 = 0 then ((comfitlaw07_awake.f).bind fun t149 => (some t149)) else (some false)) else (some false)) else (some false))) else (some false))) = some r := by rw [if_pos rfl] at H; exact H
    clear H
    have H := H1
    clear H1
    replace H := Option.bind_eq_some_iff.mp H
    obtain ⟨t147, A80, H⟩ := H
    replace H : (if t141.toList = t147.toList then ((comfitref07_Quarter.f a0).bind fun t148 => (if t144.toList = t148.toList then (if t142 = 0 then (if t145 = 0 then ((comfitlaw07_awake.f).bind fun t149 => (some t149)) else (some false)) else (some false)) else (some false))) else (some false)) = some r := H
    have A8 := Aside0.mk A80
    clear A80
    by_cases c9 : t141.toList = t147.toList
    · rw [if_pos c9] at H
      have c9b0 : (t141.toList == t147.toList) = true := beq_iff_eq.mpr c9
      have c9b1 : (t141.toList != t147.toList) = false := bne_eq_false_iff_eq.mpr c9
      clear c9
      replace H := Option.bind_eq_some_iff.mp H
      obtain ⟨t148, A100, H⟩ := H
      replace H : (if t144.toList = t148.toList then (if t142 = 0 then (if t145 = 0 then ((comfitlaw07_awake.f).bind fun t149 => (some t149)) else (some false)) else (some false)) else (some false)) = some r := H
      have A10 := Aside0.mk A100
      clear A100
      by_cases c11 : t144.toList = t148.toList
      · rw [if_pos c11] at H
        have c11b0 : (t144.toList == t148.toList) = true := beq_iff_eq.mpr c11
        have c11b1 : (t144.toList != t148.toList) = false := bne_eq_false_iff_eq.mpr c11
        clear c11
        by_cases c12 : t142 = 0
        · rw [if_pos c12] at H
          have c12b0 : (t142 == 0) = true := beq_iff_eq.mpr c12
          have c12b1 : (t142 != 0) = false := bne_eq_false_iff_eq.mpr c12
          clear c12
          by_cases c13 : t145 = 0
          · rw [if_pos c13] at H
            have c13b0 : (t145 == 0) = true := beq_iff_eq.mpr c13
            have c13b1 : (t145 != 0) = false := bne_eq_false_iff_eq.mpr c13
            clear c13
            replace H := Option.bind_eq_some_iff.mp H
            obtain ⟨t149, A140, H⟩ := H
            replace H : (some t149) = some r := H
            have A14 := Aside0.mk A140
            clear A140
            obtain rfl := Option.some.inj H
            go_enter Tryd.func5, Tryd.ntmps5
            go_wp2_with (first | ((with_reducible refine gate_callee (f := 18) rfl ?_); refine goesL_ (some 9) rfl rfl Tryd.func18 (by kernel_rfl) rfl #[.string a0] rfl (by (try simp only [List.map_toArray, List.map_cons, List.map_nil]); first | done | rfl | (simp only [List.length_drop, List.length_take]; rfl)) ?_; (with_reducible refine (Go.Proofs.YtpfenoioeajkmaaDoor.PA.comfitlaw07_text.calls a0 t140 _ A2.out).mono ?_); rintro e w15 ⟨rfl, hb⟩; refine ⟨_, rfl, ?_⟩; have n0_ := Aside0.mk (below_step (by repeat (first | (with_reducible first | exact HB.out | apply below_alloc | apply pw_below_drewN | apply below_drew1) | exact HB.out)) hb); clear HB; have HB := n0_; clear n0_; (try clear hb); (try clear hb2); (try clear hk); (try clear hi)) | ((with_reducible refine gate_callee (f := 26) rfl ?_); refine goesL_ (some 10) rfl rfl Tryd.func26 (by kernel_rfl) rfl #[.string t140] rfl (by (try simp only [List.map_toArray, List.map_cons, List.map_nil]); first | done | rfl | (simp only [List.length_drop, List.length_take]; rfl)) ?_; (with_reducible refine (moulds_Mirror.calls t140 t141 t142 _ A3.out).mono ?_); rintro e w16 ⟨rfl, hb⟩; refine ⟨_, rfl, ?_⟩; have n0_ := Aside0.mk (below_step (by repeat (first | (with_reducible first | exact HB.out | apply below_alloc | apply pw_below_drewN | apply below_drew1) | exact HB.out)) hb); clear HB; have HB := n0_; clear n0_; (try clear hb); (try clear hb2); (try clear hk); (try clear hi)) | ((with_reducible refine gate_callee (f := 18) rfl ?_); refine goesL_ (some 15) rfl rfl Tryd.func18 (by kernel_rfl) rfl #[.string a0] rfl (by (try simp only [List.map_toArray, List.map_cons, List.map_nil]); first | done | rfl | (simp only [List.length_drop, List.length_take]; rfl)) ?_; (with_reducible refine (Go.Proofs.YtpfenoioeajkmaaDoor.PA.comfitlaw07_text.calls a0 t143 _ A4.out).mono ?_); rintro e w17 ⟨rfl, hb⟩; refine ⟨_, rfl, ?_⟩; have n0_ := Aside0.mk (below_step (by repeat (first | (with_reducible first | exact HB.out | apply below_alloc | apply pw_below_drewN | apply below_drew1) | exact HB.out)) hb); clear HB; have HB := n0_; clear n0_; (try clear hb); (try clear hb2); (try clear hk); (try clear hi)) | ((with_reducible refine gate_callee (f := 27) rfl ?_); refine goesL_ (some 16) rfl rfl Tryd.func27 (by kernel_rfl) rfl #[.string t143] rfl (by (try simp only [List.map_toArray, List.map_cons, List.map_nil]); first | done | rfl | (simp only [List.length_drop, List.length_take]; rfl)) ?_; (with_reducible refine (moulds_Quarter.calls t143 t144 t145 _ A5.out).mono ?_); rintro e w18 ⟨rfl, hb⟩; refine ⟨_, rfl, ?_⟩; have n0_ := Aside0.mk (below_step (by repeat (first | (with_reducible first | exact HB.out | apply below_alloc | apply pw_below_drewN | apply below_drew1) | exact HB.out)) hb); clear HB; have HB := n0_; clear n0_; (try clear hb); (try clear hb2); (try clear hk); (try clear hi)) | ((with_reducible refine gate_callee (f := 24) rfl ?_); refine goesL_ (some 20) rfl rfl Tryd.func24 (by kernel_rfl) rfl #[.string a0] rfl (by (try simp only [List.map_toArray, List.map_cons, List.map_nil]); first | done | rfl | (simp only [List.length_drop, List.length_take]; rfl)) ?_; (with_reducible refine (Go.Proofs.YtpfenoioeajkmaaDoor.X.ref_Is.calls a0 true _ A6.out).mono ?_); rintro e w19 ⟨rfl, hb⟩; refine ⟨_, rfl, ?_⟩; have n0_ := Aside0.mk (below_step (by repeat (first | (with_reducible first | exact HB.out | apply below_alloc | apply pw_below_drewN | apply below_drew1) | exact HB.out)) hb); clear HB; have HB := n0_; clear n0_; (try clear hb); (try clear hb2); (try clear hk); (try clear hi)) | ((with_reducible refine gate_callee (f := 28) rfl ?_); refine goesL_ (some 41) rfl rfl Tryd.func28 (by kernel_rfl) rfl #[.string a0] rfl (by (try simp only [List.map_toArray, List.map_cons, List.map_nil]); first | done | rfl | (simp only [List.length_drop, List.length_take]; rfl)) ?_; (with_reducible refine (comfitref07_Mirror.calls k a0 t147 _ A8.out).mono ?_); rintro e w20 ⟨rfl, hb⟩; refine ⟨_, rfl, ?_⟩; have n0_ := Aside0.mk (below_step (by repeat (first | (with_reducible first | exact HB.out | apply below_alloc | apply pw_below_drewN | apply below_drew1) | exact HB.out)) hb); clear HB; have HB := n0_; clear n0_; (try clear hb); (try clear hb2); (try clear hk); (try clear hi)) | (go_at_call 29; (with_reducible refine (comfitref07_Quarter.calls a0 t148 _ A10.out).mono ?_); rintro e w21 ⟨rfl, hb⟩; have n0_ := Aside0.mk (below_step (by repeat (first | (with_reducible first | exact HB.out | apply below_alloc | apply pw_below_drewN | apply below_drew1) | exact HB.out)) hb); clear HB; have HB := n0_; clear n0_; (try clear hb); (try clear hb2); (try clear hk); (try clear hi)) | (go_at_call 20; (with_reducible refine (comfitlaw07_awake.calls  t149 _ A14.out).mono ?_); rintro e w22 ⟨rfl, hb⟩; have n0_ := Aside0.mk (below_step (by repeat (first | (with_reducible first | exact HB.out | apply below_alloc | apply pw_below_drewN | apply below_drew1) | exact HB.out)) hb); clear HB; have HB := n0_; clear n0_; (try clear hb); (try clear hb2); (try clear hk); (try clear hi)))
            go_ret
            exact ⟨by first | rfl | (simp [errW_none, errW_some] <;> rfl) | (simp [*, errW_none, errW_some] <;> rfl), by repeat (first | (with_reducible first | exact HB.out | apply below_alloc | apply pw_below_drewN | apply below_drew1) | exact HB.out)⟩
          · rw [if_neg c13] at H
            have c13b0 : (t145 == 0) = false := beq_eq_false_iff_ne.mpr c13
            have c13b1 : (t145 != 0) = true := bne_iff_ne.mpr c13
            obtain rfl := Option.some.inj H
            go_enter Tryd.func5, Tryd.ntmps5
            go_wp2_with (first | ((with_reducible refine gate_callee (f := 18) rfl ?_); refine goesL_ (some 9) rfl rfl Tryd.func18 (by kernel_rfl) rfl #[.string a0] rfl (by (try simp only [List.map_toArray, List.map_cons, List.map_nil]); first | done | rfl | (simp only [List.length_drop, List.length_take]; rfl)) ?_; (with_reducible refine (Go.Proofs.YtpfenoioeajkmaaDoor.PA.comfitlaw07_text.calls a0 t140 _ A2.out).mono ?_); rintro e w23 ⟨rfl, hb⟩; refine ⟨_, rfl, ?_⟩; have n0_ := Aside0.mk (below_step (by repeat (first | (with_reducible first | exact HB.out | apply below_alloc | apply pw_below_drewN | apply below_drew1) | exact HB.out)) hb); clear HB; have HB := n0_; clear n0_; (try clear hb); (try clear hb2); (try clear hk); (try clear hi)) | ((with_reducible refine gate_callee (f := 26) rfl ?_); refine goesL_ (some 10) rfl rfl Tryd.func26 (by kernel_rfl) rfl #[.string t140] rfl (by (try simp only [List.map_toArray, List.map_cons, List.map_nil]); first | done | rfl | (simp only [List.length_drop, List.length_take]; rfl)) ?_; (with_reducible refine (moulds_Mirror.calls t140 t141 t142 _ A3.out).mono ?_); rintro e w24 ⟨rfl, hb⟩; refine ⟨_, rfl, ?_⟩; have n0_ := Aside0.mk (below_step (by repeat (first | (with_reducible first | exact HB.out | apply below_alloc | apply pw_below_drewN | apply below_drew1) | exact HB.out)) hb); clear HB; have HB := n0_; clear n0_; (try clear hb); (try clear hb2); (try clear hk); (try clear hi)) | ((with_reducible refine gate_callee (f := 18) rfl ?_); refine goesL_ (some 15) rfl rfl Tryd.func18 (by kernel_rfl) rfl #[.string a0] rfl (by (try simp only [List.map_toArray, List.map_cons, List.map_nil]); first | done | rfl | (simp only [List.length_drop, List.length_take]; rfl)) ?_; (with_reducible refine (Go.Proofs.YtpfenoioeajkmaaDoor.PA.comfitlaw07_text.calls a0 t143 _ A4.out).mono ?_); rintro e w25 ⟨rfl, hb⟩; refine ⟨_, rfl, ?_⟩; have n0_ := Aside0.mk (below_step (by repeat (first | (with_reducible first | exact HB.out | apply below_alloc | apply pw_below_drewN | apply below_drew1) | exact HB.out)) hb); clear HB; have HB := n0_; clear n0_; (try clear hb); (try clear hb2); (try clear hk); (try clear hi)) | ((with_reducible refine gate_callee (f := 27) rfl ?_); refine goesL_ (some 16) rfl rfl Tryd.func27 (by kernel_rfl) rfl #[.string t143] rfl (by (try simp only [List.map_toArray, List.map_cons, List.map_nil]); first | done | rfl | (simp only [List.length_drop, List.length_take]; rfl)) ?_; (with_reducible refine (moulds_Quarter.calls t143 t144 t145 _ A5.out).mono ?_); rintro e w26 ⟨rfl, hb⟩; refine ⟨_, rfl, ?_⟩; have n0_ := Aside0.mk (below_step (by repeat (first | (with_reducible first | exact HB.out | apply below_alloc | apply pw_below_drewN | apply below_drew1) | exact HB.out)) hb); clear HB; have HB := n0_; clear n0_; (try clear hb); (try clear hb2); (try clear hk); (try clear hi)) | ((with_reducible refine gate_callee (f := 24) rfl ?_); refine goesL_ (some 20) rfl rfl Tryd.func24 (by kernel_rfl) rfl #[.string a0] rfl (by (try simp only [List.map_toArray, List.map_cons, List.map_nil]); first | done | rfl | (simp only [List.length_drop, List.length_take]; rfl)) ?_; (with_reducible refine (Go.Proofs.YtpfenoioeajkmaaDoor.X.ref_Is.calls a0 true _ A6.out).mono ?_); rintro e w27 ⟨rfl, hb⟩; refine ⟨_, rfl, ?_⟩; have n0_ := Aside0.mk (below_step (by repeat (first | (with_reducible first | exact HB.out | apply below_alloc | apply pw_below_drewN | apply below_drew1) | exact HB.out)) hb); clear HB; have HB := n0_; clear n0_; (try clear hb); (try clear hb2); (try clear hk); (try clear hi)) | ((with_reducible refine gate_callee (f := 28) rfl ?_); refine goesL_ (some 41) rfl rfl Tryd.func28 (by kernel_rfl) rfl #[.string a0] rfl (by (try simp only [List.map_toArray, List.map_cons, List.map_nil]); first | done | rfl | (simp only [List.length_drop, List.length_take]; rfl)) ?_; (with_reducible refine (comfitref07_Mirror.calls k a0 t147 _ A8.out).mono ?_); rintro e w28 ⟨rfl, hb⟩; refine ⟨_, rfl, ?_⟩; have n0_ := Aside0.mk (below_step (by repeat (first | (with_reducible first | exact HB.out | apply below_alloc | apply pw_below_drewN | apply below_drew1) | exact HB.out)) hb); clear HB; have HB := n0_; clear n0_; (try clear hb); (try clear hb2); (try clear hk); (try clear hi)) | (go_at_call 29; (with_reducible refine (comfitref07_Quarter.calls a0 t148 _ A10.out).mono ?_); rintro e w29 ⟨rfl, hb⟩; have n0_ := Aside0.mk (below_step (by repeat (first | (with_reducible first | exact HB.out | apply below_alloc | apply pw_below_drewN | apply below_drew1) | exact HB.out)) hb); clear HB; have HB := n0_; clear n0_; (try clear hb); (try clear hb2); (try clear hk); (try clear hi)))
            go_ret
            exact ⟨by first | rfl | (simp [errW_none, errW_some] <;> rfl) | (simp [*, errW_none, errW_some] <;> rfl), by repeat (first | (with_reducible first | exact HB.out | apply below_alloc | apply pw_below_drewN | apply below_drew1) | exact HB.out)⟩
        · rw [if_neg c12] at H
          have c12b0 : (t142 == 0) = false := beq_eq_false_iff_ne.mpr c12
          have c12b1 : (t142 != 0) = true := bne_iff_ne.mpr c12
          obtain rfl := Option.some.inj H
          go_enter Tryd.func5, Tryd.ntmps5
          go_wp2_with (first | ((with_reducible refine gate_callee (f := 18) rfl ?_); refine goesL_ (some 9) rfl rfl Tryd.func18 (by kernel_rfl) rfl #[.string a0] rfl (by (try simp only [List.map_toArray, List.map_cons, List.map_nil]); first | done | rfl | (simp only [List.length_drop, List.length_take]; rfl)) ?_; (with_reducible refine (Go.Proofs.YtpfenoioeajkmaaDoor.PA.comfitlaw07_text.calls a0 t140 _ A2.out).mono ?_); rintro e w30 ⟨rfl, hb⟩; refine ⟨_, rfl, ?_⟩; have n0_ := Aside0.mk (below_step (by repeat (first | (with_reducible first | exact HB.out | apply below_alloc | apply pw_below_drewN | apply below_drew1) | exact HB.out)) hb); clear HB; have HB := n0_; clear n0_; (try clear hb); (try clear hb2); (try clear hk); (try clear hi)) | ((with_reducible refine gate_callee (f := 26) rfl ?_); refine goesL_ (some 10) rfl rfl Tryd.func26 (by kernel_rfl) rfl #[.string t140] rfl (by (try simp only [List.map_toArray, List.map_cons, List.map_nil]); first | done | rfl | (simp only [List.length_drop, List.length_take]; rfl)) ?_; (with_reducible refine (moulds_Mirror.calls t140 t141 t142 _ A3.out).mono ?_); rintro e w31 ⟨rfl, hb⟩; refine ⟨_, rfl, ?_⟩; have n0_ := Aside0.mk (below_step (by repeat (first | (with_reducible first | exact HB.out | apply below_alloc | apply pw_below_drewN | apply below_drew1) | exact HB.out)) hb); clear HB; have HB := n0_; clear n0_; (try clear hb); (try clear hb2); (try clear hk); (try clear hi)) | ((with_reducible refine gate_callee (f := 18) rfl ?_); refine goesL_ (some 15) rfl rfl Tryd.func18 (by kernel_rfl) rfl #[.string a0] rfl (by (try simp only [List.map_toArray, List.map_cons, List.map_nil]); first | done | rfl | (simp only [List.length_drop, List.length_take]; rfl)) ?_; (with_reducible refine (Go.Proofs.YtpfenoioeajkmaaDoor.PA.comfitlaw07_text.calls a0 t143 _ A4.out).mono ?_); rintro e w32 ⟨rfl, hb⟩; refine ⟨_, rfl, ?_⟩; have n0_ := Aside0.mk (below_step (by repeat (first | (with_reducible first | exact HB.out | apply below_alloc | apply pw_below_drewN | apply below_drew1) | exact HB.out)) hb); clear HB; have HB := n0_; clear n0_; (try clear hb); (try clear hb2); (try clear hk); (try clear hi)) | ((with_reducible refine gate_callee (f := 27) rfl ?_); refine goesL_ (some 16) rfl rfl Tryd.func27 (by kernel_rfl) rfl #[.string t143] rfl (by (try simp only [List.map_toArray, List.map_cons, List.map_nil]); first | done | rfl | (simp only [List.length_drop, List.length_take]; rfl)) ?_; (with_reducible refine (moulds_Quarter.calls t143 t144 t145 _ A5.out).mono ?_); rintro e w33 ⟨rfl, hb⟩; refine ⟨_, rfl, ?_⟩; have n0_ := Aside0.mk (below_step (by repeat (first | (with_reducible first | exact HB.out | apply below_alloc | apply pw_below_drewN | apply below_drew1) | exact HB.out)) hb); clear HB; have HB := n0_; clear n0_; (try clear hb); (try clear hb2); (try clear hk); (try clear hi)) | ((with_reducible refine gate_callee (f := 24) rfl ?_); refine goesL_ (some 20) rfl rfl Tryd.func24 (by kernel_rfl) rfl #[.string a0] rfl (by (try simp only [List.map_toArray, List.map_cons, List.map_nil]); first | done | rfl | (simp only [List.length_drop, List.length_take]; rfl)) ?_; (with_reducible refine (Go.Proofs.YtpfenoioeajkmaaDoor.X.ref_Is.calls a0 true _ A6.out).mono ?_); rintro e w34 ⟨rfl, hb⟩; refine ⟨_, rfl, ?_⟩; have n0_ := Aside0.mk (below_step (by repeat (first | (with_reducible first | exact HB.out | apply below_alloc | apply pw_below_drewN | apply below_drew1) | exact HB.out)) hb); clear HB; have HB := n0_; clear n0_; (try clear hb); (try clear hb2); (try clear hk); (try clear hi)) | ((with_reducible refine gate_callee (f := 28) rfl ?_); refine goesL_ (some 41) rfl rfl Tryd.func28 (by kernel_rfl) rfl #[.string a0] rfl (by (try simp only [List.map_toArray, List.map_cons, List.map_nil]); first | done | rfl | (simp only [List.length_drop, List.length_take]; rfl)) ?_; (with_reducible refine (comfitref07_Mirror.calls k a0 t147 _ A8.out).mono ?_); rintro e w35 ⟨rfl, hb⟩; refine ⟨_, rfl, ?_⟩; have n0_ := Aside0.mk (below_step (by repeat (first | (with_reducible first | exact HB.out | apply below_alloc | apply pw_below_drewN | apply below_drew1) | exact HB.out)) hb); clear HB; have HB := n0_; clear n0_; (try clear hb); (try clear hb2); (try clear hk); (try clear hi)) | (go_at_call 29; (with_reducible refine (comfitref07_Quarter.calls a0 t148 _ A10.out).mono ?_); rintro e w36 ⟨rfl, hb⟩; have n0_ := Aside0.mk (below_step (by repeat (first | (with_reducible first | exact HB.out | apply below_alloc | apply pw_below_drewN | apply below_drew1) | exact HB.out)) hb); clear HB; have HB := n0_; clear n0_; (try clear hb); (try clear hb2); (try clear hk); (try clear hi)))
          go_ret
          exact ⟨by first | rfl | (simp [errW_none, errW_some] <;> rfl) | (simp [*, errW_none, errW_some] <;> rfl), by repeat (first | (with_reducible first | exact HB.out | apply below_alloc | apply pw_below_drewN | apply below_drew1) | exact HB.out)⟩
      · rw [if_neg c11] at H
        have c11b0 : (t144.toList == t148.toList) = false := beq_eq_false_iff_ne.mpr c11
        have c11b1 : (t144.toList != t148.toList) = true := bne_iff_ne.mpr c11
        obtain rfl := Option.some.inj H
        go_enter Tryd.func5, Tryd.ntmps5
        go_wp2_with (first | ((with_reducible refine gate_callee (f := 18) rfl ?_); refine goesL_ (some 9) rfl rfl Tryd.func18 (by kernel_rfl) rfl #[.string a0] rfl (by (try simp only [List.map_toArray, List.map_cons, List.map_nil]); first | done | rfl | (simp only [List.length_drop, List.length_take]; rfl)) ?_; (with_reducible refine (Go.Proofs.YtpfenoioeajkmaaDoor.PA.comfitlaw07_text.calls a0 t140 _ A2.out).mono ?_); rintro e w37 ⟨rfl, hb⟩; refine ⟨_, rfl, ?_⟩; have n0_ := Aside0.mk (below_step (by repeat (first | (with_reducible first | exact HB.out | apply below_alloc | apply pw_below_drewN | apply below_drew1) | exact HB.out)) hb); clear HB; have HB := n0_; clear n0_; (try clear hb); (try clear hb2); (try clear hk); (try clear hi)) | ((with_reducible refine gate_callee (f := 26) rfl ?_); refine goesL_ (some 10) rfl rfl Tryd.func26 (by kernel_rfl) rfl #[.string t140] rfl (by (try simp only [List.map_toArray, List.map_cons, List.map_nil]); first | done | rfl | (simp only [List.length_drop, List.length_take]; rfl)) ?_; (with_reducible refine (moulds_Mirror.calls t140 t141 t142 _ A3.out).mono ?_); rintro e w38 ⟨rfl, hb⟩; refine ⟨_, rfl, ?_⟩; have n0_ := Aside0.mk (below_step (by repeat (first | (with_reducible first | exact HB.out | apply below_alloc | apply pw_below_drewN | apply below_drew1) | exact HB.out)) hb); clear HB; have HB := n0_; clear n0_; (try clear hb); (try clear hb2); (try clear hk); (try clear hi)) | ((with_reducible refine gate_callee (f := 18) rfl ?_); refine goesL_ (some 15) rfl rfl Tryd.func18 (by kernel_rfl) rfl #[.string a0] rfl (by (try simp only [List.map_toArray, List.map_cons, List.map_nil]); first | done | rfl | (simp only [List.length_drop, List.length_take]; rfl)) ?_; (with_reducible refine (Go.Proofs.YtpfenoioeajkmaaDoor.PA.comfitlaw07_text.calls a0 t143 _ A4.out).mono ?_); rintro e w39 ⟨rfl, hb⟩; refine ⟨_, rfl, ?_⟩; have n0_ := Aside0.mk (below_step (by repeat (first | (with_reducible first | exact HB.out | apply below_alloc | apply pw_below_drewN | apply below_drew1) | exact HB.out)) hb); clear HB; have HB := n0_; clear n0_; (try clear hb); (try clear hb2); (try clear hk); (try clear hi)) | ((with_reducible refine gate_callee (f := 27) rfl ?_); refine goesL_ (some 16) rfl rfl Tryd.func27 (by kernel_rfl) rfl #[.string t143] rfl (by (try simp only [List.map_toArray, List.map_cons, List.map_nil]); first | done | rfl | (simp only [List.length_drop, List.length_take]; rfl)) ?_; (with_reducible refine (moulds_Quarter.calls t143 t144 t145 _ A5.out).mono ?_); rintro e w40 ⟨rfl, hb⟩; refine ⟨_, rfl, ?_⟩; have n0_ := Aside0.mk (below_step (by repeat (first | (with_reducible first | exact HB.out | apply below_alloc | apply pw_below_drewN | apply below_drew1) | exact HB.out)) hb); clear HB; have HB := n0_; clear n0_; (try clear hb); (try clear hb2); (try clear hk); (try clear hi)) | ((with_reducible refine gate_callee (f := 24) rfl ?_); refine goesL_ (some 20) rfl rfl Tryd.func24 (by kernel_rfl) rfl #[.string a0] rfl (by (try simp only [List.map_toArray, List.map_cons, List.map_nil]); first | done | rfl | (simp only [List.length_drop, List.length_take]; rfl)) ?_; (with_reducible refine (Go.Proofs.YtpfenoioeajkmaaDoor.X.ref_Is.calls a0 true _ A6.out).mono ?_); rintro e w41 ⟨rfl, hb⟩; refine ⟨_, rfl, ?_⟩; have n0_ := Aside0.mk (below_step (by repeat (first | (with_reducible first | exact HB.out | apply below_alloc | apply pw_below_drewN | apply below_drew1) | exact HB.out)) hb); clear HB; have HB := n0_; clear n0_; (try clear hb); (try clear hb2); (try clear hk); (try clear hi)) | ((with_reducible refine gate_callee (f := 28) rfl ?_); refine goesL_ (some 41) rfl rfl Tryd.func28 (by kernel_rfl) rfl #[.string a0] rfl (by (try simp only [List.map_toArray, List.map_cons, List.map_nil]); first | done | rfl | (simp only [List.length_drop, List.length_take]; rfl)) ?_; (with_reducible refine (comfitref07_Mirror.calls k a0 t147 _ A8.out).mono ?_); rintro e w42 ⟨rfl, hb⟩; refine ⟨_, rfl, ?_⟩; have n0_ := Aside0.mk (below_step (by repeat (first | (with_reducible first | exact HB.out | apply below_alloc | apply pw_below_drewN | apply below_drew1) | exact HB.out)) hb); clear HB; have HB := n0_; clear n0_; (try clear hb); (try clear hb2); (try clear hk); (try clear hi)) | (go_at_call 29; (with_reducible refine (comfitref07_Quarter.calls a0 t148 _ A10.out).mono ?_); rintro e w43 ⟨rfl, hb⟩; have n0_ := Aside0.mk (below_step (by repeat (first | (with_reducible first | exact HB.out | apply below_alloc | apply pw_below_drewN | apply below_drew1) | exact HB.out)) hb); clear HB; have HB := n0_; clear n0_; (try clear hb); (try clear hb2); (try clear hk); (try clear hi)))
        go_ret
        exact ⟨by first | rfl | (simp [errW_none, errW_some] <;> rfl) | (simp [*, errW_none, errW_some] <;> rfl), by repeat (first | (with_reducible first | exact HB.out | apply below_alloc | apply pw_below_drewN | apply below_drew1) | exact HB.out)⟩
    · rw [if_neg c9] at H
      have c9b0 : (t141.toList == t147.toList) = false := beq_eq_false_iff_ne.mpr c9
      have c9b1 : (t141.toList != t147.toList) = true := bne_iff_ne.mpr c9
      obtain rfl := Option.some.inj H
      go_enter Tryd.func5, Tryd.ntmps5
      go_wp2_with (first | ((with_reducible refine gate_callee (f := 18) rfl ?_); refine goesL_ (some 9) rfl rfl Tryd.func18 (by kernel_rfl) rfl #[.string a0] rfl (by (try simp only [List.map_toArray, List.map_cons, List.map_nil]); first | done | rfl | (simp only [List.length_drop, List.length_take]; rfl)) ?_; (with_reducible refine (Go.Proofs.YtpfenoioeajkmaaDoor.PA.comfitlaw07_text.calls a0 t140 _ A2.out).mono ?_); rintro e w44 ⟨rfl, hb⟩; refine ⟨_, rfl, ?_⟩; have n0_ := Aside0.mk (below_step (by repeat (first | (with_reducible first | exact HB.out | apply below_alloc | apply pw_below_drewN | apply below_drew1) | exact HB.out)) hb); clear HB; have HB := n0_; clear n0_; (try clear hb); (try clear hb2); (try clear hk); (try clear hi)) | ((with_reducible refine gate_callee (f := 26) rfl ?_); refine goesL_ (some 10) rfl rfl Tryd.func26 (by kernel_rfl) rfl #[.string t140] rfl (by (try simp only [List.map_toArray, List.map_cons, List.map_nil]); first | done | rfl | (simp only [List.length_drop, List.length_take]; rfl)) ?_; (with_reducible refine (moulds_Mirror.calls t140 t141 t142 _ A3.out).mono ?_); rintro e w45 ⟨rfl, hb⟩; refine ⟨_, rfl, ?_⟩; have n0_ := Aside0.mk (below_step (by repeat (first | (with_reducible first | exact HB.out | apply below_alloc | apply pw_below_drewN | apply below_drew1) | exact HB.out)) hb); clear HB; have HB := n0_; clear n0_; (try clear hb); (try clear hb2); (try clear hk); (try clear hi)) | ((with_reducible refine gate_callee (f := 18) rfl ?_); refine goesL_ (some 15) rfl rfl Tryd.func18 (by kernel_rfl) rfl #[.string a0] rfl (by (try simp only [List.map_toArray, List.map_cons, List.map_nil]); first | done | rfl | (simp only [List.length_drop, List.length_take]; rfl)) ?_; (with_reducible refine (Go.Proofs.YtpfenoioeajkmaaDoor.PA.comfitlaw07_text.calls a0 t143 _ A4.out).mono ?_); rintro e w46 ⟨rfl, hb⟩; refine ⟨_, rfl, ?_⟩; have n0_ := Aside0.mk (below_step (by repeat (first | (with_reducible first | exact HB.out | apply below_alloc | apply pw_below_drewN | apply below_drew1) | exact HB.out)) hb); clear HB; have HB := n0_; clear n0_; (try clear hb); (try clear hb2); (try clear hk); (try clear hi)) | ((with_reducible refine gate_callee (f := 27) rfl ?_); refine goesL_ (some 16) rfl rfl Tryd.func27 (by kernel_rfl) rfl #[.string t143] rfl (by (try simp only [List.map_toArray, List.map_cons, List.map_nil]); first | done | rfl | (simp only [List.length_drop, List.length_take]; rfl)) ?_; (with_reducible refine (moulds_Quarter.calls t143 t144 t145 _ A5.out).mono ?_); rintro e w47 ⟨rfl, hb⟩; refine ⟨_, rfl, ?_⟩; have n0_ := Aside0.mk (below_step (by repeat (first | (with_reducible first | exact HB.out | apply below_alloc | apply pw_below_drewN | apply below_drew1) | exact HB.out)) hb); clear HB; have HB := n0_; clear n0_; (try clear hb); (try clear hb2); (try clear hk); (try clear hi)) | ((with_reducible refine gate_callee (f := 24) rfl ?_); refine goesL_ (some 20) rfl rfl Tryd.func24 (by kernel_rfl) rfl #[.string a0] rfl (by (try simp only [List.map_toArray, List.map_cons, List.map_nil]); first | done | rfl | (simp only [List.length_drop, List.length_take]; rfl)) ?_; (with_reducible refine (Go.Proofs.YtpfenoioeajkmaaDoor.X.ref_Is.calls a0 true _ A6.out).mono ?_); rintro e w48 ⟨rfl, hb⟩; refine ⟨_, rfl, ?_⟩; have n0_ := Aside0.mk (below_step (by repeat (first | (with_reducible first | exact HB.out | apply below_alloc | apply pw_below_drewN | apply below_drew1) | exact HB.out)) hb); clear HB; have HB := n0_; clear n0_; (try clear hb); (try clear hb2); (try clear hk); (try clear hi)) | ((with_reducible refine gate_callee (f := 28) rfl ?_); refine goesL_ (some 41) rfl rfl Tryd.func28 (by kernel_rfl) rfl #[.string a0] rfl (by (try simp only [List.map_toArray, List.map_cons, List.map_nil]); first | done | rfl | (simp only [List.length_drop, List.length_take]; rfl)) ?_; (with_reducible refine (comfitref07_Mirror.calls k a0 t147 _ A8.out).mono ?_); rintro e w49 ⟨rfl, hb⟩; refine ⟨_, rfl, ?_⟩; have n0_ := Aside0.mk (below_step (by repeat (first | (with_reducible first | exact HB.out | apply below_alloc | apply pw_below_drewN | apply below_drew1) | exact HB.out)) hb); clear HB; have HB := n0_; clear n0_; (try clear hb); (try clear hb2); (try clear hk); (try clear hi)))
      go_ret
      exact ⟨by first | rfl | (simp [errW_none, errW_some] <;> rfl) | (simp [*, errW_none, errW_some] <;> rfl), by repeat (first | (with_reducible first | exact HB.out | apply below_alloc | apply pw_below_drewN | apply below_drew1) | exact HB.out)⟩
  · replace c7 := Bool.eq_false_iff.mpr c7
    subst c7
    have H1 : (if t141.toList = ([] : List UInt8) then (if t144.toList = ([] : List UInt8) then (if t142 = 2 then (if t145 = 2 then ((comfitlaw07_awake.f).bind fun t150 => (some t150)) else (some false)) else (some false)) else (some false)) else (some false)) = some r := by rw [if_neg (show ¬ (false = true) by decide)] at H; exact H
    clear H
    have H := H1
    clear H1
    by_cases c50 : t141.toList = ([] : List UInt8)
    · rw [if_pos c50] at H
      have c50b0 : (t141.toList == ([] : List UInt8)) = true := beq_iff_eq.mpr c50
      have c50b1 : (t141.toList != ([] : List UInt8)) = false := bne_eq_false_iff_eq.mpr c50
      clear c50
      by_cases c51 : t144.toList = ([] : List UInt8)
      · rw [if_pos c51] at H
        have c51b0 : (t144.toList == ([] : List UInt8)) = true := beq_iff_eq.mpr c51
        have c51b1 : (t144.toList != ([] : List UInt8)) = false := bne_eq_false_iff_eq.mpr c51
        clear c51
        by_cases c52 : t142 = 2
        · rw [if_pos c52] at H
          have c52b0 : (t142 == 2) = true := beq_iff_eq.mpr c52
          have c52b1 : (t142 != 2) = false := bne_eq_false_iff_eq.mpr c52
          clear c52
          by_cases c53 : t145 = 2
          · rw [if_pos c53] at H
            have c53b0 : (t145 == 2) = true := beq_iff_eq.mpr c53
            have c53b1 : (t145 != 2) = false := bne_eq_false_iff_eq.mpr c53
            clear c53
            replace H := Option.bind_eq_some_iff.mp H
            obtain ⟨t150, A540, H⟩ := H
            replace H : (some t150) = some r := H
            have A54 := Aside0.mk A540
            clear A540
            obtain rfl := Option.some.inj H
            go_enter Tryd.func5, Tryd.ntmps5
            go_wp2_with (first | ((with_reducible refine gate_callee (f := 18) rfl ?_); refine goesL_ (some 9) rfl rfl Tryd.func18 (by kernel_rfl) rfl #[.string a0] rfl (by (try simp only [List.map_toArray, List.map_cons, List.map_nil]); first | done | rfl | (simp only [List.length_drop, List.length_take]; rfl)) ?_; (with_reducible refine (Go.Proofs.YtpfenoioeajkmaaDoor.PA.comfitlaw07_text.calls a0 t140 _ A2.out).mono ?_); rintro e w55 ⟨rfl, hb⟩; refine ⟨_, rfl, ?_⟩; have n0_ := Aside0.mk (below_step (by repeat (first | (with_reducible first | exact HB.out | apply below_alloc | apply pw_below_drewN | apply below_drew1) | exact HB.out)) hb); clear HB; have HB := n0_; clear n0_; (try clear hb); (try clear hb2); (try clear hk); (try clear hi)) | ((with_reducible refine gate_callee (f := 26) rfl ?_); refine goesL_ (some 10) rfl rfl Tryd.func26 (by kernel_rfl) rfl #[.string t140] rfl (by (try simp only [List.map_toArray, List.map_cons, List.map_nil]); first | done | rfl | (simp only [List.length_drop, List.length_take]; rfl)) ?_; (with_reducible refine (moulds_Mirror.calls t140 t141 t142 _ A3.out).mono ?_); rintro e w56 ⟨rfl, hb⟩; refine ⟨_, rfl, ?_⟩; have n0_ := Aside0.mk (below_step (by repeat (first | (with_reducible first | exact HB.out | apply below_alloc | apply pw_below_drewN | apply below_drew1) | exact HB.out)) hb); clear HB; have HB := n0_; clear n0_; (try clear hb); (try clear hb2); (try clear hk); (try clear hi)) | ((with_reducible refine gate_callee (f := 18) rfl ?_); refine goesL_ (some 15) rfl rfl Tryd.func18 (by kernel_rfl) rfl #[.string a0] rfl (by (try simp only [List.map_toArray, List.map_cons, List.map_nil]); first | done | rfl | (simp only [List.length_drop, List.length_take]; rfl)) ?_; (with_reducible refine (Go.Proofs.YtpfenoioeajkmaaDoor.PA.comfitlaw07_text.calls a0 t143 _ A4.out).mono ?_); rintro e w57 ⟨rfl, hb⟩; refine ⟨_, rfl, ?_⟩; have n0_ := Aside0.mk (below_step (by repeat (first | (with_reducible first | exact HB.out | apply below_alloc | apply pw_below_drewN | apply below_drew1) | exact HB.out)) hb); clear HB; have HB := n0_; clear n0_; (try clear hb); (try clear hb2); (try clear hk); (try clear hi)) | ((with_reducible refine gate_callee (f := 27) rfl ?_); refine goesL_ (some 16) rfl rfl Tryd.func27 (by kernel_rfl) rfl #[.string t143] rfl (by (try simp only [List.map_toArray, List.map_cons, List.map_nil]); first | done | rfl | (simp only [List.length_drop, List.length_take]; rfl)) ?_; (with_reducible refine (moulds_Quarter.calls t143 t144 t145 _ A5.out).mono ?_); rintro e w58 ⟨rfl, hb⟩; refine ⟨_, rfl, ?_⟩; have n0_ := Aside0.mk (below_step (by repeat (first | (with_reducible first | exact HB.out | apply below_alloc | apply pw_below_drewN | apply below_drew1) | exact HB.out)) hb); clear HB; have HB := n0_; clear n0_; (try clear hb); (try clear hb2); (try clear hk); (try clear hi)) | ((with_reducible refine gate_callee (f := 24) rfl ?_); refine goesL_ (some 20) rfl rfl Tryd.func24 (by kernel_rfl) rfl #[.string a0] rfl (by (try simp only [List.map_toArray, List.map_cons, List.map_nil]); first | done | rfl | (simp only [List.length_drop, List.length_take]; rfl)) ?_; (with_reducible refine (Go.Proofs.YtpfenoioeajkmaaDoor.X.ref_Is.calls a0 false _ A6.out).mono ?_); rintro e w59 ⟨rfl, hb⟩; refine ⟨_, rfl, ?_⟩; have n0_ := Aside0.mk (below_step (by repeat (first | (with_reducible first | exact HB.out | apply below_alloc | apply pw_below_drewN | apply below_drew1) | exact HB.out)) hb); clear HB; have HB := n0_; clear n0_; (try clear hb); (try clear hb2); (try clear hk); (try clear hi)) | (go_at_call 20; (with_reducible refine (comfitlaw07_awake.calls  t150 _ A54.out).mono ?_); rintro e w60 ⟨rfl, hb⟩; have n0_ := Aside0.mk (below_step (by repeat (first | (with_reducible first | exact HB.out | apply below_alloc | apply pw_below_drewN | apply below_drew1) | exact HB.out)) hb); clear HB; have HB := n0_; clear n0_; (try clear hb); (try clear hb2); (try clear hk); (try clear hi)))
            go_ret
            exact ⟨by first | rfl | (simp [errW_none, errW_some] <;> rfl) | (simp [*, errW_none, errW_some] <;> rfl), by repeat (first | (with_reducible first | exact HB.out | apply below_alloc | apply pw_below_drewN | apply below_drew1) | exact HB.out)⟩
          · rw [if_neg c53] at H
            have c53b0 : (t145 == 2) = false := beq_eq_false_iff_ne.mpr c53
            have c53b1 : (t145 != 2) = true := bne_iff_ne.mpr c53
            obtain rfl := Option.some.inj H
            go_enter Tryd.func5, Tryd.ntmps5
            go_wp2_with (first | ((with_reducible refine gate_callee (f := 18) rfl ?_); refine goesL_ (some 9) rfl rfl Tryd.func18 (by kernel_rfl) rfl #[.string a0] rfl (by (try simp only [List.map_toArray, List.map_cons, List.map_nil]); first | done | rfl | (simp only [List.length_drop, List.length_take]; rfl)) ?_; (with_reducible refine (Go.Proofs.YtpfenoioeajkmaaDoor.PA.comfitlaw07_text.calls a0 t140 _ A2.out).mono ?_); rintro e w61 ⟨rfl, hb⟩; refine ⟨_, rfl, ?_⟩; have n0_ := Aside0.mk (below_step (by repeat (first | (with_reducible first | exact HB.out | apply below_alloc | apply pw_below_drewN | apply below_drew1) | exact HB.out)) hb); clear HB; have HB := n0_; clear n0_; (try clear hb); (try clear hb2); (try clear hk); (try clear hi)) | ((with_reducible refine gate_callee (f := 26) rfl ?_); refine goesL_ (some 10) rfl rfl Tryd.func26 (by kernel_rfl) rfl #[.string t140] rfl (by (try simp only [List.map_toArray, List.map_cons, List.map_nil]); first | done | rfl | (simp only [List.length_drop, List.length_take]; rfl)) ?_; (with_reducible refine (moulds_Mirror.calls t140 t141 t142 _ A3.out).mono ?_); rintro e w62 ⟨rfl, hb⟩; refine ⟨_, rfl, ?_⟩; have n0_ := Aside0.mk (below_step (by repeat (first | (with_reducible first | exact HB.out | apply below_alloc | apply pw_below_drewN | apply below_drew1) | exact HB.out)) hb); clear HB; have HB := n0_; clear n0_; (try clear hb); (try clear hb2); (try clear hk); (try clear hi)) | ((with_reducible refine gate_callee (f := 18) rfl ?_); refine goesL_ (some 15) rfl rfl Tryd.func18 (by kernel_rfl) rfl #[.string a0] rfl (by (try simp only [List.map_toArray, List.map_cons, List.map_nil]); first | done | rfl | (simp only [List.length_drop, List.length_take]; rfl)) ?_; (with_reducible refine (Go.Proofs.YtpfenoioeajkmaaDoor.PA.comfitlaw07_text.calls a0 t143 _ A4.out).mono ?_); rintro e w63 ⟨rfl, hb⟩; refine ⟨_, rfl, ?_⟩; have n0_ := Aside0.mk (below_step (by repeat (first | (with_reducible first | exact HB.out | apply below_alloc | apply pw_below_drewN | apply below_drew1) | exact HB.out)) hb); clear HB; have HB := n0_; clear n0_; (try clear hb); (try clear hb2); (try clear hk); (try clear hi)) | ((with_reducible refine gate_callee (f := 27) rfl ?_); refine goesL_ (some 16) rfl rfl Tryd.func27 (by kernel_rfl) rfl #[.string t143] rfl (by (try simp only [List.map_toArray, List.map_cons, List.map_nil]); first | done | rfl | (simp only [List.length_drop, List.length_take]; rfl)) ?_; (with_reducible refine (moulds_Quarter.calls t143 t144 t145 _ A5.out).mono ?_); rintro e w64 ⟨rfl, hb⟩; refine ⟨_, rfl, ?_⟩; have n0_ := Aside0.mk (below_step (by repeat (first | (with_reducible first | exact HB.out | apply below_alloc | apply pw_below_drewN | apply below_drew1) | exact HB.out)) hb); clear HB; have HB := n0_; clear n0_; (try clear hb); (try clear hb2); (try clear hk); (try clear hi)) | ((with_reducible refine gate_callee (f := 24) rfl ?_); refine goesL_ (some 20) rfl rfl Tryd.func24 (by kernel_rfl) rfl #[.string a0] rfl (by (try simp only [List.map_toArray, List.map_cons, List.map_nil]); first | done | rfl | (simp only [List.length_drop, List.length_take]; rfl)) ?_; (with_reducible refine (Go.Proofs.YtpfenoioeajkmaaDoor.X.ref_Is.calls a0 false _ A6.out).mono ?_); rintro e w65 ⟨rfl, hb⟩; refine ⟨_, rfl, ?_⟩; have n0_ := Aside0.mk (below_step (by repeat (first | (with_reducible first | exact HB.out | apply below_alloc | apply pw_below_drewN | apply below_drew1) | exact HB.out)) hb); clear HB; have HB := n0_; clear n0_; (try clear hb); (try clear hb2); (try clear hk); (try clear hi)))
            go_ret
            exact ⟨by first | rfl | (simp [errW_none, errW_some] <;> rfl) | (simp [*, errW_none, errW_some] <;> rfl), by repeat (first | (with_reducible first | exact HB.out | apply below_alloc | apply pw_below_drewN | apply below_drew1) | exact HB.out)⟩
        · rw [if_neg c52] at H
          have c52b0 : (t142 == 2) = false := beq_eq_false_iff_ne.mpr c52
          have c52b1 : (t142 != 2) = true := bne_iff_ne.mpr c52
          obtain rfl := Option.some.inj H
          go_enter Tryd.func5, Tryd.ntmps5
          go_wp2_with (first | ((with_reducible refine gate_callee (f := 18) rfl ?_); refine goesL_ (some 9) rfl rfl Tryd.func18 (by kernel_rfl) rfl #[.string a0] rfl (by (try simp only [List.map_toArray, List.map_cons, List.map_nil]); first | done | rfl | (simp only [List.length_drop, List.length_take]; rfl)) ?_; (with_reducible refine (Go.Proofs.YtpfenoioeajkmaaDoor.PA.comfitlaw07_text.calls a0 t140 _ A2.out).mono ?_); rintro e w66 ⟨rfl, hb⟩; refine ⟨_, rfl, ?_⟩; have n0_ := Aside0.mk (below_step (by repeat (first | (with_reducible first | exact HB.out | apply below_alloc | apply pw_below_drewN | apply below_drew1) | exact HB.out)) hb); clear HB; have HB := n0_; clear n0_; (try clear hb); (try clear hb2); (try clear hk); (try clear hi)) | ((with_reducible refine gate_callee (f := 26) rfl ?_); refine goesL_ (some 10) rfl rfl Tryd.func26 (by kernel_rfl) rfl #[.string t140] rfl (by (try simp only [List.map_toArray, List.map_cons, List.map_nil]); first | done | rfl | (simp only [List.length_drop, List.length_take]; rfl)) ?_; (with_reducible refine (moulds_Mirror.calls t140 t141 t142 _ A3.out).mono ?_); rintro e w67 ⟨rfl, hb⟩; refine ⟨_, rfl, ?_⟩; have n0_ := Aside0.mk (below_step (by repeat (first | (with_reducible first | exact HB.out | apply below_alloc | apply pw_below_drewN | apply below_drew1) | exact HB.out)) hb); clear HB; have HB := n0_; clear n0_; (try clear hb); (try clear hb2); (try clear hk); (try clear hi)) | ((with_reducible refine gate_callee (f := 18) rfl ?_); refine goesL_ (some 15) rfl rfl Tryd.func18 (by kernel_rfl) rfl #[.string a0] rfl (by (try simp only [List.map_toArray, List.map_cons, List.map_nil]); first | done | rfl | (simp only [List.length_drop, List.length_take]; rfl)) ?_; (with_reducible refine (Go.Proofs.YtpfenoioeajkmaaDoor.PA.comfitlaw07_text.calls a0 t143 _ A4.out).mono ?_); rintro e w68 ⟨rfl, hb⟩; refine ⟨_, rfl, ?_⟩; have n0_ := Aside0.mk (below_step (by repeat (first | (with_reducible first | exact HB.out | apply below_alloc | apply pw_below_drewN | apply below_drew1) | exact HB.out)) hb); clear HB; have HB := n0_; clear n0_; (try clear hb); (try clear hb2); (try clear hk); (try clear hi)) | ((with_reducible refine gate_callee (f := 27) rfl ?_); refine goesL_ (some 16) rfl rfl Tryd.func27 (by kernel_rfl) rfl #[.string t143] rfl (by (try simp only [List.map_toArray, List.map_cons, List.map_nil]); first | done | rfl | (simp only [List.length_drop, List.length_take]; rfl)) ?_; (with_reducible refine (moulds_Quarter.calls t143 t144 t145 _ A5.out).mono ?_); rintro e w69 ⟨rfl, hb⟩; refine ⟨_, rfl, ?_⟩; have n0_ := Aside0.mk (below_step (by repeat (first | (with_reducible first | exact HB.out | apply below_alloc | apply pw_below_drewN | apply below_drew1) | exact HB.out)) hb); clear HB; have HB := n0_; clear n0_; (try clear hb); (try clear hb2); (try clear hk); (try clear hi)) | ((with_reducible refine gate_callee (f := 24) rfl ?_); refine goesL_ (some 20) rfl rfl Tryd.func24 (by kernel_rfl) rfl #[.string a0] rfl (by (try simp only [List.map_toArray, List.map_cons, List.map_nil]); first | done | rfl | (simp only [List.length_drop, List.length_take]; rfl)) ?_; (with_reducible refine (Go.Proofs.YtpfenoioeajkmaaDoor.X.ref_Is.calls a0 false _ A6.out).mono ?_); rintro e w70 ⟨rfl, hb⟩; refine ⟨_, rfl, ?_⟩; have n0_ := Aside0.mk (below_step (by repeat (first | (with_reducible first | exact HB.out | apply below_alloc | apply pw_below_drewN | apply below_drew1) | exact HB.out)) hb); clear HB; have HB := n0_; clear n0_; (try clear hb); (try clear hb2); (try clear hk); (try clear hi)))
          go_ret
          exact ⟨by first | rfl | (simp [errW_none, errW_some] <;> rfl) | (simp [*, errW_none, errW_some] <;> rfl), by repeat (first | (with_reducible first | exact HB.out | apply below_alloc | apply pw_below_drewN | apply below_drew1) | exact HB.out)⟩
      · rw [if_neg c51] at H
        have c51b0 : (t144.toList == ([] : List UInt8)) = false := beq_eq_false_iff_ne.mpr c51
        have c51b1 : (t144.toList != ([] : List UInt8)) = true := bne_iff_ne.mpr c51
        obtain rfl := Option.some.inj H
        go_enter Tryd.func5, Tryd.ntmps5
        go_wp2_with (first | ((with_reducible refine gate_callee (f := 18) rfl ?_); refine goesL_ (some 9) rfl rfl Tryd.func18 (by kernel_rfl) rfl #[.string a0] rfl (by (try simp only [List.map_toArray, List.map_cons, List.map_nil]); first | done | rfl | (simp only [List.length_drop, List.length_take]; rfl)) ?_; (with_reducible refine (Go.Proofs.YtpfenoioeajkmaaDoor.PA.comfitlaw07_text.calls a0 t140 _ A2.out).mono ?_); rintro e w71 ⟨rfl, hb⟩; refine ⟨_, rfl, ?_⟩; have n0_ := Aside0.mk (below_step (by repeat (first | (with_reducible first | exact HB.out | apply below_alloc | apply pw_below_drewN | apply below_drew1) | exact HB.out)) hb); clear HB; have HB := n0_; clear n0_; (try clear hb); (try clear hb2); (try clear hk); (try clear hi)) | ((with_reducible refine gate_callee (f := 26) rfl ?_); refine goesL_ (some 10) rfl rfl Tryd.func26 (by kernel_rfl) rfl #[.string t140] rfl (by (try simp only [List.map_toArray, List.map_cons, List.map_nil]); first | done | rfl | (simp only [List.length_drop, List.length_take]; rfl)) ?_; (with_reducible refine (moulds_Mirror.calls t140 t141 t142 _ A3.out).mono ?_); rintro e w72 ⟨rfl, hb⟩; refine ⟨_, rfl, ?_⟩; have n0_ := Aside0.mk (below_step (by repeat (first | (with_reducible first | exact HB.out | apply below_alloc | apply pw_below_drewN | apply below_drew1) | exact HB.out)) hb); clear HB; have HB := n0_; clear n0_; (try clear hb); (try clear hb2); (try clear hk); (try clear hi)) | ((with_reducible refine gate_callee (f := 18) rfl ?_); refine goesL_ (some 15) rfl rfl Tryd.func18 (by kernel_rfl) rfl #[.string a0] rfl (by (try simp only [List.map_toArray, List.map_cons, List.map_nil]); first | done | rfl | (simp only [List.length_drop, List.length_take]; rfl)) ?_; (with_reducible refine (Go.Proofs.YtpfenoioeajkmaaDoor.PA.comfitlaw07_text.calls a0 t143 _ A4.out).mono ?_); rintro e w73 ⟨rfl, hb⟩; refine ⟨_, rfl, ?_⟩; have n0_ := Aside0.mk (below_step (by repeat (first | (with_reducible first | exact HB.out | apply below_alloc | apply pw_below_drewN | apply below_drew1) | exact HB.out)) hb); clear HB; have HB := n0_; clear n0_; (try clear hb); (try clear hb2); (try clear hk); (try clear hi)) | ((with_reducible refine gate_callee (f := 27) rfl ?_); refine goesL_ (some 16) rfl rfl Tryd.func27 (by kernel_rfl) rfl #[.string t143] rfl (by (try simp only [List.map_toArray, List.map_cons, List.map_nil]); first | done | rfl | (simp only [List.length_drop, List.length_take]; rfl)) ?_; (with_reducible refine (moulds_Quarter.calls t143 t144 t145 _ A5.out).mono ?_); rintro e w74 ⟨rfl, hb⟩; refine ⟨_, rfl, ?_⟩; have n0_ := Aside0.mk (below_step (by repeat (first | (with_reducible first | exact HB.out | apply below_alloc | apply pw_below_drewN | apply below_drew1) | exact HB.out)) hb); clear HB; have HB := n0_; clear n0_; (try clear hb); (try clear hb2); (try clear hk); (try clear hi)) | ((with_reducible refine gate_callee (f := 24) rfl ?_); refine goesL_ (some 20) rfl rfl Tryd.func24 (by kernel_rfl) rfl #[.string a0] rfl (by (try simp only [List.map_toArray, List.map_cons, List.map_nil]); first | done | rfl | (simp only [List.length_drop, List.length_take]; rfl)) ?_; (with_reducible refine (Go.Proofs.YtpfenoioeajkmaaDoor.X.ref_Is.calls a0 false _ A6.out).mono ?_); rintro e w75 ⟨rfl, hb⟩; refine ⟨_, rfl, ?_⟩; have n0_ := Aside0.mk (below_step (by repeat (first | (with_reducible first | exact HB.out | apply below_alloc | apply pw_below_drewN | apply below_drew1) | exact HB.out)) hb); clear HB; have HB := n0_; clear n0_; (try clear hb); (try clear hb2); (try clear hk); (try clear hi)))
        go_ret
        exact ⟨by first | rfl | (simp [errW_none, errW_some] <;> rfl) | (simp [*, errW_none, errW_some] <;> rfl), by repeat (first | (with_reducible first | exact HB.out | apply below_alloc | apply pw_below_drewN | apply below_drew1) | exact HB.out)⟩
    · rw [if_neg c50] at H
      have c50b0 : (t141.toList == ([] : List UInt8)) = false := beq_eq_false_iff_ne.mpr c50
      have c50b1 : (t141.toList != ([] : List UInt8)) = true := bne_iff_ne.mpr c50
      obtain rfl := Option.some.inj H
      go_enter Tryd.func5, Tryd.ntmps5
      go_wp2_with (first | ((with_reducible refine gate_callee (f := 18) rfl ?_); refine goesL_ (some 9) rfl rfl Tryd.func18 (by kernel_rfl) rfl #[.string a0] rfl (by (try simp only [List.map_toArray, List.map_cons, List.map_nil]); first | done | rfl | (simp only [List.length_drop, List.length_take]; rfl)) ?_; (with_reducible refine (Go.Proofs.YtpfenoioeajkmaaDoor.PA.comfitlaw07_text.calls a0 t140 _ A2.out).mono ?_); rintro e w76 ⟨rfl, hb⟩; refine ⟨_, rfl, ?_⟩; have n0_ := Aside0.mk (below_step (by repeat (first | (with_reducible first | exact HB.out | apply below_alloc | apply pw_below_drewN | apply below_drew1) | exact HB.out)) hb); clear HB; have HB := n0_; clear n0_; (try clear hb); (try clear hb2); (try clear hk); (try clear hi)) | ((with_reducible refine gate_callee (f := 26) rfl ?_); refine goesL_ (some 10) rfl rfl Tryd.func26 (by kernel_rfl) rfl #[.string t140] rfl (by (try simp only [List.map_toArray, List.map_cons, List.map_nil]); first | done | rfl | (simp only [List.length_drop, List.length_take]; rfl)) ?_; (with_reducible refine (moulds_Mirror.calls t140 t141 t142 _ A3.out).mono ?_); rintro e w77 ⟨rfl, hb⟩; refine ⟨_, rfl, ?_⟩; have n0_ := Aside0.mk (below_step (by repeat (first | (with_reducible first | exact HB.out | apply below_alloc | apply pw_below_drewN | apply below_drew1) | exact HB.out)) hb); clear HB; have HB := n0_; clear n0_; (try clear hb); (try clear hb2); (try clear hk); (try clear hi)) | ((with_reducible refine gate_callee (f := 18) rfl ?_); refine goesL_ (some 15) rfl rfl Tryd.func18 (by kernel_rfl) rfl #[.string a0] rfl (by (try simp only [List.map_toArray, List.map_cons, List.map_nil]); first | done | rfl | (simp only [List.length_drop, List.length_take]; rfl)) ?_; (with_reducible refine (Go.Proofs.YtpfenoioeajkmaaDoor.PA.comfitlaw07_text.calls a0 t143 _ A4.out).mono ?_); rintro e w78 ⟨rfl, hb⟩; refine ⟨_, rfl, ?_⟩; have n0_ := Aside0.mk (below_step (by repeat (first | (with_reducible first | exact HB.out | apply below_alloc | apply pw_below_drewN | apply below_drew1) | exact HB.out)) hb); clear HB; have HB := n0_; clear n0_; (try clear hb); (try clear hb2); (try clear hk); (try clear hi)) | ((with_reducible refine gate_callee (f := 27) rfl ?_); refine goesL_ (some 16) rfl rfl Tryd.func27 (by kernel_rfl) rfl #[.string t143] rfl (by (try simp only [List.map_toArray, List.map_cons, List.map_nil]); first | done | rfl | (simp only [List.length_drop, List.length_take]; rfl)) ?_; (with_reducible refine (moulds_Quarter.calls t143 t144 t145 _ A5.out).mono ?_); rintro e w79 ⟨rfl, hb⟩; refine ⟨_, rfl, ?_⟩; have n0_ := Aside0.mk (below_step (by repeat (first | (with_reducible first | exact HB.out | apply below_alloc | apply pw_below_drewN | apply below_drew1) | exact HB.out)) hb); clear HB; have HB := n0_; clear n0_; (try clear hb); (try clear hb2); (try clear hk); (try clear hi)) | ((with_reducible refine gate_callee (f := 24) rfl ?_); refine goesL_ (some 20) rfl rfl Tryd.func24 (by kernel_rfl) rfl #[.string a0] rfl (by (try simp only [List.map_toArray, List.map_cons, List.map_nil]); first | done | rfl | (simp only [List.length_drop, List.length_take]; rfl)) ?_; (with_reducible refine (Go.Proofs.YtpfenoioeajkmaaDoor.X.ref_Is.calls a0 false _ A6.out).mono ?_); rintro e w80 ⟨rfl, hb⟩; refine ⟨_, rfl, ?_⟩; have n0_ := Aside0.mk (below_step (by repeat (first | (with_reducible first | exact HB.out | apply below_alloc | apply pw_below_drewN | apply below_drew1) | exact HB.out)) hb); clear HB; have HB := n0_; clear n0_; (try clear hb); (try clear hb2); (try clear hk); (try clear hi)))
      go_ret
      exact ⟨by first | rfl | (simp [errW_none, errW_some] <;> rfl) | (simp [*, errW_none, errW_some] <;> rfl), by repeat (first | (with_reducible first | exact HB.out | apply below_alloc | apply pw_below_drewN | apply below_drew1) | exact HB.out)⟩
end Go.Proofs.YtpfenoioeajkmaaDoor.PB
end

section
set_option linter.unusedVariables false
set_option linter.unusedSimpArgs false
namespace Go.Proofs.YtpfenoioeajkmaaDoor.L
open Go.RowKit Go.Proofs.YtpfenoioeajkmaaDoorW.PrintWords Go.Proofs.YtpfenoioeajkmaaDoorW.PrintLast Go.Proofs.YtpfenoioeajkmaaDoorW.PrintMore Go.Proofs.YtpfenoioeajkmaaDoor.X
def isL (c : Int) : Prop := c = 114 ∨ c = 117 ∨ c = 108 ∨ c = 100
theorem bt_list (s : ByteArray) (i : Nat) (hi : i < s.size) : bt s i = ((s.data.toList[i]'(by rw [data_length]; exact hi)).toNat : Int) := by
  rw [← bt_at s i (by simpa using hi)]
  rfl
theorem lets_iff (b : UInt8) : lets.contains b = true ↔ isL (b.toNat : Int) := by
  unfold lets isL
  simp only [List.contains_cons, List.contains_nil, Bool.or_false, Bool.or_eq_true, beq_iff_eq]
  constructor
  · rintro (h | h | h | h) <;> subst h <;> simp
  · have e : ∀ n : Nat, n < 256 → (b.toNat : Int) = n → b = n.toUInt8 := fun n hn h => by
      apply UInt8.toNat_inj.1
      have : b.toNat = n := by omega
      rw [this]
      simp [Nat.toUInt8, UInt8.toNat_ofNat']
      omega
    rintro (h | h | h | h)
    · exact .inl (e 114 (by decide) h)
    · exact .inr (.inl (e 117 (by decide) h))
    · exact .inr (.inr (.inl (e 108 (by decide) h)))
    · exact .inr (.inr (.inr (e 100 (by decide) h)))
theorem isW_iff (s : ByteArray) : isW s = true ↔ s.size ≤ 24 ∧ ∀ i : Nat, i < s.size → isL (bt s i) := by
  unfold isW
  rw [Bool.and_eq_true, decide_eq_true_eq, List.all_eq_true]
  refine and_congr_right fun _ => ?_
  constructor
  · intro h i hi
    rw [bt_list s i hi]
    exact (lets_iff _).1 (h _ (List.getElem_mem _))
  · intro h b hb
    obtain ⟨i, hi, e⟩ := List.getElem_of_mem hb
    have hi' : i < s.size := by rw [← data_length]; exact hi
    rw [lets_iff, ← e, ← bt_list s i hi']
    exact h i hi'
theorem rlet_iff (c : Int) : rlet c = true ↔ isL c := by
  unfold rlet isL stepx rstepy
  by_cases h1 : c = 114
  · simp [h1]
  by_cases h2 : c = 117
  · simp [h2]
  by_cases h3 : c = 108
  · simp [h3]
  by_cases h4 : c = 100
  · simp [h4]
  simp [h1, h2, h3, h4]
theorem rW_eq (s : ByteArray) : rW s = isW s := by
  rw [Bool.eq_iff_iff, isW_iff]
  unfold rW
  rw [Bool.and_eq_true, decide_eq_true_eq, List.all_eq_true]
  constructor
  · exact fun ⟨h1, h2⟩ => ⟨h2, fun i hi => (rlet_iff _).1 (h1 i (List.mem_range.2 hi))⟩
  · exact fun ⟨h1, h2⟩ => ⟨fun i hi => (rlet_iff _).2 (h2 i (List.mem_range.1 hi)), h1⟩
theorem rstepy_eq {c : Int} (h : isL c) : rstepy c = stepy c := by
  unfold rstepy stepy
  rcases h with rfl | rfl | rfl | rfl <;> rfl
theorem rsumy_eq {s : ByteArray} (h : isW s = true) : ∀ k, k ≤ s.size → rsumy s k = sumy s k
  | 0, _ => rfl
  | k + 1, hk => by rw [rsumy, sumy, rsumy_eq h k (by omega), rstepy_eq (((isW_iff s).1 h).2 k (by omega))]
theorem dbl_eq {s : ByteArray} (h : isW s = true) : ∀ k, k ≤ s.size → rdbl s k = dbl s k
  | 0, _ => rfl
  | k + 1, hk => by
    rw [rdbl, dbl, dbl_eq h k (by omega), rsumy_eq h k (by omega), rstepy_eq (((isW_iff s).1 h).2 k (by omega)), sumx, sumy]
    generalize sumx s k = a
    generalize sumy s k = b
    rw [Int.mul_add, Int.add_mul, Int.mul_comm b]
    omega
theorem same_iff {s : ByteArray} (h : isW s = true) {i j : Nat} (hi : i ≤ s.size) (hj : j ≤ s.size) : same s i j = true ↔ (sumx s i, sumy s i) = (sumx s j, sumy s j) := by
  unfold same
  rw [rsumy_eq h i hi, rsumy_eq h j hj]
  simp only [Bool.and_eq_true, beq_iff_eq, Prod.mk.injEq]
  omega
theorem apart_iff {s : ByteArray} (h : isW s = true) : apart s s.size ↔ (pts s s.size).Nodup := by
  rw [List.Nodup, List.pairwise_iff_getElem]
  unfold apart pts
  simp only [List.length_map, List.length_range, List.getElem_map, List.getElem_range]
  constructor
  · intro k i j hi hj hij e
    have := k i j hi hij hj
    rw [(same_iff h (by omega) (by omega)).2 e] at this
    cases this
  · intro k i j hi hij hj
    rw [Bool.eq_false_iff]
    intro e
    exact k i j hi hj hij ((same_iff h (by omega) (by omega)).1 e)
theorem rO_eq (s : ByteArray) : rO s = isO s := by
  unfold rO isO
  rw [rW_eq]
  cases h : isW s with
  | false => rfl
  | true =>
    rw [dbl_eq h _ (Nat.le_refl _), rsumy_eq h _ (Nat.le_refl _), show apartB s = decide (pts s s.size).Nodup by rw [Bool.eq_iff_iff, apartB_iff, apart_iff h, decide_eq_true_eq], Bool.and_comm (decide (pts s s.size).Nodup)]
theorem isO_W {s : ByteArray} (h : isO s = true) : isW s = true := by
  unfold isO at h
  rw [Bool.and_eq_true] at h
  exact h.1
def txt (a : ByteArray) : ByteArray := if a.size ≤ 30 then a else a.extract 0 30
theorem text_eq (a : ByteArray) : PA.comfitlaw07_text.f a = some (txt a) := by
  unfold PA.comfitlaw07_text.f txt
  by_cases h : a.size ≤ 30
  · have e : mn (a.size : Int) 30 = a.size := by unfold mn; split <;> omega
    rw [e, if_pos (by omega), if_pos (by omega), if_pos h]
    simp
  · have e : mn (a.size : Int) 30 = 30 := by unfold mn; split <;> omega
    rw [e, if_pos (by omega), if_pos (by omega), if_neg h]
    rfl
theorem txt_le (a : ByteArray) : (txt a).size ≤ 30 := by
  unfold txt
  split
  · assumption
  · rw [ByteArray.size_extract]; omega
theorem txt_W (a : ByteArray) : isW (txt a) = isW a := by
  unfold txt
  by_cases h : a.size ≤ 30
  · rw [if_pos h]
  · rw [if_neg h]
    have e1 : isW a = false := by
      rw [Bool.eq_false_iff]
      intro q
      have := isW_le q
      omega
    rw [e1, Bool.eq_false_iff]
    intro q
    have := isW_le q
    rw [ByteArray.size_extract] at this
    omega
theorem txt_of {a : ByteArray} (h : isW a = true) : txt a = a := by
  have := isW_le h
  unfold txt
  rw [if_pos (by omega)]
theorem txt_O (a : ByteArray) : isO (txt a) = isO a := by
  cases h : isW a with
  | true => rw [txt_of h]
  | false =>
    have h2 := txt_W a
    rw [h] at h2
    unfold isO
    rw [h, h2]
    rfl
theorem ascii_of {s : ByteArray} (h : ∀ i : Nat, i < s.size → isL (bt s i)) : ascii s = true := by
  unfold ascii
  rw [List.all_eq_true]
  intro b hb
  obtain ⟨i, hi, e⟩ := List.getElem_of_mem hb
  have hi' : i < s.size := by rw [← data_length]; exact hi
  have := h i hi'
  rw [bt_list s i hi', e] at this
  rw [decide_eq_true_eq]
  rcases this with h | h | h | h <;> omega
theorem awake_eq : PB.comfitlaw07_awake.f = some true := by kernel_rfl
theorem strOf_app (xs ys : List Int) : strOfNums xs ++ strOfNums ys = strOfNums (xs ++ ys) := by
  apply ByteArray.ext
  simp [strOfNums, ByteArray.data_append]
theorem strN_succ (n : Nat) (f : Nat → Int) : strN n f ++ strN 1 (fun _ => f n) = strN (n + 1) f := by
  unfold strN
  rw [strOf_app]
  congr 1
  simp [List.range_succ]
theorem strN_self (s : ByteArray) : strN s.size (fun i => bt s i) = s := by
  apply ByteArray.ext
  apply Array.ext'
  unfold strN strOfNums
  simp only [List.map_map]
  apply List.ext_getElem
  · simp
  · intro i h1 h2
    have hi : i < s.size := by rw [← data_length]; exact h2
    simp only [List.getElem_map, List.getElem_range, Function.comp]
    rw [bt_list s i hi]
    simp
theorem strN_inj {n : Nat} {f : Nat → Int} (h : ∀ i, i < n → isL (f i)) {i : Nat} (hi : i < n) : bt (strN n f) i = f i :=
  strN_bt (fun i hi => by rcases h i hi with e | e | e | e <;> rw [e] <;> omega) hi
def lurd : ByteArray := ⟨#[108, 117, 114, 100]⟩
def uldr : ByteArray := ⟨#[117, 108, 100, 114]⟩
def rlud : ByteArray := ⟨#[114, 108, 117, 100]⟩
def lrdu : ByteArray := ⟨#[108, 114, 100, 117]⟩
def ud : ByteArray := ⟨#[117, 100]⟩
def du : ByteArray := ⟨#[100, 117]⟩
theorem ex_back {c : Int} (h : isL c) : exb ruld ldru c = rexTo rlud lrdu c 4 ∧ isL (exb ruld ldru c) := by
  unfold isL
  rcases h with rfl | rfl | rfl | rfl <;> exact ⟨by kernel_rfl, by decide +kernel⟩
theorem ex_quarter {c : Int} (h : isL c) : exb ruld uldr c = rexTo ruld uldr c 4 ∧ isL (exb ruld uldr c) := by
  unfold isL
  rcases h with rfl | rfl | rfl | rfl <;> exact ⟨by kernel_rfl, by decide +kernel⟩
theorem ex_mirror {c : Int} (h : isL c) : exb ruld ldru (exb ruld lurd c) = rexTo ud du c 2 ∧ isL (exb ruld lurd c) := by
  unfold isL
  rcases h with rfl | rfl | rfl | rfl <;> exact ⟨by kernel_rfl, by decide +kernel⟩
theorem place_ruld {c : Int} (h : isL c) : 0 ≤ place ruld c ∧ place ruld c < 4 := by
  rcases h with rfl | rfl | rfl | rfl <;> decide +kernel
theorem exOk_of {s tt : ByteArray} (h : ∀ i : Nat, i < s.size → isL (bt s i)) (ht : tt.size = 4) : exOk s ruld tt = true := by
  unfold exOk
  rw [List.all_eq_true]
  intro i hi
  have := place_ruld (h i (List.mem_range.1 hi))
  rw [decide_eq_true_eq, ht]
  exact this
end Go.Proofs.YtpfenoioeajkmaaDoor.L
end

section
set_option linter.unusedVariables false
set_option linter.unusedSimpArgs false
namespace Go.Proofs.YtpfenoioeajkmaaDoor.L
open Go.RowKit Go.Proofs.YtpfenoioeajkmaaDoorW.PrintWords Go.Proofs.YtpfenoioeajkmaaDoorW.PrintLast Go.Proofs.YtpfenoioeajkmaaDoorW.PrintMore Go.Proofs.YtpfenoioeajkmaaDoor.X Go.Proofs.YtpfenoioeajkmaaDoor.PB
theorem strN_none (f : Nat → Int) : strN 0 f = (⟨#[]⟩ : ByteArray) := rfl
theorem back_f {s : ByteArray} (h : isW s = true) : moulds_back.f s = some (backF s) := by
  have h24 := isW_le h
  unfold moulds_back.f
  rw [if_pos ⟨by omega, exOk_of ((isW_iff s).1 h).2 rfl⟩]
theorem Is_f {s : ByteArray} (hs : s.size ≤ 1000) : moulds_Is.f s = some (isO s) := by
  unfold moulds_Is.f
  rw [if_pos hs]
theorem RIs_f {s : ByteArray} (hs : s.size ≤ 140737488351232) : ref_Is.f s = some (isO s) := by
  unfold ref_Is.f
  rw [if_pos (by omega), rO_eq]
theorem nil_list : (⟨#[]⟩ : ByteArray).toList = ([] : List UInt8) := by kernel_rfl
end Go.Proofs.YtpfenoioeajkmaaDoor.L
end

section
set_option linter.unusedVariables false
set_option linter.unusedSimpArgs false
namespace Go.Proofs.YtpfenoioeajkmaaDoor.L
open Go.RowKit Go.Proofs.YtpfenoioeajkmaaDoorW.PrintWords Go.Proofs.YtpfenoioeajkmaaDoorW.PrintLast Go.Proofs.YtpfenoioeajkmaaDoorW.PrintMore Go.Proofs.YtpfenoioeajkmaaDoor.X Go.Proofs.YtpfenoioeajkmaaDoor.PB
theorem ext_one (s : ByteArray) (i : Nat) (hi : i < s.size) : s.extract i (i + 1) = strN 1 fun _ => bt s i := by
  have he : (s.extract i (i + 1)).size = 1 := by rw [ByteArray.size_extract]; omega
  have h := strN_self (s.extract i (i + 1))
  rw [he] at h
  rw [← h]
  exact strN_congr fun j hj => by
    obtain rfl : j = 0 := by omega
    rw [bt_cut s i (i + 1) 0 (by omega) (by omega), Nat.add_zero]
def revF (s : ByteArray) : ByteArray := strN s.size fun i => bt s (s.size - 1 - i : Nat)
theorem rmirror_loop (s : ByteArray) (hs : s.size ≤ 1000) : ∀ d m : Nat, m + d = s.size → ∃ k, comfitref07_Mirror.l0 k s (strN m fun i => bt s (s.size - 1 - i : Nat)) ((d : Int) - 1) = ((ref_exchanged.f (revF s) ud du).bind fun t => (ref_First.f t).bind fun t2 => some t2)
  | 0, m, h => by
    refine ⟨1, ?_⟩
    rw [comfitref07_Mirror.l0, if_neg (by omega), show m = s.size by omega]
    rfl
  | d + 1, m, h => by
    obtain ⟨k, hk⟩ := rmirror_loop s hs d (m + 1) (by omega)
    refine ⟨k + 1, ?_⟩
    have e1 : ((d + 1 : Nat) : Int) - 1 = (d : Int) := by omega
    have e2 : wrap64 ((d : Int) + 1) = ((d + 1 : Nat) : Int) := by unfold wrap64; omega
    have e3 : wrap64 ((d : Int) - 1) = (d : Int) - 1 := by unfold wrap64; omega
    rw [comfitref07_Mirror.l0, e1, if_pos (by omega), if_pos (by omega), e2, if_pos (by omega), if_pos (by omega), Int.toNat_natCast, Int.toNat_natCast, ext_one s d (by omega)]
    rw [if_pos (by rw [strN_size, strN_size]; omega), e3]
    have hc := strN_succ m fun i => bt s (s.size - 1 - i : Nat)
    rw [show s.size - 1 - m = d by omega] at hc
    rw [hc]
    exact hk
def mirF (s : ByteArray) : ByteArray := strN s.size fun i => rexTo ud du (bt s (s.size - 1 - i : Nat)) 2
def quaF (s : ByteArray) : ByteArray := strN s.size fun i => rexTo ruld uldr (bt s i) 4
theorem mirF_L {s : ByteArray} (h : isW s = true) : ∀ i : Nat, i < s.size → isL (rexTo ud du (bt s (s.size - 1 - i : Nat)) 2) := fun i hi => by
  have hl := ((isW_iff s).1 h).2 (s.size - 1 - i) (by omega)
  rw [← (ex_mirror hl).1]
  exact (ex_back (ex_mirror hl).2).2
theorem quaF_L {s : ByteArray} (h : isW s = true) : ∀ i : Nat, i < s.size → isL (rexTo ruld uldr (bt s i) 4) := fun i hi => by
  have hl := ((isW_iff s).1 h).2 i hi
  rw [← (ex_quarter hl).1]
  exact (ex_quarter hl).2
theorem strN_L {n : Nat} {f : Nat → Int} (h : ∀ i, i < n → isL (f i)) : ∀ i : Nat, i < (strN n f).size → isL (bt (strN n f) i) := fun i hi => by
  rw [strN_size] at hi
  rw [strN_inj h hi]
  exact h i hi
theorem W_of {s : ByteArray} (h : s.size ≤ 24) (hl : ∀ i : Nat, i < s.size → isL (bt s i)) : isW s = true := (isW_iff s).2 ⟨h, hl⟩
theorem Mirror_ref {s : ByteArray} (h : isW s = true) : ∃ k, comfitref07_Mirror.f k s = some (firstTo (mirF s) s.size) := by
  have h24 := isW_le h
  obtain ⟨k, hk⟩ := rmirror_loop s (by omega) s.size 0 (by omega)
  refine ⟨k, ?_⟩
  unfold comfitref07_Mirror.f
  rw [show wrap64 ((s.size : Int) - 1) = (s.size : Int) - 1 by unfold wrap64; omega]
  rw [strN_none] at hk
  rw [hk]
  have hr : (revF s).size = s.size := strN_size _ _
  unfold ref_exchanged.f
  rw [if_pos ⟨by omega, by decide, by decide⟩, hr]
  simp only [Option.bind_some]
  have e : (strN s.size fun i => rexTo ud du (bt (revF s) i) ud.size) = mirF s := strN_congr fun i hi => by
    unfold revF
    rw [strN_inj (fun i hi => ((isW_iff s).1 h).2 _ (by omega)) hi]
    rfl
  rw [e]
  unfold ref_First.f
  rw [if_pos (by unfold mirF; rw [strN_size]; omega), show (mirF s).size = s.size from strN_size _ _]
  rfl
theorem Mirror_O {s : ByteArray} (h : isO s = true) : moulds_Mirror.f s = some (firstTo (mirF s) s.size, 0) := by
  have hW := isO_W h
  have h24 := isW_le hW
  have hl := ((isW_iff s).1 hW).2
  have hE : ∀ i, i < s.size → isL (exb ruld lurd (bt s (i : Nat))) := fun i hi => (ex_mirror (hl i hi)).2
  unfold moulds_Mirror.f
  rw [Is_f (by omega), h]
  simp only [Option.bind_some, if_true]
  unfold moulds_exchanged.f
  rw [if_pos ⟨by omega, exOk_of hl rfl⟩]
  simp only [Option.bind_some]
  generalize hG : (strN s.size fun i => exb ⟨#[114, 117, 108, 100]⟩ ⟨#[108, 117, 114, 100]⟩ (bt s i)) = E
  have hG' : (strN s.size fun i => exb ruld lurd (bt s i)) = E := hG
  have hs : E.size = s.size := by rw [← hG]; exact strN_size _ _
  have hEb : ∀ i : Nat, i < s.size → bt E i = exb ruld lurd (bt s i) := fun i hi => by rw [← hG']; exact strN_inj hE hi
  have hEL : ∀ i : Nat, i < E.size → isL (bt E i) := fun i hi => by rw [hEb i (by omega)]; exact hE i (by omega)
  rw [back_f (W_of (by omega) hEL)]
  simp only [Option.bind_some]
  have e : backF E = mirF s := by
    unfold backF mirF
    rw [hs]
    exact strN_congr fun i hi => by rw [hEb _ (by omega)]; exact (ex_mirror (hl _ (by omega))).1
  rw [e]
  unfold moulds_first.f
  rw [if_pos ⟨by unfold mirF; rw [strN_size]; omega, ascii_of (strN_L (mirF_L hW))⟩, show (mirF s).size = s.size from strN_size _ _]
  rfl
theorem Mirror_no {s : ByteArray} (h : isO s = false) (hs : s.size ≤ 1000) : moulds_Mirror.f s = some (⟨#[]⟩, 2) := by
  unfold moulds_Mirror.f
  rw [Is_f hs, h]
  rfl
theorem Quarter_ref {s : ByteArray} (h : isW s = true) : comfitref07_Quarter.f s = some (firstTo (quaF s) s.size) := by
  have h24 := isW_le h
  unfold comfitref07_Quarter.f ref_exchanged.f
  rw [if_pos ⟨by omega, by decide, by decide⟩]
  simp only [Option.bind_some]
  rw [show (strN s.size fun i => rexTo ⟨#[114, 117, 108, 100]⟩ ⟨#[117, 108, 100, 114]⟩ (bt s i) (⟨#[114, 117, 108, 100]⟩ : ByteArray).size) = quaF s from rfl]
  unfold ref_First.f
  rw [if_pos (by unfold quaF; rw [strN_size]; omega), show (quaF s).size = s.size from strN_size _ _]
  rfl
theorem Quarter_O {s : ByteArray} (h : isO s = true) : moulds_Quarter.f s = some (firstTo (quaF s) s.size, 0) := by
  have hW := isO_W h
  have h24 := isW_le hW
  have hl := ((isW_iff s).1 hW).2
  unfold moulds_Quarter.f
  rw [Is_f (by omega), h]
  simp only [Option.bind_some, if_true]
  unfold moulds_exchanged.f
  rw [if_pos ⟨by omega, exOk_of hl rfl⟩]
  simp only [Option.bind_some]
  have e : (strN s.size fun i => exb ⟨#[114, 117, 108, 100]⟩ ⟨#[117, 108, 100, 114]⟩ (bt s i)) = quaF s := strN_congr fun i hi => (ex_quarter (hl i hi)).1
  rw [e]
  unfold moulds_first.f
  rw [if_pos ⟨by unfold quaF; rw [strN_size]; omega, ascii_of (strN_L (quaF_L hW))⟩, show (quaF s).size = s.size from strN_size _ _]
  rfl
theorem Quarter_no {s : ByteArray} (h : isO s = false) (hs : s.size ≤ 1000) : moulds_Quarter.f s = some (⟨#[]⟩, 2) := by
  unfold moulds_Quarter.f
  rw [Is_f hs, h]
  rfl
theorem Pure_MouldsMirrors (a : ByteArray) (ha : a.size ≤ 140737488351232) : ∃ k, comfitlaw07_MouldsMirrors.f k a = some true := by
  have ht := txt_le a
  cases hO : isO a with
  | false =>
    have hO' : isO (txt a) = false := by rw [txt_O]; exact hO
    refine ⟨0, ?_⟩
    unfold comfitlaw07_MouldsMirrors.f
    rw [text_eq]
    simp only [Option.bind_some]
    rw [Mirror_no hO' (by omega), Quarter_no hO' (by omega), RIs_f ha, hO, awake_eq]
    simp only [Option.bind_some]
    rw [nil_list]
    rfl
  | true =>
    have hW := isO_W hO
    obtain ⟨k, hk⟩ := Mirror_ref hW
    refine ⟨k, ?_⟩
    unfold comfitlaw07_MouldsMirrors.f
    rw [text_eq, txt_of hW]
    simp only [Option.bind_some]
    rw [Mirror_O hO, Quarter_O hO, RIs_f ha, hO, awake_eq, hk, Quarter_ref hW]
    simp
end Go.Proofs.YtpfenoioeajkmaaDoor.L
end
