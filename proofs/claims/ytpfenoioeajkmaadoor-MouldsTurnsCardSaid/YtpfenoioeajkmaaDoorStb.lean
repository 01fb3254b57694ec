/- Texts of this claim, merged by a program (wip/tools/shake.py); what nothing names is left out. -/
import Derived.KernelRfl
import Derived.Test.YtpfenoioeajkmaaDoorSta
section
namespace Go.Proofs.YtpfenoioeajkmaaDoor.PB
open Go.RowKit Go.Proofs.YtpfenoioeajkmaaDoorW.PrintWords Go.Proofs.YtpfenoioeajkmaaDoorW.PrintLast Go.Proofs.YtpfenoioeajkmaaDoorW.PrintMore
attribute [local go_sem] max2_int min2_int max_two min_two max_three min_three max_four min_four
set_option linter.unusedVariables false
set_option linter.unusedSimpArgs false
def comfitref07_Back.l0 : Nat → ByteArray → ByteArray → Int → Option (ByteArray)
  | 0, _, _, _ => none
  | k + 1, x0, x3, x4 => if x4 ≥ 0 then (if 0 ≤ x4 then (if x4 ≤ (wrap64 (x4 + 1)) then (if (wrap64 (x4 + 1)) ≤ (x0.size : Int) then ((Go.Proofs.YtpfenoioeajkmaaDoor.X.ref_exchanged.f (x0.extract (x4 : Int).toNat ((wrap64 (x4 + 1)) : Int).toNat) (⟨#[114, 108, 117, 100]⟩ : ByteArray) (⟨#[108, 114, 100, 117]⟩ : ByteArray)).bind fun t116 => (if x3.size + t116.size ≤ 9223372036854775807 then (comfitref07_Back.l0 k x0 (x3 ++ t116) (wrap64 (x4 - 1))) else (none))) else (none)) else (none)) else (none)) else (some x3)
def comfitref07_Back.f (k : Nat) (a0 : ByteArray) : Option (ByteArray) := comfitref07_Back.l0 k a0 (⟨#[]⟩ : ByteArray) (wrap64 ((a0.size : Int) - 1))
theorem comfitref07_Back.mono_l : ∀ k, (∀ y0 y1 y2, LeO (comfitref07_Back.l0 k y0 y1 y2) (comfitref07_Back.l0 (k + 1) y0 y1 y2))
  | 0 => fun _ _ _ r h => by simp [comfitref07_Back.l0] at h
  | k + 1 => by
    have ih0 := comfitref07_Back.mono_l k
    · intro y0 y1 y2
      unfold comfitref07_Back.l0
      repeat' first
      | (with_reducible exact ih0 _ _ _)
      | (with_reducible exact LeO.refl _)
      | (with_reducible exact LeO.none _)
      | (with_reducible refine LeO.ite ?_ ?_)
      | (with_reducible refine LeO.bind ?_ (fun _ => ?_))
      | exact ih0 _ _ _
      | exact LeO.none _
      | refine LeO.ite ?_ ?_
      | refine LeO.bind ?_ (fun _ => ?_)
theorem comfitref07_Back.mono : ∀ a0 k, LeO (comfitref07_Back.f k a0) (comfitref07_Back.f (k + 1) a0) := by
  intro a0 k
  have ih0 := comfitref07_Back.mono_l k
  unfold comfitref07_Back.f
  repeat' first
      | (with_reducible exact ih0 _ _ _)
      | (with_reducible exact LeO.refl _)
      | (with_reducible exact LeO.none _)
      | (with_reducible refine LeO.ite ?_ ?_)
      | (with_reducible refine LeO.bind ?_ (fun _ => ?_))
      | exact ih0 _ _ _
      | exact LeO.none _
      | refine LeO.ite ?_ ?_
      | refine LeO.bind ?_ (fun _ => ?_)
set_option maxHeartbeats 8000000 in
set_option maxRecDepth 100000 in
theorem comfitref07_Back.calls (k : Nat) (a0 : ByteArray) (r : ByteArray) (w : World) (h : comfitref07_Back.f k a0 = some r) :
    Calls Tryd.prog 23 #[.string a0] w fun e w' => e = .returned (.string r) ∧ Below w.heap.size w w' := by
  have HB := Aside0.mk (Below.refl w.heap.size w)
  have H : (comfitref07_Back.l0 k a0 (⟨#[]⟩ : ByteArray) (wrap64 ((a0.size : Int) - 1))) = some r := h
  clear h
  have H' := Aside0.mk H
  clear H
  go_enter Tryd.func23, Tryd.ntmps23
  go_wp2
  go_loopg [3, 4] k (fun kq v3 v4 w' => ∃ (x3_1 : ByteArray) (x4_1 : Int), v3 = .string x3_1 ∧ v4 = .int .i64 x4_1 ∧ Aside0 (comfitref07_Back.l0 kq a0 x3_1 x4_1 = some r) ∧ Aside0 (kq ≤ k) ∧ Aside0 (Below w.heap.size w w'))
  case atStart => exact ⟨((⟨#[]⟩ : ByteArray)), (wrap64 ((a0.size : Int) - 1)), (by first | rfl | (simp; done) | (simp [*]; done)), (by first | rfl | (simp; done) | (simp [*]; done)), H', ⟨Nat.le_refl _⟩, ⟨by repeat (first | (with_reducible first | exact HB.out | apply below_alloc | apply pw_below_drewN | apply below_drew1) | exact HB.out)⟩⟩
  case round =>
    clear H'
    obtain ⟨x3_1, x4_1, rfl, rfl, HA, HK1, HB⟩ := hrel
    cases gk with
    | zero => exact absurd HA.out (by simp [comfitref07_Back.l0])
    | succ k1 =>
      have H := HA.out
      clear HA
      simp only [comfitref07_Back.l0] at H
      by_cases c2 : x4_1 ≥ 0
      · rw [if_pos c2] at H
        have c2b0 : decide (0 ≤ x4_1) = true := decide_eq_true c2
        clear c2
        by_cases c3 : 0 ≤ x4_1
        · rw [if_pos c3] at H
          have c3b0 := eq_true c3
          have c3b1 : decide (0 ≤ x4_1) = true := decide_eq_true c3
          clear c3
          by_cases c4 : x4_1 ≤ (wrap64 (x4_1 + 1))
          · rw [if_pos c4] at H
            have c4b0 := eq_true c4
            have c4b1 : decide (x4_1 ≤ (wrap64 (x4_1 + 1))) = true := decide_eq_true c4
            by_cases c5 : (wrap64 (x4_1 + 1)) ≤ (a0.size : Int)
            · rw [if_pos c5] at H
              have c5b0 := eq_true c5
              have c5b1 : decide ((wrap64 (x4_1 + 1)) ≤ (a0.size : Int)) = true := decide_eq_true c5
              replace H := Option.bind_eq_some_iff.mp H
              obtain ⟨t116, A60, H⟩ := H
              replace H : (if x3_1.size + t116.size ≤ 9223372036854775807 then (comfitref07_Back.l0 k1 a0 (x3_1 ++ t116) (wrap64 (x4_1 - 1))) else (none)) = some r := H
              have A6 := Aside0.mk A60
              clear A60
              by_cases c7 : x3_1.size + t116.size ≤ 9223372036854775807
              · rw [if_pos c7] at H
                have c7b0 := eq_true c7
                have c7b1 : decide (x3_1.size + t116.size ≤ 9223372036854775807) = true := decide_eq_true c7
                try have c7b2 : (9223372036854775807 < x3_1.size + t116.size) = False := eq_false (Nat.not_lt.2 c7)
                have H' := Aside0.mk H
                clear H
                go_wp2_with (first | ((with_reducible refine gate_callee (f := 56) rfl ?_); refine goesL_ (some 18) rfl rfl Tryd.func56 (by kernel_rfl) rfl #[.string (a0.extract (x4_1 : Int).toNat ((wrap64 (x4_1 + 1)) : Int).toNat), .string (⟨#[114, 108, 117, 100]⟩ : ByteArray), .string (⟨#[108, 114, 100, 117]⟩ : ByteArray)] rfl (by (try simp only [List.map_toArray, List.map_cons, List.map_nil]); first | done | rfl | (simp only [List.length_drop, List.length_take]; rfl)) ?_; (with_reducible refine (Go.Proofs.YtpfenoioeajkmaaDoor.X.ref_exchanged.calls (a0.extract (x4_1 : Int).toNat ((wrap64 (x4_1 + 1)) : Int).toNat) (⟨#[114, 108, 117, 100]⟩ : ByteArray) (⟨#[108, 114, 100, 117]⟩ : ByteArray) t116 _ A6.out).mono ?_); rintro e w8 ⟨rfl, hb⟩; refine ⟨_, rfl, ?_⟩; have n0_ := Aside0.mk (below_step (by repeat (first | (with_reducible first | exact HB.out | apply below_alloc | apply pw_below_drewN | apply below_drew1) | exact HB.out)) hb); clear HB; have HB := n0_; clear n0_; (try clear hb); (try clear hb2); (try clear hk); (try clear hi)))
                go_roundg k1
                case measure => have := HK1.out; omega
                case rel => exact ⟨(x3_1 ++ t116), (wrap64 (x4_1 - 1)), (by first | rfl | (simp; done) | (simp [*]; done)), (by first | rfl | (simp; done) | (simp [*]; done)), H', ⟨by have := HK1.out; omega⟩, ⟨by repeat (first | (with_reducible first | exact HB.out | apply below_alloc | apply pw_below_drewN | apply below_drew1) | exact HB.out)⟩⟩
              · rw [if_neg c7] at H
                exact absurd H (by simp)
            · rw [if_neg c5] at H
              exact absurd H (by simp)
          · rw [if_neg c4] at H
            exact absurd H (by simp)
        · rw [if_neg c3] at H
          exact absurd H (by simp)
      · rw [if_neg c2] at H
        have c2b0 : decide (0 ≤ x4_1) = false := decide_eq_false c2
        clear c2
        obtain rfl := Option.some.inj H
        go_wp2
        go_ret
        exact ⟨by first | rfl | (simp [errW_none, errW_some] <;> rfl) | (simp [*, errW_none, errW_some] <;> rfl), by repeat (first | (with_reducible first | exact HB.out | apply below_alloc | apply pw_below_drewN | apply below_drew1) | exact HB.out)⟩
def comfitlaw07_MouldsTurns.j0 : Nat → ByteArray → ByteArray → Int → Bool → Option (Bool)
  | 0, _, _, _, _ => none
  | k + 1, x0, x3, x4, x50 => if x50 = true then (some false) else ((Go.Proofs.YtpfenoioeajkmaaDoor.X.ref_Is.f x0).bind fun t127 => (if t127 = true then ((Go.Proofs.YtpfenoioeajkmaaDoor.X.ref_First.f x0).bind fun t128 => (if x3.toList = t128.toList then (some (x4 == 0)) else (some false))) else (if x3.toList = ([] : List UInt8) then (some (x4 == 2)) else (some false))))
def comfitlaw07_MouldsTurns.f (k : Nat) (a0 : ByteArray) : Option (Bool) := (Go.Proofs.YtpfenoioeajkmaaDoor.PA.comfitlaw07_text.f a0).bind fun t117 => ((moulds_First.f t117).bind fun bt118 => ((Go.Proofs.YtpfenoioeajkmaaDoor.PA.comfitlaw07_text.f a0).bind fun t120 => ((moulds_Back.f t120).bind fun bt121 => ((Go.Proofs.YtpfenoioeajkmaaDoor.PA.comfitref07_Word.f k a0).bind fun t123 => (if t123 = true then ((comfitref07_Back.f k a0).bind fun t125 => (if bt121.1.toList = t125.toList then (if bt121.2 = 0 then ((comfitlaw07_awake.f).bind fun t126 => (comfitlaw07_MouldsTurns.j0 k a0 bt118.1 bt118.2 (!t126))) else (comfitlaw07_MouldsTurns.j0 k a0 bt118.1 bt118.2 true)) else (comfitlaw07_MouldsTurns.j0 k a0 bt118.1 bt118.2 true))) else (if bt118.1.toList = ([] : List UInt8) then (if bt121.1.toList = ([] : List UInt8) then (if bt118.2 = 2 then (if bt121.2 = 2 then ((comfitlaw07_awake.f).bind fun t124 => (some t124)) else (some false)) else (some false)) else (some false)) else (some false)))))))
set_option maxHeartbeats 8000000 in
set_option maxRecDepth 100000 in
theorem comfitlaw07_MouldsTurns.calls (k : Nat) (a0 : ByteArray) (r : Bool) (w : World) (h : comfitlaw07_MouldsTurns.f k a0 = some r) :
    Calls Tryd.prog 4 #[.string a0] w fun e w' => e = .returned (.bool r) ∧ Below w.heap.size w w' := by
  have HB := Aside0.mk (Below.refl w.heap.size w)
  have H : ((Go.Proofs.YtpfenoioeajkmaaDoor.PA.comfitlaw07_text.f a0).bind fun t117 => ((moulds_First.f t117).bind fun bt118 => ((Go.Proofs.YtpfenoioeajkmaaDoor.PA.comfitlaw07_text.f a0).bind fun t120 => ((moulds_Back.f t120).bind fun bt121 => ((Go.Proofs.YtpfenoioeajkmaaDoor.PA.comfitref07_Word.f k a0).bind fun t123 => (if t123 = true then ((comfitref07_Back.f k a0).bind fun t125 => (if bt121.1.toList = t125.toList then (if bt121.2 = 0 then ((comfitlaw07_awake.f).bind fun t126 => (comfitlaw07_MouldsTurns.j0 k a0 bt118.1 bt118.2 (!t126))) else (comfitlaw07_MouldsTurns.j0 k a0 bt118.1 bt118.2 true)) else (comfitlaw07_MouldsTurns.j0 k a0 bt118.1 bt118.2 true))) else (if bt118.1.toList = ([] : List UInt8) then (if bt121.1.toList = ([] : List UInt8) then (if bt118.2 = 2 then (if bt121.2 = 2 then ((comfitlaw07_awake.f).bind fun t124 => (some t124)) else (some false)) else (some false)) else (some false)) else (some false)))))))) = some r := h
  clear h
  replace H := Option.bind_eq_some_iff.mp H
  obtain ⟨t117, A20, H⟩ := H
  replace H : ((moulds_First.f t117).bind fun bt118 => ((Go.Proofs.YtpfenoioeajkmaaDoor.PA.comfitlaw07_text.f a0).bind fun t120 => ((moulds_Back.f t120).bind fun bt121 => ((Go.Proofs.YtpfenoioeajkmaaDoor.PA.comfitref07_Word.f k a0).bind fun t123 => (if t123 = true then ((comfitref07_Back.f k a0).bind fun t125 => (if bt121.1.toList = t125.toList then (if bt121.2 = 0 then ((comfitlaw07_awake.f).bind fun t126 => (comfitlaw07_MouldsTurns.j0 k a0 bt118.1 bt118.2 (!t126))) else (comfitlaw07_MouldsTurns.j0 k a0 bt118.1 bt118.2 true)) else (comfitlaw07_MouldsTurns.j0 k a0 bt118.1 bt118.2 true))) else (if bt118.1.toList = ([] : List UInt8) then (if bt121.1.toList = ([] : List UInt8) then (if bt118.2 = 2 then (if bt121.2 = 2 then ((comfitlaw07_awake.f).bind fun t124 => (some t124)) else (some false)) else (some false)) else (some false)) else (some false))))))) = some r := H
  have A2 := Aside0.mk A20
  clear A20
  replace H := Option.bind_eq_some_iff.mp H
  obtain ⟨⟨t118, t119⟩, A30, H⟩ := H
  replace H : ((Go.Proofs.YtpfenoioeajkmaaDoor.PA.comfitlaw07_text.f a0).bind fun t120 => ((moulds_Back.f t120).bind fun bt121 => ((Go.Proofs.YtpfenoioeajkmaaDoor.PA.comfitref07_Word.f k a0).bind fun t123 => (if t123 = true then ((comfitref07_Back.f k a0).bind fun t125 => (if bt121.1.toList = t125.toList then (if bt121.2 = 0 then ((comfitlaw07_awake.f).bind fun t126 => (comfitlaw07_MouldsTurns.j0 k a0 t118 t119 (!t126))) else (comfitlaw07_MouldsTurns.j0 k a0 t118 t119 true)) else (comfitlaw07_MouldsTurns.j0 k a0 t118 t119 true))) else (if t118.toList = ([] : List UInt8) then (if bt121.1.toList = ([] : List UInt8) then (if t119 = 2 then (if bt121.2 = 2 then ((comfitlaw07_awake.f).bind fun t124 => (some t124)) else (some false)) else (some false)) else (some false)) else (some false)))))) = some r := H
  have A3 := Aside0.mk A30
  clear A30
  replace H := Option.bind_eq_some_iff.mp H
  obtain ⟨t120, A40, H⟩ := H
  replace H : ((moulds_Back.f t120).bind fun bt121 => ((Go.Proofs.YtpfenoioeajkmaaDoor.PA.comfitref07_Word.f k a0).bind fun t123 => (if t123 = true then ((comfitref07_Back.f k a0).bind fun t125 => (if bt121.1.toList = t125.toList then (if bt121.2 = 0 then ((comfitlaw07_awake.f).bind fun t126 => (comfitlaw07_MouldsTurns.j0 k a0 t118 t119 (!t126))) else (comfitlaw07_MouldsTurns.j0 k a0 t118 t119 true)) else (comfitlaw07_MouldsTurns.j0 k a0 t118 t119 true))) else (if t118.toList = ([] : List UInt8) then (if bt121.1.toList = ([] : List UInt8) then (if t119 = 2 then (if bt121.2 = 2 then ((comfitlaw07_awake.f).bind fun t124 => (some t124)) else (some false)) else (some false)) else (some false)) else (some false))))) = some r := H
  have A4 := Aside0.mk A40
  clear A40
  replace H := Option.bind_eq_some_iff.mp H
  obtain ⟨⟨t121, t122⟩, A50, H⟩ := H
  replace H : ((Go.Proofs.YtpfenoioeajkmaaDoor.PA.comfitref07_Word.f k a0).bind fun t123 => (if t123 = true then ((comfitref07_Back.f k a0).bind fun t125 => (if t121.toList = t125.toList then (if t122 = 0 then ((comfitlaw07_awake.f).bind fun t126 => (comfitlaw07_MouldsTurns.j0 k a0 t118 t119 (!t126))) else (comfitlaw07_MouldsTurns.j0 k a0 t118 t119 true)) else (comfitlaw07_MouldsTurns.j0 k a0 t118 t119 true))) else (if t118.toList = ([] : List UInt8) then (if t121.toList = ([] : List UInt8) then (if t119 = 2 then (if t122 = 2 then ((comfitlaw07_awake.f).bind fun t124 => (some t124)) else (some false)) else (some false)) else (some false)) else (some false)))) = some r := H
  have A5 := Aside0.mk A50
  clear A50
  replace H := Option.bind_eq_some_iff.mp H
  obtain ⟨t123, A60, H⟩ := H
  replace H : (if t123 = true then ((comfitref07_Back.f k a0).bind fun t125 => (if t121.toList = t125.toList then (if t122 = 0 then ((comfitlaw07_awake.f).bind fun t126 => (comfitlaw07_MouldsTurns.j0 k a0 t118 t119 (!t126))) else (comfitlaw07_MouldsTurns.j0 k a0 t118 t119 true)) else (comfitlaw07_MouldsTurns.j0 k a0 t118 t119 true))) else (if t118.toList = ([] : List UInt8) then (if t121.toList = ([] : List UInt8) then (if t119 = 2 then (if t122 = 2 then ((comfitlaw07_awake.f).bind fun t124 => (some t124)) else (some false)) else (some false)) else (some false)) else (some false))) = some r := H
  have A6 := Aside0.mk A60
  clear A60
  by_cases c7 : t123 = true
  · subst c7
    have H1 : ((comfitref07_Back.f k a0).bind fun t125 => (if t121.toList = t125.toList then (if t122 = 0 then ((comfitlaw07_awake.f).bind fun t126 => (comfitlaw07_MouldsTurns.j0 k a0 t118 t119 (!t126))) else (comfitlaw07_MouldsTurns.j0 k a0 t118 t119 true)) else (comfitlaw07_MouldsTurns.j0 k a0 t118 t119 true))) = some r := by rw [if_pos rfl] at H; exact H
    clear H
    have H := H1
    clear H1
    have HC8 := Aside0.mk H
    clear H
    go_enter Tryd.func4, Tryd.ntmps4
    go_upto_region 5 with (first | ((with_reducible refine gate_callee (f := 18) rfl ?_); refine goesL_ (some 9) rfl rfl Tryd.func18 (by kernel_rfl) rfl #[.string a0] rfl (by (try simp only [List.map_toArray, List.map_cons, List.map_nil]); first | done | rfl | (simp only [List.length_drop, List.length_take]; rfl)) ?_; (with_reducible refine (Go.Proofs.YtpfenoioeajkmaaDoor.PA.comfitlaw07_text.calls a0 t117 _ A2.out).mono ?_); rintro e w9 ⟨rfl, hb⟩; refine ⟨_, rfl, ?_⟩; have n0_ := Aside0.mk (below_step (by repeat (first | (with_reducible first | exact HB.out | apply below_alloc | apply pw_below_drewN | apply below_drew1) | exact HB.out)) hb); clear HB; have HB := n0_; clear n0_; (try clear hb); (try clear hb2); (try clear hk); (try clear hi)) | ((with_reducible refine gate_callee (f := 22) rfl ?_); refine goesL_ (some 10) rfl rfl Tryd.func22 (by kernel_rfl) rfl #[.string t117] rfl (by (try simp only [List.map_toArray, List.map_cons, List.map_nil]); first | done | rfl | (simp only [List.length_drop, List.length_take]; rfl)) ?_; (with_reducible refine (moulds_First.calls t117 t118 t119 _ A3.out).mono ?_); rintro e w10 ⟨rfl, hb⟩; refine ⟨_, rfl, ?_⟩; have n0_ := Aside0.mk (below_step (by repeat (first | (with_reducible first | exact HB.out | apply below_alloc | apply pw_below_drewN | apply below_drew1) | exact HB.out)) hb); clear HB; have HB := n0_; clear n0_; (try clear hb); (try clear hb2); (try clear hk); (try clear hi)) | ((with_reducible refine gate_callee (f := 18) rfl ?_); refine goesL_ (some 15) rfl rfl Tryd.func18 (by kernel_rfl) rfl #[.string a0] rfl (by (try simp only [List.map_toArray, List.map_cons, List.map_nil]); first | done | rfl | (simp only [List.length_drop, List.length_take]; rfl)) ?_; (with_reducible refine (Go.Proofs.YtpfenoioeajkmaaDoor.PA.comfitlaw07_text.calls a0 t120 _ A4.out).mono ?_); rintro e w11 ⟨rfl, hb⟩; refine ⟨_, rfl, ?_⟩; have n0_ := Aside0.mk (below_step (by repeat (first | (with_reducible first | exact HB.out | apply below_alloc | apply pw_below_drewN | apply below_drew1) | exact HB.out)) hb); clear HB; have HB := n0_; clear n0_; (try clear hb); (try clear hb2); (try clear hk); (try clear hi)) | ((with_reducible refine gate_callee (f := 17) rfl ?_); refine goesL_ (some 16) rfl rfl Tryd.func17 (by kernel_rfl) rfl #[.string t120] rfl (by (try simp only [List.map_toArray, List.map_cons, List.map_nil]); first | done | rfl | (simp only [List.length_drop, List.length_take]; rfl)) ?_; (with_reducible refine (moulds_Back.calls t120 t121 t122 _ A5.out).mono ?_); rintro e w12 ⟨rfl, hb⟩; refine ⟨_, rfl, ?_⟩; have n0_ := Aside0.mk (below_step (by repeat (first | (with_reducible first | exact HB.out | apply below_alloc | apply pw_below_drewN | apply below_drew1) | exact HB.out)) hb); clear HB; have HB := n0_; clear n0_; (try clear hb); (try clear hb2); (try clear hk); (try clear hi)) | ((with_reducible refine gate_callee (f := 19) rfl ?_); refine goesL_ (some 20) rfl rfl Tryd.func19 (by kernel_rfl) rfl #[.string a0] rfl (by (try simp only [List.map_toArray, List.map_cons, List.map_nil]); first | done | rfl | (simp only [List.length_drop, List.length_take]; rfl)) ?_; (with_reducible refine (Go.Proofs.YtpfenoioeajkmaaDoor.PA.comfitref07_Word.calls k a0 true _ A6.out).mono ?_); rintro e w' ⟨rfl, ⟨nd, rfl⟩⟩; refine ⟨_, rfl, ?_⟩))
    (try simp only [Act.put, List.setIfInBounds_toArray, List.set_cons_zero, List.set_cons_succ])
    go_cut [50] (fun v50 wc => ∃ (kq : Nat) (x50_7 : Bool), v50 = .bool x50_7 ∧ Aside0 (comfitlaw07_MouldsTurns.j0 kq a0 t118 t119 x50_7 = some r) ∧ Aside0 (kq ≤ k) ∧ Aside0 (Below w.heap.size w wc))
    case first =>
      have H := HC8.out
      clear HC8
      replace H := Option.bind_eq_some_iff.mp H
      obtain ⟨t125, A130, H⟩ := H
      replace H : (if t121.toList = t125.toList then (if t122 = 0 then ((comfitlaw07_awake.f).bind fun t126 => (comfitlaw07_MouldsTurns.j0 k a0 t118 t119 (!t126))) else (comfitlaw07_MouldsTurns.j0 k a0 t118 t119 true)) else (comfitlaw07_MouldsTurns.j0 k a0 t118 t119 true)) = some r := H
      have A13 := Aside0.mk A130
      clear A130
      by_cases c14 : t121.toList = t125.toList
      · rw [if_pos c14] at H
        have c14b0 : (t121.toList == t125.toList) = true := beq_iff_eq.mpr c14
        have c14b1 : (t121.toList != t125.toList) = false := bne_eq_false_iff_eq.mpr c14
        clear c14
        (first | rw [c14b0] | (simp only [i64_w, i32_w]; rw [c14b0]) | skip)
        by_cases c15 : t122 = 0
        · rw [if_pos c15] at H
          have c15b0 : (t122 == 0) = true := beq_iff_eq.mpr c15
          have c15b1 : (t122 != 0) = false := bne_eq_false_iff_eq.mpr c15
          clear c15
          replace H := Option.bind_eq_some_iff.mp H
          obtain ⟨t126, A160, H⟩ := H
          replace H : (comfitlaw07_MouldsTurns.j0 k a0 t118 t119 (!t126)) = some r := H
          have A16 := Aside0.mk A160
          clear A160
          have H' := Aside0.mk H
          clear H
          go_wp2_with (first | ((with_reducible refine gate_callee (f := 23) rfl ?_); refine goesL_ (some 41) rfl rfl Tryd.func23 (by kernel_rfl) rfl #[.string a0] rfl (by (try simp only [List.map_toArray, List.map_cons, List.map_nil]); first | done | rfl | (simp only [List.length_drop, List.length_take]; rfl)) ?_; (with_reducible refine (comfitref07_Back.calls k a0 t125 _ A13.out).mono ?_); rintro e w17 ⟨rfl, hb⟩; refine ⟨_, rfl, ?_⟩; have n0_ := Aside0.mk (below_step (by repeat (first | (with_reducible first | exact HB.out | apply below_alloc | apply pw_below_drewN | apply below_drew1) | exact HB.out)) hb); clear HB; have HB := n0_; clear n0_; (try clear hb); (try clear hb2); (try clear hk); (try clear hi)) | (go_at_call 20; (with_reducible refine (comfitlaw07_awake.calls  t126 _ A16.out).mono ?_); rintro e w18 ⟨rfl, hb⟩; have n0_ := Aside0.mk (below_step (by repeat (first | (with_reducible first | exact HB.out | apply below_alloc | apply pw_below_drewN | apply below_drew1) | exact HB.out)) hb); clear HB; have HB := n0_; clear n0_; (try clear hb); (try clear hb2); (try clear hk); (try clear hi)))
          go_meet
          case rel => exact ⟨_, (!t126), (by first | rfl | (simp; done) | (simp [*]; done)), H', ⟨by first | omega | exact Nat.le_refl _⟩, ⟨by repeat (first | (with_reducible first | exact HB.out | apply below_alloc | apply pw_below_drewN | apply below_drew1) | exact HB.out)⟩⟩
        · rw [if_neg c15] at H
          have c15b0 : (t122 == 0) = false := beq_eq_false_iff_ne.mpr c15
          have c15b1 : (t122 != 0) = true := bne_iff_ne.mpr c15
          have H' := Aside0.mk H
          clear H
          go_wp2_with (first | ((with_reducible refine gate_callee (f := 23) rfl ?_); refine goesL_ (some 41) rfl rfl Tryd.func23 (by kernel_rfl) rfl #[.string a0] rfl (by (try simp only [List.map_toArray, List.map_cons, List.map_nil]); first | done | rfl | (simp only [List.length_drop, List.length_take]; rfl)) ?_; (with_reducible refine (comfitref07_Back.calls k a0 t125 _ A13.out).mono ?_); rintro e w19 ⟨rfl, hb⟩; refine ⟨_, rfl, ?_⟩; have n0_ := Aside0.mk (below_step (by repeat (first | (with_reducible first | exact HB.out | apply below_alloc | apply pw_below_drewN | apply below_drew1) | exact HB.out)) hb); clear HB; have HB := n0_; clear n0_; (try clear hb); (try clear hb2); (try clear hk); (try clear hi)))
          go_meet
          case rel => exact ⟨_, (true), (by first | rfl | (simp; done) | (simp [*]; done)), H', ⟨by first | omega | exact Nat.le_refl _⟩, ⟨by repeat (first | (with_reducible first | exact HB.out | apply below_alloc | apply pw_below_drewN | apply below_drew1) | exact HB.out)⟩⟩
      · rw [if_neg c14] at H
        have c14b0 : (t121.toList == t125.toList) = false := beq_eq_false_iff_ne.mpr c14
        have c14b1 : (t121.toList != t125.toList) = true := bne_iff_ne.mpr c14
        (first | rw [c14b0] | (simp only [i64_w, i32_w]; rw [c14b0]) | skip)
        have H' := Aside0.mk H
        clear H
        go_wp2_with (first | ((with_reducible refine gate_callee (f := 23) rfl ?_); refine goesL_ (some 41) rfl rfl Tryd.func23 (by kernel_rfl) rfl #[.string a0] rfl (by (try simp only [List.map_toArray, List.map_cons, List.map_nil]); first | done | rfl | (simp only [List.length_drop, List.length_take]; rfl)) ?_; (with_reducible refine (comfitref07_Back.calls k a0 t125 _ A13.out).mono ?_); rintro e w20 ⟨rfl, hb⟩; refine ⟨_, rfl, ?_⟩; have n0_ := Aside0.mk (below_step (by repeat (first | (with_reducible first | exact HB.out | apply below_alloc | apply pw_below_drewN | apply below_drew1) | exact HB.out)) hb); clear HB; have HB := n0_; clear n0_; (try clear hb); (try clear hb2); (try clear hk); (try clear hi)))
        go_meet
        case rel => exact ⟨_, (true), (by first | rfl | (simp; done) | (simp [*]; done)), H', ⟨by first | omega | exact Nat.le_refl _⟩, ⟨by repeat (first | (with_reducible first | exact HB.out | apply below_alloc | apply pw_below_drewN | apply below_drew1) | exact HB.out)⟩⟩
    case rest =>
      clear HC8
      try clear c1
      try clear c2
      try clear p2
      try clear c4
      try clear c7
      try clear c14
      try clear c14b0
      try clear c14b1
      try clear c15
      try clear c15b0
      try clear c15b1
      try clear c17
      try clear c18
      try clear c19
      obtain ⟨kq, x50_7, rfl, HA, HJ7, HB⟩ := hcut
      cases kq with
      | zero => exact absurd HA.out (by simp [comfitlaw07_MouldsTurns.j0])
      | succ kj7 =>
        have H := HA.out
        clear HA
        simp only [comfitlaw07_MouldsTurns.j0] at H
        by_cases c21 : x50_7 = true
        · subst c21
          have H1 : (some false) = some r := by rw [if_pos rfl] at H; exact H
          clear H
          have H := H1
          clear H1
          obtain rfl := Option.some.inj H
          go_wp2
          go_ret
          exact ⟨by first | rfl | (simp [errW_none, errW_some] <;> rfl) | (simp [*, errW_none, errW_some] <;> rfl), by repeat (first | (with_reducible first | exact HB.out | apply below_alloc | apply pw_below_drewN | apply below_drew1) | exact HB.out)⟩
        · replace c21 := Bool.eq_false_iff.mpr c21
          subst c21
          have H1 : ((Go.Proofs.YtpfenoioeajkmaaDoor.X.ref_Is.f a0).bind fun t127 => (if t127 = true then ((Go.Proofs.YtpfenoioeajkmaaDoor.X.ref_First.f a0).bind fun t128 => (if t118.toList = t128.toList then (some (t119 == 0)) else (some false))) else (if t118.toList = ([] : List UInt8) then (some (t119 == 2)) else (some false)))) = some r := by rw [if_neg (show ¬ (false = true) by decide)] at H; exact H
          clear H
          have H := H1
          clear H1
          replace H := Option.bind_eq_some_iff.mp H
          obtain ⟨t127, A220, H⟩ := H
          replace H : (if t127 = true then ((Go.Proofs.YtpfenoioeajkmaaDoor.X.ref_First.f a0).bind fun t128 => (if t118.toList = t128.toList then (some (t119 == 0)) else (some false))) else (if t118.toList = ([] : List UInt8) then (some (t119 == 2)) else (some false))) = some r := H
          have A22 := Aside0.mk A220
          clear A220
          by_cases c23 : t127 = true
          · subst c23
            have H1 : ((Go.Proofs.YtpfenoioeajkmaaDoor.X.ref_First.f a0).bind fun t128 => (if t118.toList = t128.toList then (some (t119 == 0)) else (some false))) = some r := by rw [if_pos rfl] at H; exact H
            clear H
            have H := H1
            clear H1
            replace H := Option.bind_eq_some_iff.mp H
            obtain ⟨t128, A240, H⟩ := H
            replace H : (if t118.toList = t128.toList then (some (t119 == 0)) else (some false)) = some r := H
            have A24 := Aside0.mk A240
            clear A240
            by_cases c25 : t118.toList = t128.toList
            · rw [if_pos c25] at H
              have c25b0 : (t118.toList == t128.toList) = true := beq_iff_eq.mpr c25
              have c25b1 : (t118.toList != t128.toList) = false := bne_eq_false_iff_eq.mpr c25
              clear c25
              obtain rfl := Option.some.inj H
              go_wp2_with (first | ((with_reducible refine gate_callee (f := 24) rfl ?_); refine goesL_ (some 52) rfl rfl Tryd.func24 (by kernel_rfl) rfl #[.string a0] rfl (by (try simp only [List.map_toArray, List.map_cons, List.map_nil]); first | done | rfl | (simp only [List.length_drop, List.length_take]; rfl)) ?_; (with_reducible refine (Go.Proofs.YtpfenoioeajkmaaDoor.X.ref_Is.calls a0 true _ A22.out).mono ?_); rintro e w26 ⟨rfl, hb⟩; refine ⟨_, rfl, ?_⟩; have n0_ := Aside0.mk (below_step (by repeat (first | (with_reducible first | exact HB.out | apply below_alloc | apply pw_below_drewN | apply below_drew1) | exact HB.out)) hb); clear HB; have HB := n0_; clear n0_; (try clear hb); (try clear hb2); (try clear hk); (try clear hi)) | ((with_reducible refine gate_callee (f := 25) rfl ?_); refine goesL_ (some 62) rfl rfl Tryd.func25 (by kernel_rfl) rfl #[.string a0] rfl (by (try simp only [List.map_toArray, List.map_cons, List.map_nil]); first | done | rfl | (simp only [List.length_drop, List.length_take]; rfl)) ?_; (with_reducible refine (Go.Proofs.YtpfenoioeajkmaaDoor.X.ref_First.calls a0 t128 _ A24.out).mono ?_); rintro e w27 ⟨rfl, hb⟩; refine ⟨_, rfl, ?_⟩; have n0_ := Aside0.mk (below_step (by repeat (first | (with_reducible first | exact HB.out | apply below_alloc | apply pw_below_drewN | apply below_drew1) | exact HB.out)) hb); clear HB; have HB := n0_; clear n0_; (try clear hb); (try clear hb2); (try clear hk); (try clear hi)))
              go_ret
              exact ⟨by first | rfl | (simp [errW_none, errW_some] <;> rfl) | (simp [*, errW_none, errW_some] <;> rfl), by repeat (first | (with_reducible first | exact HB.out | apply below_alloc | apply pw_below_drewN | apply below_drew1) | exact HB.out)⟩
            · rw [if_neg c25] at H
              have c25b0 : (t118.toList == t128.toList) = false := beq_eq_false_iff_ne.mpr c25
              have c25b1 : (t118.toList != t128.toList) = true := bne_iff_ne.mpr c25
              obtain rfl := Option.some.inj H
              go_wp2_with (first | ((with_reducible refine gate_callee (f := 24) rfl ?_); refine goesL_ (some 52) rfl rfl Tryd.func24 (by kernel_rfl) rfl #[.string a0] rfl (by (try simp only [List.map_toArray, List.map_cons, List.map_nil]); first | done | rfl | (simp only [List.length_drop, List.length_take]; rfl)) ?_; (with_reducible refine (Go.Proofs.YtpfenoioeajkmaaDoor.X.ref_Is.calls a0 true _ A22.out).mono ?_); rintro e w28 ⟨rfl, hb⟩; refine ⟨_, rfl, ?_⟩; have n0_ := Aside0.mk (below_step (by repeat (first | (with_reducible first | exact HB.out | apply below_alloc | apply pw_below_drewN | apply below_drew1) | exact HB.out)) hb); clear HB; have HB := n0_; clear n0_; (try clear hb); (try clear hb2); (try clear hk); (try clear hi)) | ((with_reducible refine gate_callee (f := 25) rfl ?_); refine goesL_ (some 62) rfl rfl Tryd.func25 (by kernel_rfl) rfl #[.string a0] rfl (by (try simp only [List.map_toArray, List.map_cons, List.map_nil]); first | done | rfl | (simp only [List.length_drop, List.length_take]; rfl)) ?_; (with_reducible refine (Go.Proofs.YtpfenoioeajkmaaDoor.X.ref_First.calls a0 t128 _ A24.out).mono ?_); rintro e w29 ⟨rfl, hb⟩; refine ⟨_, rfl, ?_⟩; have n0_ := Aside0.mk (below_step (by repeat (first | (with_reducible first | exact HB.out | apply below_alloc | apply pw_below_drewN | apply below_drew1) | exact HB.out)) hb); clear HB; have HB := n0_; clear n0_; (try clear hb); (try clear hb2); (try clear hk); (try clear hi)))
              go_ret
              exact ⟨by first | rfl | (simp [errW_none, errW_some] <;> rfl) | (simp [*, errW_none, errW_some] <;> rfl), by repeat (first | (with_reducible first | exact HB.out | apply below_alloc | apply pw_below_drewN | apply below_drew1) | exact HB.out)⟩
          · replace c23 := Bool.eq_false_iff.mpr c23
            subst c23
            have H1 : (if t118.toList = ([] : List UInt8) then (some (t119 == 2)) else (some false)) = some r := by rw [if_neg (show ¬ (false = true) by decide)] at H; exact H
            clear H
            have H := H1
            clear H1
            by_cases c30 : t118.toList = ([] : List UInt8)
            · rw [if_pos c30] at H
              have c30b0 : (t118.toList == ([] : List UInt8)) = true := beq_iff_eq.mpr c30
              have c30b1 : (t118.toList != ([] : List UInt8)) = false := bne_eq_false_iff_eq.mpr c30
              clear c30
              obtain rfl := Option.some.inj H
              go_wp2_with (first | ((with_reducible refine gate_callee (f := 24) rfl ?_); refine goesL_ (some 52) rfl rfl Tryd.func24 (by kernel_rfl) rfl #[.string a0] rfl (by (try simp only [List.map_toArray, List.map_cons, List.map_nil]); first | done | rfl | (simp only [List.length_drop, List.length_take]; rfl)) ?_; (with_reducible refine (Go.Proofs.YtpfenoioeajkmaaDoor.X.ref_Is.calls a0 false _ A22.out).mono ?_); rintro e w31 ⟨rfl, hb⟩; refine ⟨_, rfl, ?_⟩; have n0_ := Aside0.mk (below_step (by repeat (first | (with_reducible first | exact HB.out | apply below_alloc | apply pw_below_drewN | apply below_drew1) | exact HB.out)) hb); clear HB; have HB := n0_; clear n0_; (try clear hb); (try clear hb2); (try clear hk); (try clear hi)))
              go_ret
              exact ⟨by first | rfl | (simp [errW_none, errW_some] <;> rfl) | (simp [*, errW_none, errW_some] <;> rfl), by repeat (first | (with_reducible first | exact HB.out | apply below_alloc | apply pw_below_drewN | apply below_drew1) | exact HB.out)⟩
            · rw [if_neg c30] at H
              have c30b0 : (t118.toList == ([] : List UInt8)) = false := beq_eq_false_iff_ne.mpr c30
              have c30b1 : (t118.toList != ([] : List UInt8)) = true := bne_iff_ne.mpr c30
              obtain rfl := Option.some.inj H
              go_wp2_with (first | ((with_reducible refine gate_callee (f := 24) rfl ?_); refine goesL_ (some 52) rfl rfl Tryd.func24 (by kernel_rfl) rfl #[.string a0] rfl (by (try simp only [List.map_toArray, List.map_cons, List.map_nil]); first | done | rfl | (simp only [List.length_drop, List.length_take]; rfl)) ?_; (with_reducible refine (Go.Proofs.YtpfenoioeajkmaaDoor.X.ref_Is.calls a0 false _ A22.out).mono ?_); rintro e w32 ⟨rfl, hb⟩; refine ⟨_, rfl, ?_⟩; have n0_ := Aside0.mk (below_step (by repeat (first | (with_reducible first | exact HB.out | apply below_alloc | apply pw_below_drewN | apply below_drew1) | exact HB.out)) hb); clear HB; have HB := n0_; clear n0_; (try clear hb); (try clear hb2); (try clear hk); (try clear hi)))
              go_ret
              exact ⟨by first | rfl | (simp [errW_none, errW_some] <;> rfl) | (simp [*, errW_none, errW_some] <;> rfl), by repeat (first | (with_reducible first | exact HB.out | apply below_alloc | apply pw_below_drewN | apply below_drew1) | exact HB.out)⟩
  · replace c7 := Bool.eq_false_iff.mpr c7
    subst c7
    have H1 : (if t118.toList = ([] : List UInt8) then (if t121.toList = ([] : List UInt8) then (if t119 = 2 then (if t122 = 2 then ((comfitlaw07_awake.f).bind fun t124 => (some t124)) else (some false)) else (some false)) else (some false)) else (some false)) = some r := by rw [if_neg (show ¬ (false = true) by decide)] at H; exact H
    clear H
    have H := H1
    clear H1
    by_cases c33 : t118.toList = ([] : List UInt8)
    · rw [if_pos c33] at H
      have c33b0 : (t118.toList == ([] : List UInt8)) = true := beq_iff_eq.mpr c33
      have c33b1 : (t118.toList != ([] : List UInt8)) = false := bne_eq_false_iff_eq.mpr c33
      clear c33
      by_cases c34 : t121.toList = ([] : List UInt8)
      · rw [if_pos c34] at H
        have c34b0 : (t121.toList == ([] : List UInt8)) = true := beq_iff_eq.mpr c34
        have c34b1 : (t121.toList != ([] : List UInt8)) = false := bne_eq_false_iff_eq.mpr c34
        clear c34
        by_cases c35 : t119 = 2
        · rw [if_pos c35] at H
          have c35b0 : (t119 == 2) = true := beq_iff_eq.mpr c35
          have c35b1 : (t119 != 2) = false := bne_eq_false_iff_eq.mpr c35
          clear c35
          by_cases c36 : t122 = 2
          · rw [if_pos c36] at H
            have c36b0 : (t122 == 2) = true := beq_iff_eq.mpr c36
            have c36b1 : (t122 != 2) = false := bne_eq_false_iff_eq.mpr c36
            clear c36
            replace H := Option.bind_eq_some_iff.mp H
            obtain ⟨t124, A370, H⟩ := H
            replace H : (some t124) = some r := H
            have A37 := Aside0.mk A370
            clear A370
            obtain rfl := Option.some.inj H
            go_enter Tryd.func4, Tryd.ntmps4
            go_wp2_with (first | ((with_reducible refine gate_callee (f := 18) rfl ?_); refine goesL_ (some 9) rfl rfl Tryd.func18 (by kernel_rfl) rfl #[.string a0] rfl (by (try simp only [List.map_toArray, List.map_cons, List.map_nil]); first | done | rfl | (simp only [List.length_drop, List.length_take]; rfl)) ?_; (with_reducible refine (Go.Proofs.YtpfenoioeajkmaaDoor.PA.comfitlaw07_text.calls a0 t117 _ A2.out).mono ?_); rintro e w38 ⟨rfl, hb⟩; refine ⟨_, rfl, ?_⟩; have n0_ := Aside0.mk (below_step (by repeat (first | (with_reducible first | exact HB.out | apply below_alloc | apply pw_below_drewN | apply below_drew1) | exact HB.out)) hb); clear HB; have HB := n0_; clear n0_; (try clear hb); (try clear hb2); (try clear hk); (try clear hi)) | ((with_reducible refine gate_callee (f := 22) rfl ?_); refine goesL_ (some 10) rfl rfl Tryd.func22 (by kernel_rfl) rfl #[.string t117] rfl (by (try simp only [List.map_toArray, List.map_cons, List.map_nil]); first | done | rfl | (simp only [List.length_drop, List.length_take]; rfl)) ?_; (with_reducible refine (moulds_First.calls t117 t118 t119 _ A3.out).mono ?_); rintro e w39 ⟨rfl, hb⟩; refine ⟨_, rfl, ?_⟩; have n0_ := Aside0.mk (below_step (by repeat (first | (with_reducible first | exact HB.out | apply below_alloc | apply pw_below_drewN | apply below_drew1) | exact HB.out)) hb); clear HB; have HB := n0_; clear n0_; (try clear hb); (try clear hb2); (try clear hk); (try clear hi)) | ((with_reducible refine gate_callee (f := 18) rfl ?_); refine goesL_ (some 15) rfl rfl Tryd.func18 (by kernel_rfl) rfl #[.string a0] rfl (by (try simp only [List.map_toArray, List.map_cons, List.map_nil]); first | done | rfl | (simp only [List.length_drop, List.length_take]; rfl)) ?_; (with_reducible refine (Go.Proofs.YtpfenoioeajkmaaDoor.PA.comfitlaw07_text.calls a0 t120 _ A4.out).mono ?_); rintro e w40 ⟨rfl, hb⟩; refine ⟨_, rfl, ?_⟩; have n0_ := Aside0.mk (below_step (by repeat (first | (with_reducible first | exact HB.out | apply below_alloc | apply pw_below_drewN | apply below_drew1) | exact HB.out)) hb); clear HB; have HB := n0_; clear n0_; (try clear hb); (try clear hb2); (try clear hk); (try clear hi)) | ((with_reducible refine gate_callee (f := 17) rfl ?_); refine goesL_ (some 16) rfl rfl Tryd.func17 (by kernel_rfl) rfl #[.string t120] rfl (by (try simp only [List.map_toArray, List.map_cons, List.map_nil]); first | done | rfl | (simp only [List.length_drop, List.length_take]; rfl)) ?_; (with_reducible refine (moulds_Back.calls t120 t121 t122 _ A5.out).mono ?_); rintro e w41 ⟨rfl, hb⟩; refine ⟨_, rfl, ?_⟩; have n0_ := Aside0.mk (below_step (by repeat (first | (with_reducible first | exact HB.out | apply below_alloc | apply pw_below_drewN | apply below_drew1) | exact HB.out)) hb); clear HB; have HB := n0_; clear n0_; (try clear hb); (try clear hb2); (try clear hk); (try clear hi)) | ((with_reducible refine gate_callee (f := 19) rfl ?_); refine goesL_ (some 20) rfl rfl Tryd.func19 (by kernel_rfl) rfl #[.string a0] rfl (by (try simp only [List.map_toArray, List.map_cons, List.map_nil]); first | done | rfl | (simp only [List.length_drop, List.length_take]; rfl)) ?_; (with_reducible refine (Go.Proofs.YtpfenoioeajkmaaDoor.PA.comfitref07_Word.calls k a0 false _ A6.out).mono ?_); rintro e w' ⟨rfl, ⟨nd, rfl⟩⟩; refine ⟨_, rfl, ?_⟩) | (go_at_call 20; (with_reducible refine (comfitlaw07_awake.calls  t124 _ A37.out).mono ?_); rintro e w42 ⟨rfl, hb⟩; have n0_ := Aside0.mk (below_step (by repeat (first | (with_reducible first | exact HB.out | apply below_alloc | apply pw_below_drewN | apply below_drew1) | exact HB.out)) hb); clear HB; have HB := n0_; clear n0_; (try clear hb); (try clear hb2); (try clear hk); (try clear hi)))
            go_ret
            exact ⟨by first | rfl | (simp [errW_none, errW_some] <;> rfl) | (simp [*, errW_none, errW_some] <;> rfl), by repeat (first | (with_reducible first | exact HB.out | apply below_alloc | apply pw_below_drewN | apply below_drew1) | exact HB.out)⟩
          · rw [if_neg c36] at H
            have c36b0 : (t122 == 2) = false := beq_eq_false_iff_ne.mpr c36
            have c36b1 : (t122 != 2) = true := bne_iff_ne.mpr c36
            obtain rfl := Option.some.inj H
            go_enter Tryd.func4, Tryd.ntmps4
            go_wp2_with (first | ((with_reducible refine gate_callee (f := 18) rfl ?_); refine goesL_ (some 9) rfl rfl Tryd.func18 (by kernel_rfl) rfl #[.string a0] rfl (by (try simp only [List.map_toArray, List.map_cons, List.map_nil]); first | done | rfl | (simp only [List.length_drop, List.length_take]; rfl)) ?_; (with_reducible refine (Go.Proofs.YtpfenoioeajkmaaDoor.PA.comfitlaw07_text.calls a0 t117 _ A2.out).mono ?_); rintro e w43 ⟨rfl, hb⟩; refine ⟨_, rfl, ?_⟩; have n0_ := Aside0.mk (below_step (by repeat (first | (with_reducible first | exact HB.out | apply below_alloc | apply pw_below_drewN | apply below_drew1) | exact HB.out)) hb); clear HB; have HB := n0_; clear n0_; (try clear hb); (try clear hb2); (try clear hk); (try clear hi)) | ((with_reducible refine gate_callee (f := 22) rfl ?_); refine goesL_ (some 10) rfl rfl Tryd.func22 (by kernel_rfl) rfl #[.string t117] rfl (by (try simp only [List.map_toArray, List.map_cons, List.map_nil]); first | done | rfl | (simp only [List.length_drop, List.length_take]; rfl)) ?_; (with_reducible refine (moulds_First.calls t117 t118 t119 _ A3.out).mono ?_); rintro e w44 ⟨rfl, hb⟩; refine ⟨_, rfl, ?_⟩; have n0_ := Aside0.mk (below_step (by repeat (first | (with_reducible first | exact HB.out | apply below_alloc | apply pw_below_drewN | apply below_drew1) | exact HB.out)) hb); clear HB; have HB := n0_; clear n0_; (try clear hb); (try clear hb2); (try clear hk); (try clear hi)) | ((with_reducible refine gate_callee (f := 18) rfl ?_); refine goesL_ (some 15) rfl rfl Tryd.func18 (by kernel_rfl) rfl #[.string a0] rfl (by (try simp only [List.map_toArray, List.map_cons, List.map_nil]); first | done | rfl | (simp only [List.length_drop, List.length_take]; rfl)) ?_; (with_reducible refine (Go.Proofs.YtpfenoioeajkmaaDoor.PA.comfitlaw07_text.calls a0 t120 _ A4.out).mono ?_); rintro e w45 ⟨rfl, hb⟩; refine ⟨_, rfl, ?_⟩; have n0_ := Aside0.mk (below_step (by repeat (first | (with_reducible first | exact HB.out | apply below_alloc | apply pw_below_drewN | apply below_drew1) | exact HB.out)) hb); clear HB; have HB := n0_; clear n0_; (try clear hb); (try clear hb2); (try clear hk); (try clear hi)) | ((with_reducible refine gate_callee (f := 17) rfl ?_); refine goesL_ (some 16) rfl rfl Tryd.func17 (by kernel_rfl) rfl #[.string t120] rfl (by (try simp only [List.map_toArray, List.map_cons, List.map_nil]); first | done | rfl | (simp only [List.length_drop, List.length_take]; rfl)) ?_; (with_reducible refine (moulds_Back.calls t120 t121 t122 _ A5.out).mono ?_); rintro e w46 ⟨rfl, hb⟩; refine ⟨_, rfl, ?_⟩; have n0_ := Aside0.mk (below_step (by repeat (first | (with_reducible first | exact HB.out | apply below_alloc | apply pw_below_drewN | apply below_drew1) | exact HB.out)) hb); clear HB; have HB := n0_; clear n0_; (try clear hb); (try clear hb2); (try clear hk); (try clear hi)) | ((with_reducible refine gate_callee (f := 19) rfl ?_); refine goesL_ (some 20) rfl rfl Tryd.func19 (by kernel_rfl) rfl #[.string a0] rfl (by (try simp only [List.map_toArray, List.map_cons, List.map_nil]); first | done | rfl | (simp only [List.length_drop, List.length_take]; rfl)) ?_; (with_reducible refine (Go.Proofs.YtpfenoioeajkmaaDoor.PA.comfitref07_Word.calls k a0 false _ A6.out).mono ?_); rintro e w' ⟨rfl, ⟨nd, rfl⟩⟩; refine ⟨_, rfl, ?_⟩))
            go_ret
            exact ⟨by first | rfl | (simp [errW_none, errW_some] <;> rfl) | (simp [*, errW_none, errW_some] <;> rfl), by repeat (first | (with_reducible first | exact HB.out | apply below_alloc | apply pw_below_drewN | apply below_drew1) | exact HB.out)⟩
        · rw [if_neg c35] at H
          have c35b0 : (t119 == 2) = false := beq_eq_false_iff_ne.mpr c35
          have c35b1 : (t119 != 2) = true := bne_iff_ne.mpr c35
          obtain rfl := Option.some.inj H
          go_enter Tryd.func4, Tryd.ntmps4
          go_wp2_with (first | ((with_reducible refine gate_callee (f := 18) rfl ?_); refine goesL_ (some 9) rfl rfl Tryd.func18 (by kernel_rfl) rfl #[.string a0] rfl (by (try simp only [List.map_toArray, List.map_cons, List.map_nil]); first | done | rfl | (simp only [List.length_drop, List.length_take]; rfl)) ?_; (with_reducible refine (Go.Proofs.YtpfenoioeajkmaaDoor.PA.comfitlaw07_text.calls a0 t117 _ A2.out).mono ?_); rintro e w47 ⟨rfl, hb⟩; refine ⟨_, rfl, ?_⟩; have n0_ := Aside0.mk (below_step (by repeat (first | (with_reducible first | exact HB.out | apply below_alloc | apply pw_below_drewN | apply below_drew1) | exact HB.out)) hb); clear HB; have HB := n0_; clear n0_; (try clear hb); (try clear hb2); (try clear hk); (try clear hi)) | ((with_reducible refine gate_callee (f := 22) rfl ?_); refine goesL_ (some 10) rfl rfl Tryd.func22 (by kernel_rfl) rfl #[.string t117] rfl (by (try simp only [List.map_toArray, List.map_cons, List.map_nil]); first | done | rfl | (simp only [List.length_drop, List.length_take]; rfl)) ?_; (with_reducible refine (moulds_First.calls t117 t118 t119 _ A3.out).mono ?_); rintro e w48 ⟨rfl, hb⟩; refine ⟨_, rfl, ?_⟩; have n0_ := Aside0.mk (below_step (by repeat (first | (with_reducible first | exact HB.out | apply below_alloc | apply pw_below_drewN | apply below_drew1) | exact HB.out)) hb); clear HB; have HB := n0_; clear n0_; (try clear hb); (try clear hb2); (try clear hk); (try clear hi)) | ((with_reducible refine gate_callee (f := 18) rfl ?_); refine goesL_ (some 15) rfl rfl Tryd.func18 (by kernel_rfl) rfl #[.string a0] rfl (by (try simp only [List.map_toArray, List.map_cons, List.map_nil]); first | done | rfl | (simp only [List.length_drop, List.length_take]; rfl)) ?_; (with_reducible refine (Go.Proofs.YtpfenoioeajkmaaDoor.PA.comfitlaw07_text.calls a0 t120 _ A4.out).mono ?_); rintro e w49 ⟨rfl, hb⟩; refine ⟨_, rfl, ?_⟩; have n0_ := Aside0.mk (below_step (by repeat (first | (with_reducible first | exact HB.out | apply below_alloc | apply pw_below_drewN | apply below_drew1) | exact HB.out)) hb); clear HB; have HB := n0_; clear n0_; (try clear hb); (try clear hb2); (try clear hk); (try clear hi)) | ((with_reducible refine gate_callee (f := 17) rfl ?_); refine goesL_ (some 16) rfl rfl Tryd.func17 (by kernel_rfl) rfl #[.string t120] rfl (by (try simp only [List.map_toArray, List.map_cons, List.map_nil]); first | done | rfl | (simp only [List.length_drop, List.length_take]; rfl)) ?_; (with_reducible refine (moulds_Back.calls t120 t121 t122 _ A5.out).mono ?_); rintro e w50 ⟨rfl, hb⟩; refine ⟨_, rfl, ?_⟩; have n0_ := Aside0.mk (below_step (by repeat (first | (with_reducible first | exact HB.out | apply below_alloc | apply pw_below_drewN | apply below_drew1) | exact HB.out)) hb); clear HB; have HB := n0_; clear n0_; (try clear hb); (try clear hb2); (try clear hk); (try clear hi)) | ((with_reducible refine gate_callee (f := 19) rfl ?_); refine goesL_ (some 20) rfl rfl Tryd.func19 (by kernel_rfl) rfl #[.string a0] rfl (by (try simp only [List.map_toArray, List.map_cons, List.map_nil]); first | done | rfl | (simp only [List.length_drop, List.length_take]; rfl)) ?_; (with_reducible refine (Go.Proofs.YtpfenoioeajkmaaDoor.PA.comfitref07_Word.calls k a0 false _ A6.out).mono ?_); rintro e w' ⟨rfl, ⟨nd, rfl⟩⟩; refine ⟨_, rfl, ?_⟩))
          go_ret
          exact ⟨by first | rfl | (simp [errW_none, errW_some] <;> rfl) | (simp [*, errW_none, errW_some] <;> rfl), by repeat (first | (with_reducible first | exact HB.out | apply below_alloc | apply pw_below_drewN | apply below_drew1) | exact HB.out)⟩
      · rw [if_neg c34] at H
        have c34b0 : (t121.toList == ([] : List UInt8)) = false := beq_eq_false_iff_ne.mpr c34
        have c34b1 : (t121.toList != ([] : List UInt8)) = true := bne_iff_ne.mpr c34
        obtain rfl := Option.some.inj H
        go_enter Tryd.func4, Tryd.ntmps4
        go_wp2_with (first | ((with_reducible refine gate_callee (f := 18) rfl ?_); refine goesL_ (some 9) rfl rfl Tryd.func18 (by kernel_rfl) rfl #[.string a0] rfl (by (try simp only [List.map_toArray, List.map_cons, List.map_nil]); first | done | rfl | (simp only [List.length_drop, List.length_take]; rfl)) ?_; (with_reducible refine (Go.Proofs.YtpfenoioeajkmaaDoor.PA.comfitlaw07_text.calls a0 t117 _ A2.out).mono ?_); rintro e w51 ⟨rfl, hb⟩; refine ⟨_, rfl, ?_⟩; have n0_ := Aside0.mk (below_step (by repeat (first | (with_reducible first | exact HB.out | apply below_alloc | apply pw_below_drewN | apply below_drew1) | exact HB.out)) hb); clear HB; have HB := n0_; clear n0_; (try clear hb); (try clear hb2); (try clear hk); (try clear hi)) | ((with_reducible refine gate_callee (f := 22) rfl ?_); refine goesL_ (some 10) rfl rfl Tryd.func22 (by kernel_rfl) rfl #[.string t117] rfl (by (try simp only [List.map_toArray, List.map_cons, List.map_nil]); first | done | rfl | (simp only [List.length_drop, List.length_take]; rfl)) ?_; (with_reducible refine (moulds_First.calls t117 t118 t119 _ A3.out).mono ?_); rintro e w52 ⟨rfl, hb⟩; refine ⟨_, rfl, ?_⟩; have n0_ := Aside0.mk (below_step (by repeat (first | (with_reducible first | exact HB.out | apply below_alloc | apply pw_below_drewN | apply below_drew1) | exact HB.out)) hb); clear HB; have HB := n0_; clear n0_; (try clear hb); (try clear hb2); (try clear hk); (try clear hi)) | ((with_reducible refine gate_callee (f := 18) rfl ?_); refine goesL_ (some 15) rfl rfl Tryd.func18 (by kernel_rfl) rfl #[.string a0] rfl (by (try simp only [List.map_toArray, List.map_cons, List.map_nil]); first | done | rfl | (simp only [List.length_drop, List.length_take]; rfl)) ?_; (with_reducible refine (Go.Proofs.YtpfenoioeajkmaaDoor.PA.comfitlaw07_text.calls a0 t120 _ A4.out).mono ?_); rintro e w53 ⟨rfl, hb⟩; refine ⟨_, rfl, ?_⟩; have n0_ := Aside0.mk (below_step (by repeat (first | (with_reducible first | exact HB.out | apply below_alloc | apply pw_below_drewN | apply below_drew1) | exact HB.out)) hb); clear HB; have HB := n0_; clear n0_; (try clear hb); (try clear hb2); (try clear hk); (try clear hi)) | ((with_reducible refine gate_callee (f := 17) rfl ?_); refine goesL_ (some 16) rfl rfl Tryd.func17 (by kernel_rfl) rfl #[.string t120] rfl (by (try simp only [List.map_toArray, List.map_cons, List.map_nil]); first | done | rfl | (simp only [List.length_drop, List.length_take]; rfl)) ?_; (with_reducible refine (moulds_Back.calls t120 t121 t122 _ A5.out).mono ?_); rintro e w54 ⟨rfl, hb⟩; refine ⟨_, rfl, ?_⟩; have n0_ := Aside0.mk (below_step (by repeat (first | (with_reducible first | exact HB.out | apply below_alloc | apply pw_below_drewN | apply below_drew1) | exact HB.out)) hb); clear HB; have HB := n0_; clear n0_; (try clear hb); (try clear hb2); (try clear hk); (try clear hi)) | ((with_reducible refine gate_callee (f := 19) rfl ?_); refine goesL_ (some 20) rfl rfl Tryd.func19 (by kernel_rfl) rfl #[.string a0] rfl (by (try simp only [List.map_toArray, List.map_cons, List.map_nil]); first | done | rfl | (simp only [List.length_drop, List.length_take]; rfl)) ?_; (with_reducible refine (Go.Proofs.YtpfenoioeajkmaaDoor.PA.comfitref07_Word.calls k a0 false _ A6.out).mono ?_); rintro e w' ⟨rfl, ⟨nd, rfl⟩⟩; refine ⟨_, rfl, ?_⟩))
        go_ret
        exact ⟨by first | rfl | (simp [errW_none, errW_some] <;> rfl) | (simp [*, errW_none, errW_some] <;> rfl), by repeat (first | (with_reducible first | exact HB.out | apply below_alloc | apply pw_below_drewN | apply below_drew1) | exact HB.out)⟩
    · rw [if_neg c33] at H
      have c33b0 : (t118.toList == ([] : List UInt8)) = false := beq_eq_false_iff_ne.mpr c33
      have c33b1 : (t118.toList != ([] : List UInt8)) = true := bne_iff_ne.mpr c33
      obtain rfl := Option.some.inj H
      go_enter Tryd.func4, Tryd.ntmps4
      go_wp2_with (first | ((with_reducible refine gate_callee (f := 18) rfl ?_); refine goesL_ (some 9) rfl rfl Tryd.func18 (by kernel_rfl) rfl #[.string a0] rfl (by (try simp only [List.map_toArray, List.map_cons, List.map_nil]); first | done | rfl | (simp only [List.length_drop, List.length_take]; rfl)) ?_; (with_reducible refine (Go.Proofs.YtpfenoioeajkmaaDoor.PA.comfitlaw07_text.calls a0 t117 _ A2.out).mono ?_); rintro e w55 ⟨rfl, hb⟩; refine ⟨_, rfl, ?_⟩; have n0_ := Aside0.mk (below_step (by repeat (first | (with_reducible first | exact HB.out | apply below_alloc | apply pw_below_drewN | apply below_drew1) | exact HB.out)) hb); clear HB; have HB := n0_; clear n0_; (try clear hb); (try clear hb2); (try clear hk); (try clear hi)) | ((with_reducible refine gate_callee (f := 22) rfl ?_); refine goesL_ (some 10) rfl rfl Tryd.func22 (by kernel_rfl) rfl #[.string t117] rfl (by (try simp only [List.map_toArray, List.map_cons, List.map_nil]); first | done | rfl | (simp only [List.length_drop, List.length_take]; rfl)) ?_; (with_reducible refine (moulds_First.calls t117 t118 t119 _ A3.out).mono ?_); rintro e w56 ⟨rfl, hb⟩; refine ⟨_, rfl, ?_⟩; have n0_ := Aside0.mk (below_step (by repeat (first | (with_reducible first | exact HB.out | apply below_alloc | apply pw_below_drewN | apply below_drew1) | exact HB.out)) hb); clear HB; have HB := n0_; clear n0_; (try clear hb); (try clear hb2); (try clear hk); (try clear hi)) | ((with_reducible refine gate_callee (f := 18) rfl ?_); refine goesL_ (some 15) rfl rfl Tryd.func18 (by kernel_rfl) rfl #[.string a0] rfl (by (try simp only [List.map_toArray, List.map_cons, List.map_nil]); first | done | rfl | (simp only [List.length_drop, List.length_take]; rfl)) ?_; (with_reducible refine (Go.Proofs.YtpfenoioeajkmaaDoor.PA.comfitlaw07_text.calls a0 t120 _ A4.out).mono ?_); rintro e w57 ⟨rfl, hb⟩; refine ⟨_, rfl, ?_⟩; have n0_ := Aside0.mk (below_step (by repeat (first | (with_reducible first | exact HB.out | apply below_alloc | apply pw_below_drewN | apply below_drew1) | exact HB.out)) hb); clear HB; have HB := n0_; clear n0_; (try clear hb); (try clear hb2); (try clear hk); (try clear hi)) | ((with_reducible refine gate_callee (f := 17) rfl ?_); refine goesL_ (some 16) rfl rfl Tryd.func17 (by kernel_rfl) rfl #[.string t120] rfl (by (try simp only [List.map_toArray, List.map_cons, List.map_nil]); first | done | rfl | (simp only [List.length_drop, List.length_take]; rfl)) ?_; (with_reducible refine (moulds_Back.calls t120 t121 t122 _ A5.out).mono ?_); rintro e w58 ⟨rfl, hb⟩; refine ⟨_, rfl, ?_⟩; have n0_ := Aside0.mk (below_step (by repeat (first | (with_reducible first | exact HB.out | apply below_alloc | apply pw_below_drewN | apply below_drew1) | exact HB.out)) hb); clear HB; have HB := n0_; clear n0_; (try clear hb); (try clear hb2); (try clear hk); (try clear hi)) | ((with_reducible refine gate_callee (f := 19) rfl ?_); refine goesL_ (some 20) rfl rfl Tryd.func19 (by kernel_rfl) rfl #[.string a0] rfl (by (try simp only [List.map_toArray, List.map_cons, List.map_nil]); first | done | rfl | (simp only [List.length_drop, List.length_take]; rfl)) ?_; (with_reducible refine (Go.Proofs.YtpfenoioeajkmaaDoor.PA.comfitref07_Word.calls k a0 false _ A6.out).mono ?_); rintro e w' ⟨rfl, ⟨nd, rfl⟩⟩; refine ⟨_, rfl, ?_⟩))
      go_ret
      exact ⟨by first | rfl | (simp [errW_none, errW_some] <;> rfl) | (simp [*, errW_none, errW_some] <;> rfl), by repeat (first | (with_reducible first | exact HB.out | apply below_alloc | apply pw_below_drewN | apply below_drew1) | exact HB.out)⟩
end Go.Proofs.YtpfenoioeajkmaaDoor.PB
end

section
set_option linter.unusedVariables false
set_option linter.unusedSimpArgs false
namespace Go.Proofs.YtpfenoioeajkmaaDoor.L
open Go.RowKit Go.Proofs.YtpfenoioeajkmaaDoorW.PrintWords Go.Proofs.YtpfenoioeajkmaaDoorW.PrintLast Go.Proofs.YtpfenoioeajkmaaDoorW.PrintMore Go.Proofs.YtpfenoioeajkmaaDoor.X
theorem lift {α : Type} {f : Nat → Option α} (h : ∀ k, LeO (f k) (f (k + 1))) {k : Nat} {r : α} (hr : f k = some r) : ∀ {m}, k ≤ m → f m = some r := by
  intro m hm
  induction m with
  | zero => rw [show (0 : Nat) = k by omega]; exact hr
  | succ m ih =>
    by_cases e : k = m + 1
    · rw [← e]; exact hr
    · exact h m r (ih (by omega))
def isL (c : Int) : Prop := c = 114 ∨ c = 117 ∨ c = 108 ∨ c = 100
theorem bt_list (s : ByteArray) (i : Nat) (hi : i < s.size) : bt s i = ((s.data.toList[i]'(by rw [data_length]; exact hi)).toNat : Int) := by
  rw [← bt_at s i (by simpa using hi)]
  rfl
theorem lets_iff (b : UInt8) : lets.contains b = true ↔ isL (b.toNat : Int) := by
  unfold lets isL
  simp only [List.contains_cons, List.contains_nil, Bool.or_false, Bool.or_eq_true, beq_iff_eq]
  constructor
  · rintro (h | h | h | h) <;> subst h <;> simp
  · have e : ∀ n : Nat, n < 256 → (b.toNat : Int) = n → b = n.toUInt8 := fun n hn h => by
      apply UInt8.toNat_inj.1
      have : b.toNat = n := by omega
      rw [this]
      simp [Nat.toUInt8, UInt8.toNat_ofNat']
      omega
    rintro (h | h | h | h)
    · exact .inl (e 114 (by decide) h)
    · exact .inr (.inl (e 117 (by decide) h))
    · exact .inr (.inr (.inl (e 108 (by decide) h)))
    · exact .inr (.inr (.inr (e 100 (by decide) h)))
theorem isW_iff (s : ByteArray) : isW s = true ↔ s.size ≤ 24 ∧ ∀ i : Nat, i < s.size → isL (bt s i) := by
  unfold isW
  rw [Bool.and_eq_true, decide_eq_true_eq, List.all_eq_true]
  refine and_congr_right fun _ => ?_
  constructor
  · intro h i hi
    rw [bt_list s i hi]
    exact (lets_iff _).1 (h _ (List.getElem_mem _))
  · intro h b hb
    obtain ⟨i, hi, e⟩ := List.getElem_of_mem hb
    have hi' : i < s.size := by rw [← data_length]; exact hi
    rw [lets_iff, ← e, ← bt_list s i hi']
    exact h i hi'
theorem rlet_iff (c : Int) : rlet c = true ↔ isL c := by
  unfold rlet isL stepx rstepy
  by_cases h1 : c = 114
  · simp [h1]
  by_cases h2 : c = 117
  · simp [h2]
  by_cases h3 : c = 108
  · simp [h3]
  by_cases h4 : c = 100
  · simp [h4]
  simp [h1, h2, h3, h4]
theorem rW_eq (s : ByteArray) : rW s = isW s := by
  rw [Bool.eq_iff_iff, isW_iff]
  unfold rW
  rw [Bool.and_eq_true, decide_eq_true_eq, List.all_eq_true]
  constructor
  · exact fun ⟨h1, h2⟩ => ⟨h2, fun i hi => (rlet_iff _).1 (h1 i (List.mem_range.2 hi))⟩
  · exact fun ⟨h1, h2⟩ => ⟨fun i hi => (rlet_iff _).2 (h2 i (List.mem_range.1 hi)), h1⟩
theorem rstepy_eq {c : Int} (h : isL c) : rstepy c = stepy c := by
  unfold rstepy stepy
  rcases h with rfl | rfl | rfl | rfl <;> rfl
theorem rsumy_eq {s : ByteArray} (h : isW s = true) : ∀ k, k ≤ s.size → rsumy s k = sumy s k
  | 0, _ => rfl
  | k + 1, hk => by rw [rsumy, sumy, rsumy_eq h k (by omega), rstepy_eq (((isW_iff s).1 h).2 k (by omega))]
theorem dbl_eq {s : ByteArray} (h : isW s = true) : ∀ k, k ≤ s.size → rdbl s k = dbl s k
  | 0, _ => rfl
  | k + 1, hk => by
    rw [rdbl, dbl, dbl_eq h k (by omega), rsumy_eq h k (by omega), rstepy_eq (((isW_iff s).1 h).2 k (by omega)), sumx, sumy]
    generalize sumx s k = a
    generalize sumy s k = b
    rw [Int.mul_add, Int.add_mul, Int.mul_comm b]
    omega
theorem same_iff {s : ByteArray} (h : isW s = true) {i j : Nat} (hi : i ≤ s.size) (hj : j ≤ s.size) : same s i j = true ↔ (sumx s i, sumy s i) = (sumx s j, sumy s j) := by
  unfold same
  rw [rsumy_eq h i hi, rsumy_eq h j hj]
  simp only [Bool.and_eq_true, beq_iff_eq, Prod.mk.injEq]
  omega
theorem apart_iff {s : ByteArray} (h : isW s = true) : apart s s.size ↔ (pts s s.size).Nodup := by
  rw [List.Nodup, List.pairwise_iff_getElem]
  unfold apart pts
  simp only [List.length_map, List.length_range, List.getElem_map, List.getElem_range]
  constructor
  · intro k i j hi hj hij e
    have := k i j hi hij hj
    rw [(same_iff h (by omega) (by omega)).2 e] at this
    cases this
  · intro k i j hi hij hj
    rw [Bool.eq_false_iff]
    intro e
    exact k i j hi hj hij ((same_iff h (by omega) (by omega)).1 e)
theorem rO_eq (s : ByteArray) : rO s = isO s := by
  unfold rO isO
  rw [rW_eq]
  cases h : isW s with
  | false => rfl
  | true =>
    rw [dbl_eq h _ (Nat.le_refl _), rsumy_eq h _ (Nat.le_refl _), show apartB s = decide (pts s s.size).Nodup by rw [Bool.eq_iff_iff, apartB_iff, apart_iff h, decide_eq_true_eq], Bool.and_comm (decide (pts s s.size).Nodup)]
theorem isO_W {s : ByteArray} (h : isO s = true) : isW s = true := by
  unfold isO at h
  rw [Bool.and_eq_true] at h
  exact h.1
def txt (a : ByteArray) : ByteArray := if a.size ≤ 30 then a else a.extract 0 30
theorem text_eq (a : ByteArray) : PA.comfitlaw07_text.f a = some (txt a) := by
  unfold PA.comfitlaw07_text.f txt
  by_cases h : a.size ≤ 30
  · have e : mn (a.size : Int) 30 = a.size := by unfold mn; split <;> omega
    rw [e, if_pos (by omega), if_pos (by omega), if_pos h]
    simp
  · have e : mn (a.size : Int) 30 = 30 := by unfold mn; split <;> omega
    rw [e, if_pos (by omega), if_pos (by omega), if_neg h]
    rfl
theorem txt_le (a : ByteArray) : (txt a).size ≤ 30 := by
  unfold txt
  split
  · assumption
  · rw [ByteArray.size_extract]; omega
theorem txt_W (a : ByteArray) : isW (txt a) = isW a := by
  unfold txt
  by_cases h : a.size ≤ 30
  · rw [if_pos h]
  · rw [if_neg h]
    have e1 : isW a = false := by
      rw [Bool.eq_false_iff]
      intro q
      have := isW_le q
      omega
    rw [e1, Bool.eq_false_iff]
    intro q
    have := isW_le q
    rw [ByteArray.size_extract] at this
    omega
theorem txt_of {a : ByteArray} (h : isW a = true) : txt a = a := by
  have := isW_le h
  unfold txt
  rw [if_pos (by omega)]
theorem txt_O (a : ByteArray) : isO (txt a) = isO a := by
  cases h : isW a with
  | true => rw [txt_of h]
  | false =>
    have h2 := txt_W a
    rw [h] at h2
    unfold isO
    rw [h, h2]
    rfl
theorem ascii_of {s : ByteArray} (h : ∀ i : Nat, i < s.size → isL (bt s i)) : ascii s = true := by
  unfold ascii
  rw [List.all_eq_true]
  intro b hb
  obtain ⟨i, hi, e⟩ := List.getElem_of_mem hb
  have hi' : i < s.size := by rw [← data_length]; exact hi
  have := h i hi'
  rw [bt_list s i hi', e] at this
  rw [decide_eq_true_eq]
  rcases this with h | h | h | h <;> omega
theorem awake_eq : PB.comfitlaw07_awake.f = some true := by kernel_rfl
theorem strOf_app (xs ys : List Int) : strOfNums xs ++ strOfNums ys = strOfNums (xs ++ ys) := by
  apply ByteArray.ext
  simp [strOfNums, ByteArray.data_append]
theorem strN_succ (n : Nat) (f : Nat → Int) : strN n f ++ strN 1 (fun _ => f n) = strN (n + 1) f := by
  unfold strN
  rw [strOf_app]
  congr 1
  simp [List.range_succ]
def rlud : ByteArray := ⟨#[114, 108, 117, 100]⟩
def lrdu : ByteArray := ⟨#[108, 114, 100, 117]⟩
theorem ex_back {c : Int} (h : isL c) : exb ruld ldru c = rexTo rlud lrdu c 4 ∧ isL (exb ruld ldru c) := by
  unfold isL
  rcases h with rfl | rfl | rfl | rfl <;> exact ⟨by kernel_rfl, by decide +kernel⟩
theorem place_ruld {c : Int} (h : isL c) : 0 ≤ place ruld c ∧ place ruld c < 4 := by
  rcases h with rfl | rfl | rfl | rfl <;> decide +kernel
theorem exOk_of {s tt : ByteArray} (h : ∀ i : Nat, i < s.size → isL (bt s i)) (ht : tt.size = 4) : exOk s ruld tt = true := by
  unfold exOk
  rw [List.all_eq_true]
  intro i hi
  have := place_ruld (h i (List.mem_range.1 hi))
  rw [decide_eq_true_eq, ht]
  exact this
end Go.Proofs.YtpfenoioeajkmaaDoor.L
end

section
set_option linter.unusedVariables false
set_option linter.unusedSimpArgs false
namespace Go.Proofs.YtpfenoioeajkmaaDoor.L
open Go.RowKit Go.Proofs.YtpfenoioeajkmaaDoorW.PrintWords Go.Proofs.YtpfenoioeajkmaaDoorW.PrintLast Go.Proofs.YtpfenoioeajkmaaDoorW.PrintMore Go.Proofs.YtpfenoioeajkmaaDoor.X Go.Proofs.YtpfenoioeajkmaaDoor.PB
theorem strN_none (f : Nat → Int) : strN 0 f = (⟨#[]⟩ : ByteArray) := rfl
theorem rex_one (s ff tt : ByteArray) (i : Nat) (hi : i < s.size) (h1 : ff.size ≤ 1000) (h2 : ff.size ≤ tt.size) : ref_exchanged.f (s.extract i (i + 1)) ff tt = some (strN 1 fun _ => rexTo ff tt (bt s i) ff.size) := by
  have he : (s.extract i (i + 1)).size = 1 := by rw [ByteArray.size_extract]; omega
  unfold ref_exchanged.f
  rw [if_pos ⟨by omega, h1, h2⟩, he]
  congr 1
  exact strN_congr fun j hj => by
    obtain rfl : j = 0 := by omega
    rw [bt_cut s i (i + 1) 0 (by omega) (by omega), Nat.add_zero]
theorem rback_loop (s : ByteArray) (hs : s.size ≤ 1000) : ∀ d m : Nat, m + d = s.size → ∃ k, comfitref07_Back.l0 k s (strN m fun i => rexTo rlud lrdu (bt s (s.size - 1 - i : Nat)) 4) ((d : Int) - 1) = some (strN s.size fun i => rexTo rlud lrdu (bt s (s.size - 1 - i : Nat)) 4)
  | 0, m, h => by
    refine ⟨1, ?_⟩
    rw [comfitref07_Back.l0, if_neg (by omega), show m = s.size by omega]
  | d + 1, m, h => by
    obtain ⟨k, hk⟩ := rback_loop s hs d (m + 1) (by omega)
    refine ⟨k + 1, ?_⟩
    have e1 : ((d + 1 : Nat) : Int) - 1 = (d : Int) := by omega
    have e2 : wrap64 ((d : Int) + 1) = ((d + 1 : Nat) : Int) := by unfold wrap64; omega
    have e3 : wrap64 ((d : Int) - 1) = (d : Int) - 1 := by unfold wrap64; omega
    rw [comfitref07_Back.l0, e1, if_pos (by omega), if_pos (by omega), e2, if_pos (by omega), if_pos (by omega), Int.toNat_natCast, Int.toNat_natCast]
    have := rex_one s rlud lrdu d (by omega) (by decide) (by decide)
    rw [show rlud.size = 4 from rfl] at this
    unfold rlud lrdu at this
    rw [this]
    simp only [Option.bind_some]
    rw [if_pos (by rw [strN_size, strN_size]; omega), e3]
    have hc := strN_succ m fun i => rexTo rlud lrdu (bt s (s.size - 1 - i : Nat)) 4
    rw [show s.size - 1 - m = d by omega] at hc
    unfold rlud lrdu at hc hk ⊢
    rw [hc]
    exact hk
theorem Back_ref {s : ByteArray} (h : isW s = true) : ∃ k, comfitref07_Back.f k s = some (backF s) := by
  have h24 := isW_le h
  obtain ⟨k, hk⟩ := rback_loop s (by omega) s.size 0 (by omega)
  refine ⟨k, ?_⟩
  unfold comfitref07_Back.f
  rw [show wrap64 ((s.size : Int) - 1) = (s.size : Int) - 1 by unfold wrap64; omega]
  rw [strN_none] at hk
  rw [hk]
  unfold backF
  congr 1
  exact strN_congr fun i hi => (ex_back (((isW_iff s).1 h).2 _ (by omega))).1.symm
theorem back_f {s : ByteArray} (h : isW s = true) : moulds_back.f s = some (backF s) := by
  have h24 := isW_le h
  unfold moulds_back.f
  rw [if_pos ⟨by omega, exOk_of ((isW_iff s).1 h).2 rfl⟩]
theorem Back_W {s : ByteArray} (h : isW s = true) : moulds_Back.f s = some (backF s, 0) := by
  have h24 := isW_le h
  unfold moulds_Back.f moulds_isWord.f
  rw [if_pos (by omega), h]
  simp only [Option.bind_some, if_true]
  rw [back_f h]
  rfl
theorem Back_no {s : ByteArray} (h : isW s = false) (hs : s.size ≤ 1000) : moulds_Back.f s = some (⟨#[]⟩, 2) := by
  unfold moulds_Back.f moulds_isWord.f
  rw [if_pos hs, h]
  rfl
theorem Is_f {s : ByteArray} (hs : s.size ≤ 1000) : moulds_Is.f s = some (isO s) := by
  unfold moulds_Is.f
  rw [if_pos hs]
theorem RIs_f {s : ByteArray} (hs : s.size ≤ 140737488351232) : ref_Is.f s = some (isO s) := by
  unfold ref_Is.f
  rw [if_pos (by omega), rO_eq]
theorem First_O {s : ByteArray} (h : isO s = true) : moulds_First.f s = some (firstTo s s.size, 0) := by
  have h24 := isW_le (isO_W h)
  unfold moulds_First.f
  rw [Is_f (by omega), h]
  simp only [Option.bind_some, if_true]
  unfold moulds_first.f
  rw [if_pos ⟨by omega, ascii_of ((isW_iff s).1 (isO_W h)).2⟩]
  rfl
theorem First_no {s : ByteArray} (h : isO s = false) (hs : s.size ≤ 1000) : moulds_First.f s = some (⟨#[]⟩, 2) := by
  unfold moulds_First.f
  rw [Is_f hs, h]
  rfl
theorem nil_list : (⟨#[]⟩ : ByteArray).toList = ([] : List UInt8) := by kernel_rfl
theorem Word_some (s : ByteArray) (hs : s.size ≤ 140737488351232) : ∃ k, PA.comfitref07_Word.f k s = some (isW s) := by
  obtain ⟨k, h⟩ := Word_eq s (by omega)
  exact ⟨k, by rw [h, rW_eq]⟩
theorem Pure_MouldsTurns (a : ByteArray) (ha : a.size ≤ 140737488351232) : ∃ k, comfitlaw07_MouldsTurns.f k a = some true := by
  obtain ⟨k1, h1⟩ := Word_some a ha
  cases hW : isW a with
  | false =>
    rw [hW] at h1
    have hO : isO (txt a) = false := by rw [txt_O]; unfold isO; rw [hW]; rfl
    refine ⟨k1, ?_⟩
    unfold comfitlaw07_MouldsTurns.f
    have ht := txt_le a
    rw [text_eq]
    simp only [Option.bind_some]
    rw [First_no hO (by omega)]
    simp only [Option.bind_some]
    rw [Back_no (by rw [txt_W]; exact hW) (by omega)]
    simp only [Option.bind_some]
    rw [h1, awake_eq, nil_list]
    rfl
  | true =>
    rw [hW] at h1
    have h24 := isW_le hW
    obtain ⟨k2, h2⟩ := Back_ref hW
    refine ⟨k1 + k2 + 1, ?_⟩
    unfold comfitlaw07_MouldsTurns.f
    rw [text_eq, txt_of hW]
    simp only [Option.bind_some]
    rw [lift (fun k => PA.comfitref07_Word.mono a k) h1 (show k1 ≤ k1 + k2 + 1 by omega), lift (fun k => comfitref07_Back.mono a k) h2 (show k2 ≤ k1 + k2 + 1 by omega), Back_W hW, awake_eq]
    simp only [Option.bind_some, if_true]
    cases hO : isO a with
    | true =>
      rw [First_O hO]
      simp only [Option.bind_some]
      rw [comfitlaw07_MouldsTurns.j0, if_neg (by decide), RIs_f ha, hO]
      simp only [Option.bind_some, if_true]
      unfold ref_First.f
      rw [if_pos (by omega)]
      simp
    | false =>
      rw [First_no hO (by omega)]
      simp only [Option.bind_some]
      rw [comfitlaw07_MouldsTurns.j0, if_neg (by decide), RIs_f ha, hO, nil_list]
      rfl
end Go.Proofs.YtpfenoioeajkmaaDoor.L
end
