import Derived.Test.YtjffhhalmicodaaB
namespace Go.Proofs.Ytjffhhalmicodaa.X
open Go.RowKit Go.Proofs.YtjffhhalmicodaaW.PrintWords Go.Proofs.YtjffhhalmicodaaW.PrintLast Go.Proofs.YtjffhhalmicodaaW.PrintMore
attribute [local go_sem] max2_int min2_int max_two min_two

def minTo (l : List Int) : Nat → Int
  | 0 => rd l 0
  | n + 1 => mn (minTo l n) (rd l ((n : Int) + 1))
def maxTo (l : List Int) : Nat → Int
  | 0 => rd l 0
  | n + 1 => mx (maxTo l n) (rd l ((n : Int) + 1))

set_option maxHeartbeats 1000000 in
theorem Min_calls (A : Option Addr) (c : Nat) (l : List Int) (w : World) (hr : Kd.C (Kd.int .i64) w A l.length l) (hl : 0 < l.length) :
    Calls Try.prog 77 #[.slice A l.length c] w fun e w' => e = .returned (.int .i64 (minTo l (l.length - 1))) ∧ w' = w := by
  have hlen := hr.2.1
  obtain ⟨b, off, rfl, hlt, hc⟩ := ints_at hr hl
  have h0 := hc 0 hl
  simp only [Nat.add_zero, Int.natCast_zero] at h0
  have hd : decide ((l.length : Int) < 1) = false := decide_eq_false (by omega)
  have hd' : decide (l.length < 1) = false := decide_eq_false (by omega)
  have HC := Lib.hid hc; clear hc hr
  go_enter Try.func77, Try.ntmps77
  go_wp2_with fail
  go_loop [3, 4] (fun v i => ∃ k : Nat, k < l.length ∧ i = .int .i64 ((k : Int) + 1) ∧ v = .int .i64 (minTo l k)) (fun _ i => l.length - (intOf i).toNat)
  case atStart => exact ⟨0, by omega, rfl, rfl⟩
  case round =>
    obtain ⟨k, hk, rfl, rfl⟩ := hrel
    by_cases hlt : k + 1 < l.length
    · have h1 := HC.out (k + 1) hlt
      clear h0
      go_wp2
      all_goals
        go_round
        case rel => exact ⟨k + 1, by omega, by go_num, by first | (simp only [minTo, mn]; done) | (simp only [minTo, mn]; split <;> first | rfl | omega)⟩
        case measure => simp [intOf]; omega
    · go_wp2
      go_ret
      exact ⟨ret_int (by rw [show l.length - 1 = k by omega]), rfl⟩

set_option maxHeartbeats 1000000 in
theorem Max_calls (A : Option Addr) (c : Nat) (l : List Int) (w : World) (hr : Kd.C (Kd.int .i64) w A l.length l) (hl : 0 < l.length) :
    Calls Try.prog 63 #[.slice A l.length c] w fun e w' => e = .returned (.int .i64 (maxTo l (l.length - 1))) ∧ w' = w := by
  have hlen := hr.2.1
  obtain ⟨b, off, rfl, hlt, hc⟩ := ints_at hr hl
  have h0 := hc 0 hl
  simp only [Nat.add_zero, Int.natCast_zero] at h0
  have hd : decide ((l.length : Int) < 1) = false := decide_eq_false (by omega)
  have hd' : decide (l.length < 1) = false := decide_eq_false (by omega)
  have HC := Lib.hid hc; clear hc hr
  go_enter Try.func63, Try.ntmps63
  go_wp2_with fail
  go_loop [3, 4] (fun v i => ∃ k : Nat, k < l.length ∧ i = .int .i64 ((k : Int) + 1) ∧ v = .int .i64 (maxTo l k)) (fun _ i => l.length - (intOf i).toNat)
  case atStart => exact ⟨0, by omega, rfl, rfl⟩
  case round =>
    obtain ⟨k, hk, rfl, rfl⟩ := hrel
    by_cases hlt : k + 1 < l.length
    · have h1 := HC.out (k + 1) hlt
      clear h0
      go_wp2
      all_goals
        go_round
        case rel => exact ⟨k + 1, by omega, by go_num, by first | (simp only [maxTo, mx]; done) | (simp only [maxTo, mx]; split <;> first | rfl | omega)⟩
        case measure => simp [intOf]; omega
    · go_wp2
      go_ret
      exact ⟨ret_int (by rw [show l.length - 1 = k by omega]), rfl⟩


def slices_Min.f (l : List Int) : Option Int := if 0 < l.length then some (minTo l (l.length - 1)) else none
theorem slices_Min.calls (A0 : Option Addr) (c0 : Nat) (l0 : List Int) (r : Int) (w : World) (hr0 : Kd.C (Kd.int .i64) w A0 l0.length l0) (_hc0 : l0.length ≤ c0) (h : slices_Min.f l0 = some r) :
    Calls Try.prog 77 #[.slice A0 l0.length c0] w fun e w' => e = .returned (.int .i64 r) ∧ Drawn0 w w' := by
  unfold slices_Min.f at h
  split at h
  · rename_i hl
    obtain rfl := Option.some.inj h
    exact (Min_calls A0 c0 l0 w hr0 hl).mono fun _ _ ⟨a, b⟩ => ⟨a, b ▸ Drawn0.refl _⟩
  · simp at h
def slices_Max.f (l : List Int) : Option Int := if 0 < l.length then some (maxTo l (l.length - 1)) else none
theorem slices_Max.calls (A0 : Option Addr) (c0 : Nat) (l0 : List Int) (r : Int) (w : World) (hr0 : Kd.C (Kd.int .i64) w A0 l0.length l0) (_hc0 : l0.length ≤ c0) (h : slices_Max.f l0 = some r) :
    Calls Try.prog 63 #[.slice A0 l0.length c0] w fun e w' => e = .returned (.int .i64 r) ∧ Drawn0 w w' := by
  unfold slices_Max.f at h
  split at h
  · rename_i hl
    obtain rfl := Option.some.inj h
    exact (Max_calls A0 c0 l0 w hr0 hl).mono fun _ _ ⟨a, b⟩ => ⟨a, b ▸ Drawn0.refl _⟩
  · simp at h
end Go.Proofs.Ytjffhhalmicodaa.X
