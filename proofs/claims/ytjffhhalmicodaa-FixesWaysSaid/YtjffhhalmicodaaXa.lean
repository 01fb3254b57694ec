import Derived.Test.YtjffhhalmicodaaB
namespace Go.Proofs.Ytjffhhalmicodaa.X
open Go.RowKit Go.Proofs.YtjffhhalmicodaaW.PrintWords Go.Proofs.YtjffhhalmicodaaW.PrintLast Go.Proofs.YtjffhhalmicodaaW.PrintMore

/-- the set of states for which p is true -/
def whereTo (p : Nat → Bool) : Nat → Int
  | 0 => 0
  | n + 1 => if p n then bits BinOp.or .i64 (whereTo p n) (wrap64 (2 ^ min n 64)) else whereTo p n

/-- A function value that tells whether p holds of a number, in every later world. -/
def Pred (w : World) (g : Nat) (lb : Array Value) (n : Nat) (p : Nat → Bool) : Prop :=
  ∀ (W : World) (s : Nat), s < n → Below w.heap.size w W → Calls Try.prog g (#[.int .i64 s] ++ lb) W fun e w' => e = .returned (.bool (p s)) ∧ Below W.heap.size W w'

set_option maxHeartbeats 1000000 in
theorem where_calls (g : Nat) (lb : Array Value) (eg : ∀ args w, (callFunc g args).run Try.prog w = .ok (.enter g args) w) (p : Nat → Bool) (A0 : Option Addr) (n c0 : Nat) (A1 : Option Addr) (m c1 : Nat) (w : World) (hn : n ≤ 9223372036854775807) (hp : Pred w g lb n p) :
    Calls Try.prog 55 #[.agg #[.slice A0 n c0, .slice A1 m c1], .func (.func g) #[] lb] w fun e w' => e = .returned (.int .i64 (whereTo p n)) ∧ Below w.heap.size w w' := by
  have hu := Try.underlying28
  go_enter Try.func55, Try.ntmps55
  go_wp2_with fail
  go_loopw [5, 10] (fun v i wr => ∃ k : Nat, k ≤ n ∧ i = .int .i64 k ∧ v = .int .i64 (whereTo p k) ∧ Below w.heap.size w wr) (fun _ i _ => n - (intOf i).toNat)
  case atStart => exact ⟨0, by omega, rfl, rfl, (Below.refl _ _).alloc (Nat.le_refl _) _⟩
  case round =>
    obtain ⟨k, hk, rfl, rfl, hB⟩ := hrel
    have HB := Lib.hid hB; clear hB
    by_cases hlt : k < n
    · have hpk := hp wr k hlt HB.out
      have HP := Lib.hid hpk; clear hpk
      clear hp
      cases hb : p k
      · rw [hb] at HP
        have hbb := Lib.hid hb; clear hb
        go_wp2_with fail
        refine HP.out.mono ?_
        rintro e w' ⟨rfl, hb'⟩
        have HB' := Lib.hid hb'; clear hb'
        go_wp2
        go_roundw
        case rel => exact ⟨k + 1, by omega, by go_num, by simp [whereTo, hbb.out], HB.out.trans (HB'.out.mono HB.out.size)⟩
        case measure => simp [intOf]; omega
      · rw [hb] at HP
        have hbb := Lib.hid hb; clear hb
        go_wp2_with fail
        refine HP.out.mono ?_
        rintro e w' ⟨rfl, hb'⟩
        have HB' := Lib.hid hb'; clear hb'
        go_wp2
        go_roundw
        case rel => exact ⟨k + 1, by omega, by go_num, by simp [whereTo, hbb.out], HB.out.trans (HB'.out.mono HB.out.size)⟩
        case measure => simp [intOf]; omega
    · obtain rfl : k = n := by omega
      go_wp2
      go_ret
      exact ⟨rfl, HB.out⟩
end Go.Proofs.Ytjffhhalmicodaa.X
