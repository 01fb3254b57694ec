import Derived.Test.YtjffhhalmicodaaXs
set_option linter.unusedVariables false
set_option linter.unusedSimpArgs false
namespace Go.Proofs.Ytjffhhalmicodaa.X
open Go.RowKit Go.Proofs.YtjffhhalmicodaaW.PrintWords Go.Proofs.YtjffhhalmicodaaW.PrintLast Go.Proofs.YtjffhhalmicodaaW.PrintMore

/-- the byte for which one is exchanged -/
def opp (c : Nat) : Nat := if c = 116 then 102 else if c = 102 then 116 else if c = 38 then 124 else if c = 124 then 38 else if c = 60 then 91 else if c = 91 then 60 else if c = 109 then 103 else 109
def IsOp (c : Nat) : Prop := c = 116 ∨ c = 102 ∨ c = 38 ∨ c = 124 ∨ c = 60 ∨ c = 91 ∨ c = 109 ∨ c = 103

set_option maxRecDepth 100000 in
set_option maxHeartbeats 2000000 in
theorem opposite_calls (c : Nat) (hc : IsOp c) (w : World) : Calls Try.prog 76 #[.int .u8 (c : Int)] w fun e w' => e = .returned (.int .u8 (opp c : Int)) ∧ w' = w := by
  have hi := Try.strings_IndexByte ⟨#[116, 102, 38, 124, 60, 91, 109, 103]⟩ (c : Int) w
  rcases hc with rfl | rfl | rfl | rfl | rfl | rfl | rfl | rfl
  all_goals
    have HI := Lib.hid hi
    clear hi
    go_enter Try.func76, Try.ntmps76
    go_wp2_with fail
    refine HI.out.mono ?_
    rintro e w' ⟨rfl, rfl⟩
  · rw [show Lib.indexByte (ByteArray.mk #[116, 102, 38, 124, 60, 91, 109, 103]).data.toList ((116 : Nat) : Int).toNat.toUInt8 = 0 by decide]
    go_wp2
    go_ret
    exact ⟨rfl, rfl⟩
  · rw [show Lib.indexByte (ByteArray.mk #[116, 102, 38, 124, 60, 91, 109, 103]).data.toList ((102 : Nat) : Int).toNat.toUInt8 = 1 by decide]
    go_wp2
    go_ret
    exact ⟨rfl, rfl⟩
  · rw [show Lib.indexByte (ByteArray.mk #[116, 102, 38, 124, 60, 91, 109, 103]).data.toList ((38 : Nat) : Int).toNat.toUInt8 = 2 by decide]
    go_wp2
    go_ret
    exact ⟨rfl, rfl⟩
  · rw [show Lib.indexByte (ByteArray.mk #[116, 102, 38, 124, 60, 91, 109, 103]).data.toList ((124 : Nat) : Int).toNat.toUInt8 = 3 by decide]
    go_wp2
    go_ret
    exact ⟨rfl, rfl⟩
  · rw [show Lib.indexByte (ByteArray.mk #[116, 102, 38, 124, 60, 91, 109, 103]).data.toList ((60 : Nat) : Int).toNat.toUInt8 = 4 by decide]
    go_wp2
    go_ret
    exact ⟨rfl, rfl⟩
  · rw [show Lib.indexByte (ByteArray.mk #[116, 102, 38, 124, 60, 91, 109, 103]).data.toList ((91 : Nat) : Int).toNat.toUInt8 = 5 by decide]
    go_wp2
    go_ret
    exact ⟨rfl, rfl⟩
  · rw [show Lib.indexByte (ByteArray.mk #[116, 102, 38, 124, 60, 91, 109, 103]).data.toList ((109 : Nat) : Int).toNat.toUInt8 = 6 by decide]
    go_wp2
    go_ret
    exact ⟨rfl, rfl⟩
  · rw [show Lib.indexByte (ByteArray.mk #[116, 102, 38, 124, 60, 91, 109, 103]).data.toList ((103 : Nat) : Int).toNat.toUInt8 = 7 by decide]
    go_wp2
    go_ret
    exact ⟨rfl, rfl⟩
end Go.Proofs.Ytjffhhalmicodaa.X
