import Derived.Test.YtjffhhalmicodaaXy
set_option linter.unusedVariables false
set_option linter.unusedSimpArgs false
namespace Go.Proofs.Ytjffhhalmicodaa.X
open Go.RowKit Go.Proofs.YtjffhhalmicodaaW.PrintWords Go.Proofs.YtjffhhalmicodaaW.PrintLast Go.Proofs.YtjffhhalmicodaaW.PrintMore

theorem rune_0 (w : World) : (convert 21 9 (.int .i32 48)).run Try.prog w = .ok (.string ⟨#[48]⟩) w := by kernel_rfl
theorem rune_1 (w : World) : (convert 21 9 (.int .i32 49)).run Try.prog w = .ok (.string ⟨#[49]⟩) w := by kernel_rfl
theorem rune_2 (w : World) : (convert 21 9 (.int .i32 50)).run Try.prog w = .ok (.string ⟨#[50]⟩) w := by kernel_rfl
theorem rune_3 (w : World) : (convert 21 9 (.int .i32 51)).run Try.prog w = .ok (.string ⟨#[51]⟩) w := by kernel_rfl
theorem byte_116 (w : World) : (convert 5 9 (.int .u8 116)).run Try.prog w = .ok (.string ⟨#[116]⟩) w := by kernel_rfl
theorem byte_102 (w : World) : (convert 5 9 (.int .u8 102)).run Try.prog w = .ok (.string ⟨#[102]⟩) w := by kernel_rfl
theorem byte_38 (w : World) : (convert 5 9 (.int .u8 38)).run Try.prog w = .ok (.string ⟨#[38]⟩) w := by kernel_rfl
theorem byte_124 (w : World) : (convert 5 9 (.int .u8 124)).run Try.prog w = .ok (.string ⟨#[124]⟩) w := by kernel_rfl
theorem byte_60 (w : World) : (convert 5 9 (.int .u8 60)).run Try.prog w = .ok (.string ⟨#[60]⟩) w := by kernel_rfl
theorem byte_91 (w : World) : (convert 5 9 (.int .u8 91)).run Try.prog w = .ok (.string ⟨#[91]⟩) w := by kernel_rfl
theorem byte_109 (w : World) : (convert 5 9 (.int .u8 109)).run Try.prog w = .ok (.string ⟨#[109]⟩) w := by kernel_rfl
theorem byte_103 (w : World) : (convert 5 9 (.int .u8 103)).run Try.prog w = .ok (.string ⟨#[103]⟩) w := by kernel_rfl
theorem byte_op {c : Nat} (h : IsOp c) (w : World) : (convert 5 9 (.int .u8 (opp c : Int))).run Try.prog w = .ok (.string ⟨#[UInt8.ofNat (opp c)]⟩) w := by
  rcases h with rfl | rfl | rfl | rfl | rfl | rfl | rfl | rfl
  · exact byte_102 w
  · exact byte_116 w
  · exact byte_124 w
  · exact byte_38 w
  · exact byte_91 w
  · exact byte_60 w
  · exact byte_103 w
  · exact byte_109 w

set_option maxRecDepth 100000 in
set_option maxHeartbeats 2000000 in
theorem not_mark_pos (j : Nat) (hj : j ≤ 3) (gn : Nat) (w : World) (hn0 : w.cell? ⟨gn, 0, none⟩ = some (.int .u8 48)) (hn1 : w.cell? ⟨gn, 1, none⟩ = some (.int .i64 (j : Int))) :
    Calls Try.prog 58 #[.pointer (some ⟨gn, 0, none⟩)] w fun e w' => e = .returned (.string ((⟨#[45]⟩ : ByteArray) ++ ⟨#[UInt8.ofNat (48 + j)]⟩)) ∧ w' = w := by
  have h : j = 0 ∨ j = 1 ∨ j = 2 ∨ j = 3 := by omega
  rcases h with rfl | rfl | rfl | rfl
  · have hr := rune_0
    go_enter Try.func58, Try.ntmps58
    go_wp2
    go_ret
    exact ⟨rfl, rfl⟩
  · have hr := rune_1
    go_enter Try.func58, Try.ntmps58
    go_wp2
    go_ret
    exact ⟨rfl, rfl⟩
  · have hr := rune_2
    go_enter Try.func58, Try.ntmps58
    go_wp2
    go_ret
    exact ⟨rfl, rfl⟩
  · have hr := rune_3
    go_enter Try.func58, Try.ntmps58
    go_wp2
    go_ret
    exact ⟨rfl, rfl⟩

set_option maxRecDepth 100000 in
set_option maxHeartbeats 2000000 in
theorem not_mark_neg (j : Nat) (hj : j ≤ 3) (gn : Nat) (w : World) (hn0 : w.cell? ⟨gn, 0, none⟩ = some (.int .u8 45)) (hn1 : w.cell? ⟨gn, 1, none⟩ = some (.int .i64 (j : Int))) :
    Calls Try.prog 58 #[.pointer (some ⟨gn, 0, none⟩)] w fun e w' => e = .returned (.string (⟨#[UInt8.ofNat (48 + j)]⟩)) ∧ w' = w := by
  have h : j = 0 ∨ j = 1 ∨ j = 2 ∨ j = 3 := by omega
  rcases h with rfl | rfl | rfl | rfl
  · have hr := rune_0
    go_enter Try.func58, Try.ntmps58
    go_wp2
    go_ret
    exact ⟨rfl, rfl⟩
  · have hr := rune_1
    go_enter Try.func58, Try.ntmps58
    go_wp2
    go_ret
    exact ⟨rfl, rfl⟩
  · have hr := rune_2
    go_enter Try.func58, Try.ntmps58
    go_wp2
    go_ret
    exact ⟨rfl, rfl⟩
  · have hr := rune_3
    go_enter Try.func58, Try.ntmps58
    go_wp2
    go_ret
    exact ⟨rfl, rfl⟩

set_option maxRecDepth 100000 in
set_option maxHeartbeats 2000000 in
theorem not_var (c : Nat) (hc : 120 ≤ c ∧ c ≤ 122) (gn : Nat) (w : World) (hn0 : w.cell? ⟨gn, 0, none⟩ = some (.int .u8 120)) (hn2 : w.cell? ⟨gn, 2, none⟩ = some (.int .u8 (c : Int))) :
    Calls Try.prog 58 #[.pointer (some ⟨gn, 0, none⟩)] w fun e w' => e = .returned (.string ⟨#[UInt8.ofNat c]⟩) ∧ w' = w := by
  have hr := run_letter c hc.1 hc.2
  go_enter Try.func58, Try.ntmps58
  go_wp2
  go_ret
  exact ⟨rfl, rfl⟩

/-- what is written up to a part -/
def accTo (o : ByteArray) (rs : Nat → ByteArray) : Nat → ByteArray
  | 0 => o
  | k + 1 => accTo o rs k ++ rs k

set_option maxRecDepth 100000 in
set_option maxHeartbeats 2000000 in
theorem not_rest (d : Nat) (hd : IsOp d) (gn : Nat) (A : Option Addr) (cp : Nat) (ks : Nat → Value) (n : Nat) (rs : Nat → ByteArray) (w : World) (hn0 : w.cell? ⟨gn, 0, none⟩ = some (.int .u8 (d : Int))) (hn2 : w.cell? ⟨gn, 2, none⟩ = some (.int .u8 0)) (hn3 : w.cell? ⟨gn, 3, none⟩ = some (.slice A n cp))
    (hA : ∀ i, i < n → ∃ b off, A = some ⟨b, off, none⟩ ∧ w.cell? ⟨b, off + i, none⟩ = some (ks i))
    (hc : ∀ i, i < n → ∀ W, Below w.heap.size w W → Calls Try.prog 58 #[ks i] W fun e w' => e = .returned (.string (rs i)) ∧ Below W.heap.size W w')
    (hl : n ≤ 2) (hz : ∀ i, i < n → (accTo (⟨#[UInt8.ofNat (opp d)]⟩) rs i).size + (rs i).size ≤ 1000000) :
    Calls Try.prog 58 #[.pointer (some ⟨gn, 0, none⟩)] w fun e w' => e = .returned (.string (accTo (⟨#[UInt8.ofNat (opp d)]⟩) rs n)) ∧ Below w.heap.size w w' := by
  have hop := opposite_calls d hd w
  have hbq := byte_op hd
  have hd1 : ((d : Int) == 48) = false := by rcases hd with rfl | rfl | rfl | rfl | rfl | rfl | rfl | rfl <;> rfl
  have hd2 : ((d : Int) == 45) = false := by rcases hd with rfl | rfl | rfl | rfl | rfl | rfl | rfl | rfl <;> rfl
  have hd3 : ((d : Int) == 120) = false := by rcases hd with rfl | rfl | rfl | rfl | rfl | rfl | rfl | rfl <;> rfl
  have HOP := Lib.hid hop
  have HA := Lib.hid hA
  have HC := Lib.hid hc
  have HZ := Lib.hid hz
  have HL := Lib.hid hl
  clear hop hA hc hz hl hd
  go_enter Try.func58, Try.ntmps58
  go_wp2_with fail
  refine HOP.out.mono ?_
  rintro e w1 ⟨rfl, rfl⟩
  go_wp2_with fail
  go_loopw [3, 59] (fun v i wr => ∃ k : Nat, k ≤ n ∧ i = .int .i64 k ∧ v = .string (accTo (⟨#[UInt8.ofNat (opp d)]⟩) rs k) ∧ Below w1.heap.size w1 wr) (fun _ i _ => n - (intOf i).toNat)
  case atStart => exact ⟨0, by omega, rfl, rfl, Below.refl _ _⟩
  case round =>
    obtain ⟨k, hk, rfl, rfl, hB⟩ := hrel
    have HB := Lib.hid hB; clear hB
    by_cases hlt : k < n
    · obtain ⟨b, off, rfl, hcell⟩ := HA.out k hlt
      have hcell2 := pw_cell_below HB.out hcell
      have hcall := HC.out k hlt wr HB.out
      have HP := Lib.hid hcall
      have hz2 := HZ.out k hlt
      have hz3 : (9223372036854775807 < (accTo (⟨#[UInt8.ofNat (opp d)]⟩) rs k).size + (rs k).size) = False := eq_false (by omega)
      clear hcall hcell hz2
      go_wp2_with fail
      refine HP.out.mono ?_
      rintro e w2 ⟨rfl, hb'⟩
      have HB' := Lib.hid hb'; clear hb'
      have hl := HL.out
      go_wp2
      go_roundw
      case rel => exact ⟨k + 1, by omega, by go_num, rfl, HB.out.trans (HB'.out.mono HB.out.size)⟩
      case measure => simp [intOf]; omega
    · obtain rfl : k = n := by omega
      go_wp2
      go_ret
      exact ⟨rfl, HB.out⟩

set_option maxRecDepth 100000 in
set_option maxHeartbeats 2000000 in
theorem not_restx (d : Nat) (hd : IsOp d) (x : Nat) (hx : 120 ≤ x ∧ x ≤ 122) (gn : Nat) (A : Option Addr) (cp : Nat) (ks : Nat → Value) (n : Nat) (rs : Nat → ByteArray) (w : World) (hn0 : w.cell? ⟨gn, 0, none⟩ = some (.int .u8 (d : Int))) (hn2 : w.cell? ⟨gn, 2, none⟩ = some (.int .u8 (x : Int))) (hn3 : w.cell? ⟨gn, 3, none⟩ = some (.slice A n cp))
    (hA : ∀ i, i < n → ∃ b off, A = some ⟨b, off, none⟩ ∧ w.cell? ⟨b, off + i, none⟩ = some (ks i))
    (hc : ∀ i, i < n → ∀ W, Below w.heap.size w W → Calls Try.prog 58 #[ks i] W fun e w' => e = .returned (.string (rs i)) ∧ Below W.heap.size W w')
    (hl : n ≤ 2) (hz : ∀ i, i < n → (accTo ((⟨#[UInt8.ofNat (opp d)]⟩ : ByteArray) ++ ⟨#[UInt8.ofNat x]⟩) rs i).size + (rs i).size ≤ 1000000) :
    Calls Try.prog 58 #[.pointer (some ⟨gn, 0, none⟩)] w fun e w' => e = .returned (.string (accTo ((⟨#[UInt8.ofNat (opp d)]⟩ : ByteArray) ++ ⟨#[UInt8.ofNat x]⟩) rs n)) ∧ Below w.heap.size w w' := by
  have hop := opposite_calls d hd w
  have hbq := byte_op hd
  have hd1 : ((d : Int) == 48) = false := by rcases hd with rfl | rfl | rfl | rfl | rfl | rfl | rfl | rfl <;> rfl
  have hd2 : ((d : Int) == 45) = false := by rcases hd with rfl | rfl | rfl | rfl | rfl | rfl | rfl | rfl <;> rfl
  have hd3 : ((d : Int) == 120) = false := by rcases hd with rfl | rfl | rfl | rfl | rfl | rfl | rfl | rfl <;> rfl
  have hrx := run_letter x hx.1 hx.2
  have hx0 : ((x : Int) != 0) = true := by simp; omega
  have hx1 : ((x : Int) == 0) = false := by simp; omega
  have HOP := Lib.hid hop
  have HA := Lib.hid hA
  have HC := Lib.hid hc
  have HZ := Lib.hid hz
  have HL := Lib.hid hl
  clear hop hA hc hz hl hd
  go_enter Try.func58, Try.ntmps58
  go_wp2_with fail
  refine HOP.out.mono ?_
  rintro e w1 ⟨rfl, rfl⟩
  go_wp2_with fail
  go_loopw [3, 59] (fun v i wr => ∃ k : Nat, k ≤ n ∧ i = .int .i64 k ∧ v = .string (accTo ((⟨#[UInt8.ofNat (opp d)]⟩ : ByteArray) ++ ⟨#[UInt8.ofNat x]⟩) rs k) ∧ Below w1.heap.size w1 wr) (fun _ i _ => n - (intOf i).toNat)
  case atStart => exact ⟨0, by omega, rfl, rfl, Below.refl _ _⟩
  case round =>
    obtain ⟨k, hk, rfl, rfl, hB⟩ := hrel
    have HB := Lib.hid hB; clear hB
    by_cases hlt : k < n
    · obtain ⟨b, off, rfl, hcell⟩ := HA.out k hlt
      have hcell2 := pw_cell_below HB.out hcell
      have hcall := HC.out k hlt wr HB.out
      have HP := Lib.hid hcall
      have hz2 := HZ.out k hlt
      have hz3 : (9223372036854775807 < (accTo ((⟨#[UInt8.ofNat (opp d)]⟩ : ByteArray) ++ ⟨#[UInt8.ofNat x]⟩) rs k).size + (rs k).size) = False := eq_false (by omega)
      clear hcall hcell hz2
      go_wp2_with fail
      refine HP.out.mono ?_
      rintro e w2 ⟨rfl, hb'⟩
      have HB' := Lib.hid hb'; clear hb'
      have hl := HL.out
      go_wp2
      go_roundw
      case rel => exact ⟨k + 1, by omega, by go_num, rfl, HB.out.trans (HB'.out.mono HB.out.size)⟩
      case measure => simp [intOf]; omega
    · obtain rfl : k = n := by omega
      go_wp2
      go_ret
      exact ⟨rfl, HB.out⟩

end Go.Proofs.Ytjffhhalmicodaa.X
