/- What an instruction of the arithmetic makes of two numbers, instruction by instruction: what the program's function answers. No condition. -/
import Derived.Test.YtpmpibcfmejbfaaBits
import Derived.Test.YtpmpibcfmejbfaaProg
import Derived.WalkKit
import Derived.BigQuiet
import Derived.Lib.Hide
import Derived.Deep.QuietTactic
namespace Go.Proofs.Ytpmpibcfmejbfaa.Alu
open Go.RowKit Go.Proofs.YtpmpibcfmejbfaaW.PrintWords Go.Proofs.YtpmpibcfmejbfaaW.PrintLast Go.Proofs.YtpmpibcfmejbfaaW.PrintMore Go.Proofs.Ytpmpibcfmejbfaa.Bits
theorem mod_n (b : BitVec 64) : (u b).tmod 64 = ((b.toNat % 64 : Nat) : Int) := by
  unfold u; rw [Int.tmod_eq_emod_of_nonneg (by omega)]; simp
theorem mod_m (b : BitVec 64) : u b % 64 = ((b.toNat % 64 : Nat) : Int) := by unfold u; simp
theorem shl_n (a : BitVec 64) (n : Nat) (h : n < 64) : IntKind.u64.wrap (u a * 2 ^ n) = u (a <<< n) := by
  have := shl_u a (n : Int)
  unfold shl at this
  rw [Int.toNat_natCast, Nat.min_eq_left (show n ≤ IntKind.u64.bits by show n ≤ 64; omega)] at this; exact this
theorem shr_n (a : BitVec 64) (n : Nat) : u a / 2 ^ n = u (a >>> n) := by
  unfold u; rw [BitVec.toNat_ushiftRight, Nat.shiftRight_eq_div_pow]; simp
theorem sar_n (a : BitVec 64) (n : Nat) (h : n < 64) : s a / 2 ^ n = s (a.sshiftRight n) := by
  have := shr_s a (n : Int)
  unfold shr at this
  rw [Int.toNat_natCast, Nat.min_eq_left (show n ≤ IntKind.i64.bits by show n ≤ 64; omega)] at this; exact this
/-- The number of a truth. -/
def bit (b : Bool) : BitVec 64 := if b then 1#64 else 0#64
theorem told_c (b : Bool) (W : World) : Calls Try.prog 33 #[.bool b] W fun e W' => e = .returned (.int .u64 (u (bit b))) ∧ Drawn0 W W' := by
  cases b
  · go_enter Try.func33, Try.ntmps33
    go_wp2
    go_ret
    exact ⟨rfl, Drawn0.refl _⟩
  · go_enter Try.func33, Try.ntmps33
    go_wp2
    go_ret
    exact ⟨rfl, Drawn0.refl _⟩
set_option maxRecDepth 100000 in
theorem do_31 (a b : BitVec 64) (W : World) : Calls Try.prog 12 #[.int .i64 31, .int .u64 (u a), .int .u64 (u b)] W fun e W' => e = .returned (.tuple #[.int .u64 (u (a + b)), .bool true]) ∧ Drawn0 W W' := by
  have r1 := wrap_s; have r2 := wrap64_u; have r3 := bits_and; have r4 := bits_or; have r5 := bits_xor; have r6 := wrap_add; have r7 := wrap_sub; have r8 := mod_n b; have r9 := mod_m b; have hm : b.toNat % 64 < 64 := Nat.mod_lt _ (by omega); have q1 := shl_n a _ hm; have q2 := shr_n a (b.toNat % 64); have q3 := sar_n a _ hm; have hm0 : (0 : Int) ≤ ((b.toNat % 64 : Nat) : Int) := by omega
  go_enter Try.func12, Try.ntmps12
  go_wp2
  go_ret2
  first | exact ⟨rfl, Drawn0.refl _⟩ | exact ⟨rfl, ⟨_, rfl⟩⟩
set_option maxRecDepth 100000 in
theorem do_22 (a b : BitVec 64) (W : World) : Calls Try.prog 12 #[.int .i64 22, .int .u64 (u a), .int .u64 (u b)] W fun e W' => e = .returned (.tuple #[.int .u64 (u (a + b)), .bool true]) ∧ Drawn0 W W' := by
  have r1 := wrap_s; have r2 := wrap64_u; have r3 := bits_and; have r4 := bits_or; have r5 := bits_xor; have r6 := wrap_add; have r7 := wrap_sub; have r8 := mod_n b; have r9 := mod_m b; have hm : b.toNat % 64 < 64 := Nat.mod_lt _ (by omega); have q1 := shl_n a _ hm; have q2 := shr_n a (b.toNat % 64); have q3 := sar_n a _ hm; have hm0 : (0 : Int) ≤ ((b.toNat % 64 : Nat) : Int) := by omega
  go_enter Try.func12, Try.ntmps12
  go_wp2
  go_ret2
  first | exact ⟨rfl, Drawn0.refl _⟩ | exact ⟨rfl, ⟨_, rfl⟩⟩
set_option maxRecDepth 100000 in
theorem do_32 (a b : BitVec 64) (W : World) : Calls Try.prog 12 #[.int .i64 32, .int .u64 (u a), .int .u64 (u b)] W fun e W' => e = .returned (.tuple #[.int .u64 (u (a - b)), .bool true]) ∧ Drawn0 W W' := by
  have r1 := wrap_s; have r2 := wrap64_u; have r3 := bits_and; have r4 := bits_or; have r5 := bits_xor; have r6 := wrap_add; have r7 := wrap_sub; have r8 := mod_n b; have r9 := mod_m b; have hm : b.toNat % 64 < 64 := Nat.mod_lt _ (by omega); have q1 := shl_n a _ hm; have q2 := shr_n a (b.toNat % 64); have q3 := sar_n a _ hm; have hm0 : (0 : Int) ≤ ((b.toNat % 64 : Nat) : Int) := by omega
  go_enter Try.func12, Try.ntmps12
  go_wp2
  go_ret2
  first | exact ⟨rfl, Drawn0.refl _⟩ | exact ⟨rfl, ⟨_, rfl⟩⟩
set_option maxRecDepth 100000 in
theorem do_40 (a b : BitVec 64) (W : World) : Calls Try.prog 12 #[.int .i64 40, .int .u64 (u a), .int .u64 (u b)] W fun e W' => e = .returned (.tuple #[.int .u64 (u (a &&& b)), .bool true]) ∧ Drawn0 W W' := by
  have r1 := wrap_s; have r2 := wrap64_u; have r3 := bits_and; have r4 := bits_or; have r5 := bits_xor; have r6 := wrap_add; have r7 := wrap_sub; have r8 := mod_n b; have r9 := mod_m b; have hm : b.toNat % 64 < 64 := Nat.mod_lt _ (by omega); have q1 := shl_n a _ hm; have q2 := shr_n a (b.toNat % 64); have q3 := sar_n a _ hm; have hm0 : (0 : Int) ≤ ((b.toNat % 64 : Nat) : Int) := by omega
  go_enter Try.func12, Try.ntmps12
  go_wp2
  go_ret2
  first | exact ⟨rfl, Drawn0.refl _⟩ | exact ⟨rfl, ⟨_, rfl⟩⟩
set_option maxRecDepth 100000 in
theorem do_27 (a b : BitVec 64) (W : World) : Calls Try.prog 12 #[.int .i64 27, .int .u64 (u a), .int .u64 (u b)] W fun e W' => e = .returned (.tuple #[.int .u64 (u (a &&& b)), .bool true]) ∧ Drawn0 W W' := by
  have r1 := wrap_s; have r2 := wrap64_u; have r3 := bits_and; have r4 := bits_or; have r5 := bits_xor; have r6 := wrap_add; have r7 := wrap_sub; have r8 := mod_n b; have r9 := mod_m b; have hm : b.toNat % 64 < 64 := Nat.mod_lt _ (by omega); have q1 := shl_n a _ hm; have q2 := shr_n a (b.toNat % 64); have q3 := sar_n a _ hm; have hm0 : (0 : Int) ≤ ((b.toNat % 64 : Nat) : Int) := by omega
  go_enter Try.func12, Try.ntmps12
  go_wp2
  go_ret2
  first | exact ⟨rfl, Drawn0.refl _⟩ | exact ⟨rfl, ⟨_, rfl⟩⟩
set_option maxRecDepth 100000 in
theorem do_39 (a b : BitVec 64) (W : World) : Calls Try.prog 12 #[.int .i64 39, .int .u64 (u a), .int .u64 (u b)] W fun e W' => e = .returned (.tuple #[.int .u64 (u (a ||| b)), .bool true]) ∧ Drawn0 W W' := by
  have r1 := wrap_s; have r2 := wrap64_u; have r3 := bits_and; have r4 := bits_or; have r5 := bits_xor; have r6 := wrap_add; have r7 := wrap_sub; have r8 := mod_n b; have r9 := mod_m b; have hm : b.toNat % 64 < 64 := Nat.mod_lt _ (by omega); have q1 := shl_n a _ hm; have q2 := shr_n a (b.toNat % 64); have q3 := sar_n a _ hm; have hm0 : (0 : Int) ≤ ((b.toNat % 64 : Nat) : Int) := by omega
  go_enter Try.func12, Try.ntmps12
  go_wp2
  go_ret2
  first | exact ⟨rfl, Drawn0.refl _⟩ | exact ⟨rfl, ⟨_, rfl⟩⟩
set_option maxRecDepth 100000 in
theorem do_26 (a b : BitVec 64) (W : World) : Calls Try.prog 12 #[.int .i64 26, .int .u64 (u a), .int .u64 (u b)] W fun e W' => e = .returned (.tuple #[.int .u64 (u (a ||| b)), .bool true]) ∧ Drawn0 W W' := by
  have r1 := wrap_s; have r2 := wrap64_u; have r3 := bits_and; have r4 := bits_or; have r5 := bits_xor; have r6 := wrap_add; have r7 := wrap_sub; have r8 := mod_n b; have r9 := mod_m b; have hm : b.toNat % 64 < 64 := Nat.mod_lt _ (by omega); have q1 := shl_n a _ hm; have q2 := shr_n a (b.toNat % 64); have q3 := sar_n a _ hm; have hm0 : (0 : Int) ≤ ((b.toNat % 64 : Nat) : Int) := by omega
  go_enter Try.func12, Try.ntmps12
  go_wp2
  go_ret2
  first | exact ⟨rfl, Drawn0.refl _⟩ | exact ⟨rfl, ⟨_, rfl⟩⟩
set_option maxRecDepth 100000 in
theorem do_36 (a b : BitVec 64) (W : World) : Calls Try.prog 12 #[.int .i64 36, .int .u64 (u a), .int .u64 (u b)] W fun e W' => e = .returned (.tuple #[.int .u64 (u (a ^^^ b)), .bool true]) ∧ Drawn0 W W' := by
  have r1 := wrap_s; have r2 := wrap64_u; have r3 := bits_and; have r4 := bits_or; have r5 := bits_xor; have r6 := wrap_add; have r7 := wrap_sub; have r8 := mod_n b; have r9 := mod_m b; have hm : b.toNat % 64 < 64 := Nat.mod_lt _ (by omega); have q1 := shl_n a _ hm; have q2 := shr_n a (b.toNat % 64); have q3 := sar_n a _ hm; have hm0 : (0 : Int) ≤ ((b.toNat % 64 : Nat) : Int) := by omega
  go_enter Try.func12, Try.ntmps12
  go_wp2
  go_ret2
  first | exact ⟨rfl, Drawn0.refl _⟩ | exact ⟨rfl, ⟨_, rfl⟩⟩
set_option maxRecDepth 100000 in
theorem do_25 (a b : BitVec 64) (W : World) : Calls Try.prog 12 #[.int .i64 25, .int .u64 (u a), .int .u64 (u b)] W fun e W' => e = .returned (.tuple #[.int .u64 (u (a ^^^ b)), .bool true]) ∧ Drawn0 W W' := by
  have r1 := wrap_s; have r2 := wrap64_u; have r3 := bits_and; have r4 := bits_or; have r5 := bits_xor; have r6 := wrap_add; have r7 := wrap_sub; have r8 := mod_n b; have r9 := mod_m b; have hm : b.toNat % 64 < 64 := Nat.mod_lt _ (by omega); have q1 := shl_n a _ hm; have q2 := shr_n a (b.toNat % 64); have q3 := sar_n a _ hm; have hm0 : (0 : Int) ≤ ((b.toNat % 64 : Nat) : Int) := by omega
  go_enter Try.func12, Try.ntmps12
  go_wp2
  go_ret2
  first | exact ⟨rfl, Drawn0.refl _⟩ | exact ⟨rfl, ⟨_, rfl⟩⟩
set_option maxRecDepth 100000 in
theorem do_33 (a b : BitVec 64) (W : World) : Calls Try.prog 12 #[.int .i64 33, .int .u64 (u a), .int .u64 (u b)] W fun e W' => e = .returned (.tuple #[.int .u64 (u (a <<< (b.toNat % 64))), .bool true]) ∧ Drawn0 W W' := by
  have r1 := wrap_s; have r2 := wrap64_u; have r3 := bits_and; have r4 := bits_or; have r5 := bits_xor; have r6 := wrap_add; have r7 := wrap_sub; have r8 := mod_n b; have r9 := mod_m b; have hm : b.toNat % 64 < 64 := Nat.mod_lt _ (by omega); have q1 := shl_n a _ hm; have q2 := shr_n a (b.toNat % 64); have q3 := sar_n a _ hm; have hm0 : (0 : Int) ≤ ((b.toNat % 64 : Nat) : Int) := by omega
  go_enter Try.func12, Try.ntmps12
  go_wp2
  go_ret2
  refine ⟨?_, Drawn0.refl _⟩
  show Ending.returned (.tuple #[.int .u64 (IntKind.u64.wrap (u a * 2 ^ (b.toNat % 64))), .bool true]) = _
  rw [q1]
set_option maxRecDepth 100000 in
theorem do_28 (a b : BitVec 64) (W : World) : Calls Try.prog 12 #[.int .i64 28, .int .u64 (u a), .int .u64 (u b)] W fun e W' => e = .returned (.tuple #[.int .u64 (u (a <<< (b.toNat % 64))), .bool true]) ∧ Drawn0 W W' := by
  have r1 := wrap_s; have r2 := wrap64_u; have r3 := bits_and; have r4 := bits_or; have r5 := bits_xor; have r6 := wrap_add; have r7 := wrap_sub; have r8 := mod_n b; have r9 := mod_m b; have hm : b.toNat % 64 < 64 := Nat.mod_lt _ (by omega); have q1 := shl_n a _ hm; have q2 := shr_n a (b.toNat % 64); have q3 := sar_n a _ hm; have hm0 : (0 : Int) ≤ ((b.toNat % 64 : Nat) : Int) := by omega
  go_enter Try.func12, Try.ntmps12
  go_wp2
  go_ret2
  refine ⟨?_, Drawn0.refl _⟩
  show Ending.returned (.tuple #[.int .u64 (IntKind.u64.wrap (u a * 2 ^ (b.toNat % 64))), .bool true]) = _
  rw [q1]
set_option maxRecDepth 100000 in
theorem do_37 (a b : BitVec 64) (W : World) : Calls Try.prog 12 #[.int .i64 37, .int .u64 (u a), .int .u64 (u b)] W fun e W' => e = .returned (.tuple #[.int .u64 (u (a >>> (b.toNat % 64))), .bool true]) ∧ Drawn0 W W' := by
  have r1 := wrap_s; have r2 := wrap64_u; have r3 := bits_and; have r4 := bits_or; have r5 := bits_xor; have r6 := wrap_add; have r7 := wrap_sub; have r8 := mod_n b; have r9 := mod_m b; have hm : b.toNat % 64 < 64 := Nat.mod_lt _ (by omega); have q1 := shl_n a _ hm; have q2 := shr_n a (b.toNat % 64); have q3 := sar_n a _ hm; have hm0 : (0 : Int) ≤ ((b.toNat % 64 : Nat) : Int) := by omega
  go_enter Try.func12, Try.ntmps12
  go_wp2
  go_ret2
  refine ⟨?_, Drawn0.refl _⟩
  show Ending.returned (.tuple #[.int .u64 (u a / 2 ^ (b.toNat % 64)), .bool true]) = _
  rw [q2]
set_option maxRecDepth 100000 in
theorem do_29 (a b : BitVec 64) (W : World) : Calls Try.prog 12 #[.int .i64 29, .int .u64 (u a), .int .u64 (u b)] W fun e W' => e = .returned (.tuple #[.int .u64 (u (a >>> (b.toNat % 64))), .bool true]) ∧ Drawn0 W W' := by
  have r1 := wrap_s; have r2 := wrap64_u; have r3 := bits_and; have r4 := bits_or; have r5 := bits_xor; have r6 := wrap_add; have r7 := wrap_sub; have r8 := mod_n b; have r9 := mod_m b; have hm : b.toNat % 64 < 64 := Nat.mod_lt _ (by omega); have q1 := shl_n a _ hm; have q2 := shr_n a (b.toNat % 64); have q3 := sar_n a _ hm; have hm0 : (0 : Int) ≤ ((b.toNat % 64 : Nat) : Int) := by omega
  go_enter Try.func12, Try.ntmps12
  go_wp2
  go_ret2
  refine ⟨?_, Drawn0.refl _⟩
  show Ending.returned (.tuple #[.int .u64 (u a / 2 ^ (b.toNat % 64)), .bool true]) = _
  rw [q2]
set_option maxRecDepth 100000 in
theorem do_38 (a b : BitVec 64) (W : World) : Calls Try.prog 12 #[.int .i64 38, .int .u64 (u a), .int .u64 (u b)] W fun e W' => e = .returned (.tuple #[.int .u64 (u (a.sshiftRight (b.toNat % 64))), .bool true]) ∧ Drawn0 W W' := by
  have r1 := wrap_s; have r2 := wrap64_u; have r3 := bits_and; have r4 := bits_or; have r5 := bits_xor; have r6 := wrap_add; have r7 := wrap_sub; have r8 := mod_n b; have r9 := mod_m b; have hm : b.toNat % 64 < 64 := Nat.mod_lt _ (by omega); have q1 := shl_n a _ hm; have q2 := shr_n a (b.toNat % 64); have q3 := sar_n a _ hm; have hm0 : (0 : Int) ≤ ((b.toNat % 64 : Nat) : Int) := by omega
  go_enter Try.func12, Try.ntmps12
  go_wp2
  go_ret2
  first | exact ⟨rfl, Drawn0.refl _⟩ | exact ⟨rfl, ⟨_, rfl⟩⟩
set_option maxRecDepth 100000 in
theorem do_30 (a b : BitVec 64) (W : World) : Calls Try.prog 12 #[.int .i64 30, .int .u64 (u a), .int .u64 (u b)] W fun e W' => e = .returned (.tuple #[.int .u64 (u (a.sshiftRight (b.toNat % 64))), .bool true]) ∧ Drawn0 W W' := by
  have r1 := wrap_s; have r2 := wrap64_u; have r3 := bits_and; have r4 := bits_or; have r5 := bits_xor; have r6 := wrap_add; have r7 := wrap_sub; have r8 := mod_n b; have r9 := mod_m b; have hm : b.toNat % 64 < 64 := Nat.mod_lt _ (by omega); have q1 := shl_n a _ hm; have q2 := shr_n a (b.toNat % 64); have q3 := sar_n a _ hm; have hm0 : (0 : Int) ≤ ((b.toNat % 64 : Nat) : Int) := by omega
  go_enter Try.func12, Try.ntmps12
  go_wp2
  go_ret2
  first | exact ⟨rfl, Drawn0.refl _⟩ | exact ⟨rfl, ⟨_, rfl⟩⟩
set_option maxRecDepth 100000 in
theorem do_34 (a b : BitVec 64) (W : World) : Calls Try.prog 12 #[.int .i64 34, .int .u64 (u a), .int .u64 (u b)] W fun e W' => e = .returned (.tuple #[.int .u64 (u (bit (decide (s a < s b)))), .bool true]) ∧ Drawn0 W W' := by
  have r1 := wrap_s; have r2 := wrap64_u; have r3 := bits_and; have r4 := bits_or; have r5 := bits_xor; have r6 := wrap_add; have r7 := wrap_sub; have r8 := mod_n b; have r9 := mod_m b; have hm : b.toNat % 64 < 64 := Nat.mod_lt _ (by omega); have q1 := shl_n a _ hm; have q2 := shr_n a (b.toNat % 64); have q3 := sar_n a _ hm; have hm0 : (0 : Int) ≤ ((b.toNat % 64 : Nat) : Int) := by omega
  go_enter Try.func12, Try.ntmps12
  go_wp2_with (first | (go_at_call 33; (with_reducible refine (told_c _ _).mono ?_); rintro e w' ⟨rfl, ⟨nd, rfl⟩⟩))
  go_ret2
  first | exact ⟨rfl, Drawn0.refl _⟩ | exact ⟨rfl, ⟨_, rfl⟩⟩
set_option maxRecDepth 100000 in
theorem do_23 (a b : BitVec 64) (W : World) : Calls Try.prog 12 #[.int .i64 23, .int .u64 (u a), .int .u64 (u b)] W fun e W' => e = .returned (.tuple #[.int .u64 (u (bit (decide (s a < s b)))), .bool true]) ∧ Drawn0 W W' := by
  have r1 := wrap_s; have r2 := wrap64_u; have r3 := bits_and; have r4 := bits_or; have r5 := bits_xor; have r6 := wrap_add; have r7 := wrap_sub; have r8 := mod_n b; have r9 := mod_m b; have hm : b.toNat % 64 < 64 := Nat.mod_lt _ (by omega); have q1 := shl_n a _ hm; have q2 := shr_n a (b.toNat % 64); have q3 := sar_n a _ hm; have hm0 : (0 : Int) ≤ ((b.toNat % 64 : Nat) : Int) := by omega
  go_enter Try.func12, Try.ntmps12
  go_wp2_with (first | (go_at_call 33; (with_reducible refine (told_c _ _).mono ?_); rintro e w' ⟨rfl, ⟨nd, rfl⟩⟩))
  go_ret2
  first | exact ⟨rfl, Drawn0.refl _⟩ | exact ⟨rfl, ⟨_, rfl⟩⟩
set_option maxRecDepth 100000 in
theorem do_35 (a b : BitVec 64) (W : World) : Calls Try.prog 12 #[.int .i64 35, .int .u64 (u a), .int .u64 (u b)] W fun e W' => e = .returned (.tuple #[.int .u64 (u (bit (decide (u a < u b)))), .bool true]) ∧ Drawn0 W W' := by
  have r1 := wrap_s; have r2 := wrap64_u; have r3 := bits_and; have r4 := bits_or; have r5 := bits_xor; have r6 := wrap_add; have r7 := wrap_sub; have r8 := mod_n b; have r9 := mod_m b; have hm : b.toNat % 64 < 64 := Nat.mod_lt _ (by omega); have q1 := shl_n a _ hm; have q2 := shr_n a (b.toNat % 64); have q3 := sar_n a _ hm; have hm0 : (0 : Int) ≤ ((b.toNat % 64 : Nat) : Int) := by omega
  go_enter Try.func12, Try.ntmps12
  go_wp2_with (first | (go_at_call 33; (with_reducible refine (told_c _ _).mono ?_); rintro e w' ⟨rfl, ⟨nd, rfl⟩⟩))
  go_ret2
  first | exact ⟨rfl, Drawn0.refl _⟩ | exact ⟨rfl, ⟨_, rfl⟩⟩
set_option maxRecDepth 100000 in
theorem do_24 (a b : BitVec 64) (W : World) : Calls Try.prog 12 #[.int .i64 24, .int .u64 (u a), .int .u64 (u b)] W fun e W' => e = .returned (.tuple #[.int .u64 (u (bit (decide (u a < u b)))), .bool true]) ∧ Drawn0 W W' := by
  have r1 := wrap_s; have r2 := wrap64_u; have r3 := bits_and; have r4 := bits_or; have r5 := bits_xor; have r6 := wrap_add; have r7 := wrap_sub; have r8 := mod_n b; have r9 := mod_m b; have hm : b.toNat % 64 < 64 := Nat.mod_lt _ (by omega); have q1 := shl_n a _ hm; have q2 := shr_n a (b.toNat % 64); have q3 := sar_n a _ hm; have hm0 : (0 : Int) ≤ ((b.toNat % 64 : Nat) : Int) := by omega
  go_enter Try.func12, Try.ntmps12
  go_wp2_with (first | (go_at_call 33; (with_reducible refine (told_c _ _).mono ?_); rintro e w' ⟨rfl, ⟨nd, rfl⟩⟩))
  go_ret2
  first | exact ⟨rfl, Drawn0.refl _⟩ | exact ⟨rfl, ⟨_, rfl⟩⟩
set_option maxRecDepth 100000 in
theorem do_other (op : Int) (h : (op == 22) = false ∧ (op == 23) = false ∧ (op == 24) = false ∧ (op == 25) = false ∧ (op == 26) = false ∧ (op == 27) = false ∧ (op == 28) = false ∧ (op == 29) = false ∧ (op == 30) = false ∧ (op == 31) = false ∧ (op == 32) = false ∧ (op == 33) = false ∧ (op == 34) = false ∧ (op == 35) = false ∧ (op == 36) = false ∧ (op == 37) = false ∧ (op == 38) = false ∧ (op == 39) = false ∧ (op == 40) = false) (a b : BitVec 64) (W : World) : Calls Try.prog 12 #[.int .i64 op, .int .u64 (u a), .int .u64 (u b)] W fun e W' => e = .returned (.tuple #[.int .u64 0, .bool false]) ∧ Drawn0 W W' := by
  obtain ⟨h22, h23, h24, h25, h26, h27, h28, h29, h30, h31, h32, h33, h34, h35, h36, h37, h38, h39, h40⟩ := h
  go_enter Try.func12, Try.ntmps12
  go_wp2
  go_ret2
  first | exact ⟨rfl, Drawn0.refl _⟩ | exact ⟨rfl, ⟨_, rfl⟩⟩
theorem lit_8 : (18446744073709551608 : Int) = u (-8#64) := by decide
set_option maxRecDepth 100000 in
theorem one_c (W : World) : Calls Try.prog 13 #[] W fun e W' => e = .returned (.bool true) ∧ Drawn0 W W' := by
  have h : (u ((-8#64).sshiftRight ((1#64).toNat % 64)) == 18446744073709551612) = true := by decide
  have H : Calls Try.prog 12 #[.int .i64 38, .int .u64 18446744073709551608, .int .u64 1] W fun e W' => e = .returned (.tuple #[.int .u64 (u ((-8#64).sshiftRight ((1#64).toNat % 64))), .bool true]) ∧ Drawn0 W W' := do_38 (-8#64) 1#64 W
  have HH := Lib.hid H
  clear H
  go_enter Try.func13, Try.ntmps13
  go_wp2_with fail
  refine HH.out.mono ?_
  rintro e w' ⟨rfl, ⟨nd, rfl⟩⟩
  go_wp2_with fail
  go_ret
  exact ⟨rfl, ⟨_, rfl⟩⟩
end Go.Proofs.Ytpmpibcfmejbfaa.Alu
