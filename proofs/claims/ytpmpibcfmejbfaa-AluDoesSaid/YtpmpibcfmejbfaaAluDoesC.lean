/- What any instruction of the arithmetic makes of two numbers: what the program's function and the reference's answer, as one function. No condition. -/
import Derived.Test.YtpmpibcfmejbfaaAluDoC
import Derived.Test.YtpmpibcfmejbfaaAluTakesC
import Derived.Test.YtpmpibcfmejbfaaAluWidthC
import Derived.Test.YtpmpibcfmejbfaaAluRefP
import Derived.Test.YtpmpibcfmejbfaaPAluDoesx4
import Derived.Test.YtpmpibcfmejbfaaPAluDoesx5
import Derived.Test.YtpmpibcfmejbfaaPAluDoesx6
import Derived.WalkSmall
namespace Go.Proofs.Ytpmpibcfmejbfaa.Alu
open Go.RowKit Go.Proofs.YtpmpibcfmejbfaaW.PrintWords Go.Proofs.YtpmpibcfmejbfaaW.PrintLast Go.Proofs.YtpmpibcfmejbfaaW.PrintMore Go.Proofs.Ytpmpibcfmejbfaa.Bits
set_option linter.unusedSimpArgs false
def doV (op : Int) (a b : BitVec 64) : BitVec 64 :=
  if op = 31 ∨ op = 22 then a + b
  else if op = 32 then a - b
  else if op = 40 ∨ op = 27 then a &&& b
  else if op = 39 ∨ op = 26 then a ||| b
  else if op = 36 ∨ op = 25 then a ^^^ b
  else if op = 33 ∨ op = 28 then a <<< (b.toNat % 64)
  else if op = 37 ∨ op = 29 then a >>> (b.toNat % 64)
  else if op = 38 ∨ op = 30 then a.sshiftRight (b.toNat % 64)
  else if op = 34 ∨ op = 23 then bit (decide (s a < s b))
  else if op = 35 ∨ op = 24 then bit (decide (u a < u b))
  else 0#64
def doB (op : Int) : Bool := decide (22 ≤ op ∧ op ≤ 40)
theorem op_cases (op : Int) : op = 22 ∨ op = 23 ∨ op = 24 ∨ op = 25 ∨ op = 26 ∨ op = 27 ∨ op = 28 ∨ op = 29 ∨ op = 30 ∨ op = 31 ∨ op = 32 ∨ op = 33 ∨ op = 34 ∨ op = 35 ∨ op = 36 ∨ op = 37 ∨ op = 38 ∨ op = 39 ∨ op = 40 ∨ (op < 22 ∨ 40 < op) := by omega
theorem doV_22 (a b : BitVec 64) : doV 22 a b = a + b := by simp [doV]
theorem doV_23 (a b : BitVec 64) : doV 23 a b = bit (decide (s a < s b)) := by simp [doV]
theorem doV_24 (a b : BitVec 64) : doV 24 a b = bit (decide (u a < u b)) := by simp [doV]
theorem doV_25 (a b : BitVec 64) : doV 25 a b = a ^^^ b := by simp [doV]
theorem doV_26 (a b : BitVec 64) : doV 26 a b = a ||| b := by simp [doV]
theorem doV_27 (a b : BitVec 64) : doV 27 a b = a &&& b := by simp [doV]
theorem doV_28 (a b : BitVec 64) : doV 28 a b = a <<< (b.toNat % 64) := by simp [doV]
theorem doV_29 (a b : BitVec 64) : doV 29 a b = a >>> (b.toNat % 64) := by simp [doV]
theorem doV_30 (a b : BitVec 64) : doV 30 a b = a.sshiftRight (b.toNat % 64) := by simp [doV]
theorem doV_31 (a b : BitVec 64) : doV 31 a b = a + b := by simp [doV]
theorem doV_32 (a b : BitVec 64) : doV 32 a b = a - b := by simp [doV]
theorem doV_33 (a b : BitVec 64) : doV 33 a b = a <<< (b.toNat % 64) := by simp [doV]
theorem doV_34 (a b : BitVec 64) : doV 34 a b = bit (decide (s a < s b)) := by simp [doV]
theorem doV_35 (a b : BitVec 64) : doV 35 a b = bit (decide (u a < u b)) := by simp [doV]
theorem doV_36 (a b : BitVec 64) : doV 36 a b = a ^^^ b := by simp [doV]
theorem doV_37 (a b : BitVec 64) : doV 37 a b = a >>> (b.toNat % 64) := by simp [doV]
theorem doV_38 (a b : BitVec 64) : doV 38 a b = a.sshiftRight (b.toNat % 64) := by simp [doV]
theorem doV_39 (a b : BitVec 64) : doV 39 a b = a ||| b := by simp [doV]
theorem doV_40 (a b : BitVec 64) : doV 40 a b = a &&& b := by simp [doV]
theorem doV_other (op : Int) (h : op < 22 ∨ 40 < op) (a b : BitVec 64) : doV op a b = 0#64 := by
  unfold doV
  rw [if_neg (by omega), if_neg (by omega), if_neg (by omega), if_neg (by omega), if_neg (by omega), if_neg (by omega), if_neg (by omega), if_neg (by omega), if_neg (by omega), if_neg (by omega)]
theorem do_c (op : Int) (a b : BitVec 64) (W : World) : Calls Try.prog 12 #[.int .i64 op, .int .u64 (u a), .int .u64 (u b)] W fun e W' => e = .returned (.tuple #[.int .u64 (u (doV op a b)), .bool (doB op)]) ∧ Drawn0 W W' := by
  rcases op_cases op with rfl | rfl | rfl | rfl | rfl | rfl | rfl | rfl | rfl | rfl | rfl | rfl | rfl | rfl | rfl | rfl | rfl | rfl | rfl | h
  · rw [doV_22]; exact do_22 a b W
  · rw [doV_23]; exact do_23 a b W
  · rw [doV_24]; exact do_24 a b W
  · rw [doV_25]; exact do_25 a b W
  · rw [doV_26]; exact do_26 a b W
  · rw [doV_27]; exact do_27 a b W
  · rw [doV_28]; exact do_28 a b W
  · rw [doV_29]; exact do_29 a b W
  · rw [doV_30]; exact do_30 a b W
  · rw [doV_31]; exact do_31 a b W
  · rw [doV_32]; exact do_32 a b W
  · rw [doV_33]; exact do_33 a b W
  · rw [doV_34]; exact do_34 a b W
  · rw [doV_35]; exact do_35 a b W
  · rw [doV_36]; exact do_36 a b W
  · rw [doV_37]; exact do_37 a b W
  · rw [doV_38]; exact do_38 a b W
  · rw [doV_39]; exact do_39 a b W
  · rw [doV_40]; exact do_40 a b W
  · rw [doV_other op h, show doB op = false from decide_eq_false (by omega)]
    exact do_other op ⟨by rw [beq_eq_false_iff_ne]; omega, by rw [beq_eq_false_iff_ne]; omega, by rw [beq_eq_false_iff_ne]; omega, by rw [beq_eq_false_iff_ne]; omega, by rw [beq_eq_false_iff_ne]; omega, by rw [beq_eq_false_iff_ne]; omega, by rw [beq_eq_false_iff_ne]; omega, by rw [beq_eq_false_iff_ne]; omega, by rw [beq_eq_false_iff_ne]; omega, by rw [beq_eq_false_iff_ne]; omega, by rw [beq_eq_false_iff_ne]; omega, by rw [beq_eq_false_iff_ne]; omega, by rw [beq_eq_false_iff_ne]; omega, by rw [beq_eq_false_iff_ne]; omega, by rw [beq_eq_false_iff_ne]; omega, by rw [beq_eq_false_iff_ne]; omega, by rw [beq_eq_false_iff_ne]; omega, by rw [beq_eq_false_iff_ne]; omega, by rw [beq_eq_false_iff_ne]; omega⟩ a b W
theorem top_bit (i : Nat) : (9223372036854775808#64).getLsbD i = decide (63 = i) := by
  show (9223372036854775808 % 2 ^ 64 : Nat).testBit i = _
  rw [show (9223372036854775808 % 2 ^ 64 : Nat) = 2 ^ 63 by decide, Nat.testBit_two_pow]
theorem flip (a : BitVec 64) : u (a ^^^ 9223372036854775808#64) = s a + 9223372036854775808 := by
  have h : a ^^^ 9223372036854775808#64 = 9223372036854775808#64 + a := by
    apply ext; intro i hi
    rw [BitVec.getLsbD_xor, top_bit]
    show _ = (9223372036854775808#64 + a).toNat.testBit i
    rw [BitVec.toNat_add, Nat.testBit_mod_two_pow, decide_eq_true hi, Bool.true_and]
    have e : (9223372036854775808#64).toNat = 2 ^ 63 := by decide
    rw [e]
    by_cases h : 63 = i
    · subst h; rw [Nat.testBit_two_pow_add_eq]; simp [BitVec.getLsbD]
    · rw [Nat.testBit_two_pow_add_gt (by omega)]; simp [h, BitVec.getLsbD]
  rw [h, ← wrap_add, wrap_u64]
  have e : u 9223372036854775808#64 = 9223372036854775808 := by decide
  rw [e]
  have h1 := s_lt a
  have h2 : u a = s a % 18446744073709551616 := by rw [← wrap_u64, wrap_s]
  rw [h2]; omega
theorem below_is (a b : BitVec 64) : PAluDoes.mintmarkref15_below.f (u a) (u b) = some (decide (s a < s b)) := by
  unfold PAluDoes.mintmarkref15_below.f
  have e : (9223372036854775808 : Int) = u 9223372036854775808#64 := by decide
  rw [e, bits_xor, bits_xor, flip, flip]
  congr 1; rw [decide_eq_decide]; omega
theorem one_is (c : Bool) : PAluDoes.mintmarkref15_one.f c = some (u (bit c)) := by cases c <;> rfl
theorem sar_is (a : BitVec 64) (n : Nat) (h : n < 64) : signI (a >>> n) ((64 - n : Nat) : Int) = a.sshiftRight n := by
  unfold signI; rw [if_pos (by omega), Int.toNat_natCast]
  apply ext; intro i hi
  rw [sign_bit _ _ _ (by omega) (by omega) hi, BitVec.getLsbD_sshiftRight, BitVec.getLsbD_ushiftRight, BitVec.getLsbD_ushiftRight, BitVec.msb_eq_getLsbD_last]
  have e5 : ¬ 64 ≤ i := by omega
  by_cases h1 : i < 64 - n
  · rw [if_pos h1, if_pos (by omega)]; simp [e5]
  · rw [if_neg h1, if_neg (by omega), show n + (64 - n - 1) = 64 - 1 by omega]; simp [e5]
theorem gap_is (n : Nat) (h : n < 64) : wrap64 (64 - wrap64 (n : Int)) = ((64 - n : Nat) : Int) := by unfold wrap64; omega
theorem mod_lt (b : BitVec 64) : b.toNat % 64 < 64 := Nat.mod_lt _ (by omega)
theorem shl_is (a : BitVec 64) (n : Nat) : shl .u64 (u a) (n : Int) = u (a <<< n) := by rw [shl_u, Int.toNat_natCast]
theorem shr_is (a : BitVec 64) (n : Nat) : shr .u64 (u a) (n : Int) = u (a >>> n) := by rw [shr_u, Int.toNat_natCast]
theorem rsar (a : BitVec 64) (n : Nat) (h : n < 64) : PAluDoes.mintmarkref01_Sign.f 66 (u (a >>> n)) ((64 - n : Nat) : Int) = some (u (a.sshiftRight n)) := by
  rw [PAluDoes.mintmarkref01_Sign.eq, sar_is a _ h]
theorem nn (n : Nat) : (0 : Int) ≤ (n : Int) := by omega
theorem rdo_22 (a b : BitVec 64) : PAluDoes.mintmarkref15_Do.f 73 22 (u a) (u b) = some (u (doV 22 a b), doB 22) := by
  rw [doV_22, show doB 22 = true by decide]; simp only [PAluDoes.mintmarkref15_Do.f, PAluDoes.mintmarkref15_Do.j0, Int.reduceEq, Int.reduceBEq, if_true, if_false, Bool.false_eq_true, Option.bind_some, wrap_add]
theorem rdo_23 (a b : BitVec 64) : PAluDoes.mintmarkref15_Do.f 73 23 (u a) (u b) = some (u (doV 23 a b), doB 23) := by
  rw [doV_23, show doB 23 = true by decide]; simp only [PAluDoes.mintmarkref15_Do.f, PAluDoes.mintmarkref15_Do.j0, PAluDoes.mintmarkref15_Do.j1, PAluDoes.mintmarkref15_Do.j2, PAluDoes.mintmarkref15_Do.j3, PAluDoes.mintmarkref15_Do.j4, PAluDoes.mintmarkref15_Do.j5, PAluDoes.mintmarkref15_Do.j6, PAluDoes.mintmarkref15_Do.j7, Int.reduceEq, Int.reduceBEq, if_true, if_false, Bool.false_eq_true, Option.bind_some, below_is, one_is]
theorem rdo_24 (a b : BitVec 64) : PAluDoes.mintmarkref15_Do.f 73 24 (u a) (u b) = some (u (doV 24 a b), doB 24) := by
  rw [doV_24, show doB 24 = true by decide]; simp only [PAluDoes.mintmarkref15_Do.f, PAluDoes.mintmarkref15_Do.j0, PAluDoes.mintmarkref15_Do.j1, PAluDoes.mintmarkref15_Do.j2, PAluDoes.mintmarkref15_Do.j3, PAluDoes.mintmarkref15_Do.j4, PAluDoes.mintmarkref15_Do.j5, PAluDoes.mintmarkref15_Do.j6, PAluDoes.mintmarkref15_Do.j7, Int.reduceEq, Int.reduceBEq, if_true, if_false, Bool.false_eq_true, Option.bind_some, one_is]
theorem rdo_25 (a b : BitVec 64) : PAluDoes.mintmarkref15_Do.f 73 25 (u a) (u b) = some (u (doV 25 a b), doB 25) := by
  rw [doV_25, show doB 25 = true by decide]; simp only [PAluDoes.mintmarkref15_Do.f, PAluDoes.mintmarkref15_Do.j0, PAluDoes.mintmarkref15_Do.j1, PAluDoes.mintmarkref15_Do.j2, PAluDoes.mintmarkref15_Do.j3, Int.reduceEq, Int.reduceBEq, if_true, if_false, Bool.false_eq_true, Option.bind_some, bits_xor]
theorem rdo_26 (a b : BitVec 64) : PAluDoes.mintmarkref15_Do.f 73 26 (u a) (u b) = some (u (doV 26 a b), doB 26) := by
  rw [doV_26, show doB 26 = true by decide]; simp only [PAluDoes.mintmarkref15_Do.f, PAluDoes.mintmarkref15_Do.j0, PAluDoes.mintmarkref15_Do.j1, PAluDoes.mintmarkref15_Do.j2, Int.reduceEq, Int.reduceBEq, if_true, if_false, Bool.false_eq_true, Option.bind_some, bits_or]
theorem rdo_27 (a b : BitVec 64) : PAluDoes.mintmarkref15_Do.f 73 27 (u a) (u b) = some (u (doV 27 a b), doB 27) := by
  rw [doV_27, show doB 27 = true by decide]; simp only [PAluDoes.mintmarkref15_Do.f, PAluDoes.mintmarkref15_Do.j0, PAluDoes.mintmarkref15_Do.j1, Int.reduceEq, Int.reduceBEq, if_true, if_false, Bool.false_eq_true, Option.bind_some, bits_and]
theorem rdo_28 (a b : BitVec 64) : PAluDoes.mintmarkref15_Do.f 73 28 (u a) (u b) = some (u (doV 28 a b), doB 28) := by
  rw [doV_28, show doB 28 = true by decide]; simp only [PAluDoes.mintmarkref15_Do.f, PAluDoes.mintmarkref15_Do.j0, PAluDoes.mintmarkref15_Do.j1, PAluDoes.mintmarkref15_Do.j2, PAluDoes.mintmarkref15_Do.j3, PAluDoes.mintmarkref15_Do.j4, Int.reduceEq, Int.reduceBEq, if_true, if_false, Bool.false_eq_true, Option.bind_some, mod_n, if_pos (nn _), shl_is]
theorem rdo_29 (a b : BitVec 64) : PAluDoes.mintmarkref15_Do.f 73 29 (u a) (u b) = some (u (doV 29 a b), doB 29) := by
  rw [doV_29, show doB 29 = true by decide]; simp only [PAluDoes.mintmarkref15_Do.f, PAluDoes.mintmarkref15_Do.j0, PAluDoes.mintmarkref15_Do.j1, PAluDoes.mintmarkref15_Do.j2, PAluDoes.mintmarkref15_Do.j3, PAluDoes.mintmarkref15_Do.j4, PAluDoes.mintmarkref15_Do.j5, Int.reduceEq, Int.reduceBEq, if_true, if_false, Bool.false_eq_true, Option.bind_some, mod_n, if_pos (nn _), shr_is]
theorem rdo_30 (a b : BitVec 64) : PAluDoes.mintmarkref15_Do.f 73 30 (u a) (u b) = some (u (doV 30 a b), doB 30) := by
  rw [doV_30, show doB 30 = true by decide]; simp only [PAluDoes.mintmarkref15_Do.f, PAluDoes.mintmarkref15_Do.j0, PAluDoes.mintmarkref15_Do.j1, PAluDoes.mintmarkref15_Do.j2, PAluDoes.mintmarkref15_Do.j3, PAluDoes.mintmarkref15_Do.j4, PAluDoes.mintmarkref15_Do.j5, PAluDoes.mintmarkref15_Do.j6, Int.reduceEq, Int.reduceBEq, if_true, if_false, Bool.false_eq_true, Option.bind_some, mod_n, if_pos (nn _), shr_is, gap_is _ (mod_lt b), rsar _ _ (mod_lt b)]
theorem rdo_31 (a b : BitVec 64) : PAluDoes.mintmarkref15_Do.f 73 31 (u a) (u b) = some (u (doV 31 a b), doB 31) := by
  rw [doV_31, show doB 31 = true by decide]; simp only [PAluDoes.mintmarkref15_Do.f, PAluDoes.mintmarkref15_Do.j0, Int.reduceEq, Int.reduceBEq, if_true, if_false, Bool.false_eq_true, Option.bind_some, wrap_add]
theorem rdo_32 (a b : BitVec 64) : PAluDoes.mintmarkref15_Do.f 73 32 (u a) (u b) = some (u (doV 32 a b), doB 32) := by
  rw [doV_32, show doB 32 = true by decide]; simp only [PAluDoes.mintmarkref15_Do.f, PAluDoes.mintmarkref15_Do.j0, Int.reduceEq, Int.reduceBEq, if_true, if_false, Bool.false_eq_true, Option.bind_some, wrap_sub]
theorem rdo_33 (a b : BitVec 64) : PAluDoes.mintmarkref15_Do.f 73 33 (u a) (u b) = some (u (doV 33 a b), doB 33) := by
  rw [doV_33, show doB 33 = true by decide]; simp only [PAluDoes.mintmarkref15_Do.f, PAluDoes.mintmarkref15_Do.j0, PAluDoes.mintmarkref15_Do.j1, PAluDoes.mintmarkref15_Do.j2, PAluDoes.mintmarkref15_Do.j3, PAluDoes.mintmarkref15_Do.j4, Int.reduceEq, Int.reduceBEq, if_true, if_false, Bool.false_eq_true, Option.bind_some, mod_n, if_pos (nn _), shl_is]
theorem rdo_34 (a b : BitVec 64) : PAluDoes.mintmarkref15_Do.f 73 34 (u a) (u b) = some (u (doV 34 a b), doB 34) := by
  rw [doV_34, show doB 34 = true by decide]; simp only [PAluDoes.mintmarkref15_Do.f, PAluDoes.mintmarkref15_Do.j0, PAluDoes.mintmarkref15_Do.j1, PAluDoes.mintmarkref15_Do.j2, PAluDoes.mintmarkref15_Do.j3, PAluDoes.mintmarkref15_Do.j4, PAluDoes.mintmarkref15_Do.j5, PAluDoes.mintmarkref15_Do.j6, PAluDoes.mintmarkref15_Do.j7, Int.reduceEq, Int.reduceBEq, if_true, if_false, Bool.false_eq_true, Option.bind_some, below_is, one_is]
theorem rdo_35 (a b : BitVec 64) : PAluDoes.mintmarkref15_Do.f 73 35 (u a) (u b) = some (u (doV 35 a b), doB 35) := by
  rw [doV_35, show doB 35 = true by decide]; simp only [PAluDoes.mintmarkref15_Do.f, PAluDoes.mintmarkref15_Do.j0, PAluDoes.mintmarkref15_Do.j1, PAluDoes.mintmarkref15_Do.j2, PAluDoes.mintmarkref15_Do.j3, PAluDoes.mintmarkref15_Do.j4, PAluDoes.mintmarkref15_Do.j5, PAluDoes.mintmarkref15_Do.j6, PAluDoes.mintmarkref15_Do.j7, Int.reduceEq, Int.reduceBEq, if_true, if_false, Bool.false_eq_true, Option.bind_some, one_is]
theorem rdo_36 (a b : BitVec 64) : PAluDoes.mintmarkref15_Do.f 73 36 (u a) (u b) = some (u (doV 36 a b), doB 36) := by
  rw [doV_36, show doB 36 = true by decide]; simp only [PAluDoes.mintmarkref15_Do.f, PAluDoes.mintmarkref15_Do.j0, PAluDoes.mintmarkref15_Do.j1, PAluDoes.mintmarkref15_Do.j2, PAluDoes.mintmarkref15_Do.j3, Int.reduceEq, Int.reduceBEq, if_true, if_false, Bool.false_eq_true, Option.bind_some, bits_xor]
theorem rdo_37 (a b : BitVec 64) : PAluDoes.mintmarkref15_Do.f 73 37 (u a) (u b) = some (u (doV 37 a b), doB 37) := by
  rw [doV_37, show doB 37 = true by decide]; simp only [PAluDoes.mintmarkref15_Do.f, PAluDoes.mintmarkref15_Do.j0, PAluDoes.mintmarkref15_Do.j1, PAluDoes.mintmarkref15_Do.j2, PAluDoes.mintmarkref15_Do.j3, PAluDoes.mintmarkref15_Do.j4, PAluDoes.mintmarkref15_Do.j5, Int.reduceEq, Int.reduceBEq, if_true, if_false, Bool.false_eq_true, Option.bind_some, mod_n, if_pos (nn _), shr_is]
theorem rdo_38 (a b : BitVec 64) : PAluDoes.mintmarkref15_Do.f 73 38 (u a) (u b) = some (u (doV 38 a b), doB 38) := by
  rw [doV_38, show doB 38 = true by decide]; simp only [PAluDoes.mintmarkref15_Do.f, PAluDoes.mintmarkref15_Do.j0, PAluDoes.mintmarkref15_Do.j1, PAluDoes.mintmarkref15_Do.j2, PAluDoes.mintmarkref15_Do.j3, PAluDoes.mintmarkref15_Do.j4, PAluDoes.mintmarkref15_Do.j5, PAluDoes.mintmarkref15_Do.j6, Int.reduceEq, Int.reduceBEq, if_true, if_false, Bool.false_eq_true, Option.bind_some, mod_n, if_pos (nn _), shr_is, gap_is _ (mod_lt b), rsar _ _ (mod_lt b)]
theorem rdo_39 (a b : BitVec 64) : PAluDoes.mintmarkref15_Do.f 73 39 (u a) (u b) = some (u (doV 39 a b), doB 39) := by
  rw [doV_39, show doB 39 = true by decide]; simp only [PAluDoes.mintmarkref15_Do.f, PAluDoes.mintmarkref15_Do.j0, PAluDoes.mintmarkref15_Do.j1, PAluDoes.mintmarkref15_Do.j2, Int.reduceEq, Int.reduceBEq, if_true, if_false, Bool.false_eq_true, Option.bind_some, bits_or]
theorem rdo_40 (a b : BitVec 64) : PAluDoes.mintmarkref15_Do.f 73 40 (u a) (u b) = some (u (doV 40 a b), doB 40) := by
  rw [doV_40, show doB 40 = true by decide]; simp only [PAluDoes.mintmarkref15_Do.f, PAluDoes.mintmarkref15_Do.j0, PAluDoes.mintmarkref15_Do.j1, Int.reduceEq, Int.reduceBEq, if_true, if_false, Bool.false_eq_true, Option.bind_some, bits_and]
theorem rdo_other (op : Int) (h : op < 22 ∨ 40 < op) (a b : BitVec 64) : PAluDoes.mintmarkref15_Do.f 73 op (u a) (u b) = some (u (doV op a b), doB op) := by
  rw [doV_other op h, show doB op = false from decide_eq_false (by omega)]
  have n : ¬ op = 22 ∧ ¬ op = 23 ∧ ¬ op = 24 ∧ ¬ op = 25 ∧ ¬ op = 26 ∧ ¬ op = 27 ∧ ¬ op = 28 ∧ ¬ op = 29 ∧ ¬ op = 30 ∧ ¬ op = 31 ∧ ¬ op = 32 ∧ ¬ op = 33 ∧ ¬ op = 34 ∧ ¬ op = 35 ∧ ¬ op = 36 ∧ ¬ op = 37 ∧ ¬ op = 38 ∧ ¬ op = 39 ∧ ¬ op = 40 := by omega
  have m : (op == 22) = false ∧ (op == 23) = false ∧ (op == 24) = false ∧ (op == 25) = false ∧ (op == 26) = false ∧ (op == 27) = false ∧ (op == 28) = false ∧ (op == 29) = false ∧ (op == 30) = false ∧ (op == 31) = false ∧ (op == 32) = false ∧ (op == 33) = false ∧ (op == 34) = false ∧ (op == 35) = false ∧ (op == 36) = false ∧ (op == 37) = false ∧ (op == 38) = false ∧ (op == 39) = false ∧ (op == 40) = false := by simp only [beq_eq_false_iff_ne]; omega
  obtain ⟨n22, n23, n24, n25, n26, n27, n28, n29, n30, n31, n32, n33, n34, n35, n36, n37, n38, n39, n40⟩ := n
  obtain ⟨m22, m23, m24, m25, m26, m27, m28, m29, m30, m31, m32, m33, m34, m35, m36, m37, m38, m39, m40⟩ := m
  simp only [PAluDoes.mintmarkref15_Do.f, PAluDoes.mintmarkref15_Do.j0, PAluDoes.mintmarkref15_Do.j1, PAluDoes.mintmarkref15_Do.j2, PAluDoes.mintmarkref15_Do.j3, PAluDoes.mintmarkref15_Do.j4, PAluDoes.mintmarkref15_Do.j5, PAluDoes.mintmarkref15_Do.j6, PAluDoes.mintmarkref15_Do.j7, n22, n23, n24, n25, n26, n27, n28, n29, n30, n31, n32, n33, n34, n35, n36, n37, n38, n39, n40, m22, m23, m24, m25, m26, m27, m28, m29, m30, m31, m32, m33, m34, m35, m36, m37, m38, m39, m40, if_false, Bool.false_eq_true]; rfl
theorem rdo_eq (op : Int) (a b : BitVec 64) : PAluDoes.mintmarkref15_Do.f 73 op (u a) (u b) = some (u (doV op a b), doB op) := by
  rcases op_cases op with rfl | rfl | rfl | rfl | rfl | rfl | rfl | rfl | rfl | rfl | rfl | rfl | rfl | rfl | rfl | rfl | rfl | rfl | rfl | h
  · exact rdo_22 a b
  · exact rdo_23 a b
  · exact rdo_24 a b
  · exact rdo_25 a b
  · exact rdo_26 a b
  · exact rdo_27 a b
  · exact rdo_28 a b
  · exact rdo_29 a b
  · exact rdo_30 a b
  · exact rdo_31 a b
  · exact rdo_32 a b
  · exact rdo_33 a b
  · exact rdo_34 a b
  · exact rdo_35 a b
  · exact rdo_36 a b
  · exact rdo_37 a b
  · exact rdo_38 a b
  · exact rdo_39 a b
  · exact rdo_40 a b
  · exact rdo_other op h a b
theorem rdo_c (op : Int) (a b : BitVec 64) (W : World) : Calls Try.prog 17 #[.int .i64 op, .int .u64 (u a), .int .u64 (u b)] W fun e W' => e = .returned (.tuple #[.int .u64 (u (doV op a b)), .bool (doB op)]) ∧ Drawn0 W W' :=
  PAluDoes.mintmarkref15_Do.calls 73 op _ _ _ _ W (rdo_eq op a b)
def tV (op : Int) (a b : BitVec 64) : Bool :=
  if op = 5 then u a == u b else if op = 6 then u a != u b else if op = 7 then decide (s a < s b) else if op = 8 then !decide (s a < s b) else if op = 9 then decide (u a < u b) else if op = 10 then !decide (u a < u b) else false
def tB (op : Int) : Bool := decide (5 ≤ op ∧ op ≤ 10)
theorem t_cases (op : Int) : op = 5 ∨ op = 6 ∨ op = 7 ∨ op = 8 ∨ op = 9 ∨ op = 10 ∨ (op < 5 ∨ 10 < op) := by omega
theorem tV_other (op : Int) (h : op < 5 ∨ 10 < op) (a b : BitVec 64) : tV op a b = false := by
  unfold tV; rw [if_neg (by omega), if_neg (by omega), if_neg (by omega), if_neg (by omega), if_neg (by omega), if_neg (by omega)]
theorem takes_c (op : Int) (a b : BitVec 64) (W : World) : Calls Try.prog 14 #[.int .i64 op, .int .u64 (u a), .int .u64 (u b)] W fun e W' => e = .returned (.tuple #[.bool (tV op a b), .bool (tB op)]) ∧ Below W.heap.size W W' := by
  rcases t_cases op with rfl | rfl | rfl | rfl | rfl | rfl | h
  · rw [show tV 5 a b = (u a == u b) by simp [tV]]; exact takes_5 a b W
  · rw [show tV 6 a b = (u a != u b) by simp [tV]]; exact takes_6 a b W
  · rw [show tV 7 a b = decide (s a < s b) by simp [tV]]; exact takes_7 a b W
  · rw [show tV 8 a b = (!decide (s a < s b)) by simp [tV]]; exact takes_8 a b W
  · rw [show tV 9 a b = decide (u a < u b) by simp [tV]]; exact takes_9 a b W
  · rw [show tV 10 a b = (!decide (u a < u b)) by simp [tV]]; exact takes_10 a b W
  · rw [tV_other op h, show tB op = false from decide_eq_false (by omega)]
    exact takes_other op ⟨by rw [beq_eq_false_iff_ne]; omega, by rw [beq_eq_false_iff_ne]; omega, by rw [beq_eq_false_iff_ne]; omega, by rw [beq_eq_false_iff_ne]; omega, by rw [beq_eq_false_iff_ne]; omega, by rw [beq_eq_false_iff_ne]; omega⟩ a b W
theorem rtakes_eq (op : Int) (a b : BitVec 64) : PAluDoes.mintmarkref15_Takes.f op (u a) (u b) = some (tV op a b, tB op) := by
  unfold PAluDoes.mintmarkref15_Takes.f
  rcases t_cases op with rfl | rfl | rfl | rfl | rfl | rfl | h
  · rw [show tV 5 a b = (u a == u b) by simp [tV], show tB 5 = true by decide]; simp only [Int.reduceEq, if_true, if_false, below_is, Option.bind_some]
  · rw [show tV 6 a b = (u a != u b) by simp [tV], show tB 6 = true by decide]; simp only [Int.reduceEq, if_true, if_false, below_is, Option.bind_some]
  · rw [show tV 7 a b = decide (s a < s b) by simp [tV], show tB 7 = true by decide]; simp only [Int.reduceEq, if_true, if_false, below_is, Option.bind_some]
  · rw [show tV 8 a b = (!decide (s a < s b)) by simp [tV], show tB 8 = true by decide]; simp only [Int.reduceEq, if_true, if_false, below_is, Option.bind_some]
  · rw [show tV 9 a b = decide (u a < u b) by simp [tV], show tB 9 = true by decide]; simp only [Int.reduceEq, if_true, if_false, below_is, Option.bind_some]
  · rw [show tV 10 a b = (!decide (u a < u b)) by simp [tV], show tB 10 = true by decide]; simp only [Int.reduceEq, if_true, if_false, below_is, Option.bind_some]; congr 1; rw [show (!decide (u a < u b)) = decide (u a ≥ u b) by rw [← decide_not, decide_eq_decide]; omega]
  · rw [tV_other op h, show tB op = false from decide_eq_false (by omega), if_neg (by omega), if_neg (by omega), if_neg (by omega), if_neg (by omega), if_neg (by omega), if_neg (by omega)]
theorem rtakes_c (op : Int) (a b : BitVec 64) (W : World) : Calls Try.prog 18 #[.int .i64 op, .int .u64 (u a), .int .u64 (u b)] W fun e W' => e = .returned (.tuple #[.bool (tV op a b), .bool (tB op)]) ∧ Drawn0 W W' :=
  PAluDoes.mintmarkref15_Takes.calls op _ _ _ _ W (rtakes_eq op a b)
def lB (op : Int) : Bool := decide (11 ≤ op) && decide (op ≤ 17)
theorem Loads_c (op : Int) (W : World) : Calls Try.prog 21 #[.int .i64 op] W fun e W' => e = .returned (.bool (lB op)) ∧ Drawn0 W W' := by
  refine PAluDoes.alu_Loads.calls op _ W ?_
  unfold PAluDoes.alu_Loads.f lB
  by_cases h : op ≥ 11
  · rw [if_pos h, decide_eq_true (show 11 ≤ op from h)]; rfl
  · rw [if_neg h, decide_eq_false (show ¬ 11 ≤ op from h)]; rfl
def sB (op : Int) : Bool := decide (18 ≤ op) && decide (op ≤ 21)
theorem Stores_c (op : Int) (W : World) : Calls Try.prog 22 #[.int .i64 op] W fun e W' => e = .returned (.bool (sB op)) ∧ Drawn0 W W' := by
  refine PAluDoes.alu_Stores.calls op _ W ?_
  unfold PAluDoes.alu_Stores.f sB
  by_cases h : op ≥ 18
  · rw [if_pos h, decide_eq_true (show 18 ≤ op from h)]; rfl
  · rw [if_neg h, decide_eq_false (show ¬ 18 ≤ op from h)]; rfl
def bB (op : Int) : Bool := decide (5 ≤ op) && decide (op ≤ 10)
theorem Branches_c (op : Int) (W : World) : Calls Try.prog 23 #[.int .i64 op] W fun e W' => e = .returned (.bool (bB op)) ∧ Drawn0 W W' := by
  refine PAluDoes.alu_Branches.calls op _ W ?_
  unfold PAluDoes.alu_Branches.f bB
  by_cases h : op ≥ 5
  · rw [if_pos h, decide_eq_true (show 5 ≤ op from h)]; rfl
  · rw [if_neg h, decide_eq_false (show ¬ 5 ≤ op from h)]; rfl
def iB (op : Int) : Bool := decide (22 ≤ op) && decide (op ≤ 30)
theorem Immediate_c (op : Int) (W : World) : Calls Try.prog 24 #[.int .i64 op] W fun e W' => e = .returned (.bool (iB op)) ∧ Drawn0 W W' := by
  refine PAluDoes.alu_Immediate.calls op _ W ?_
  unfold PAluDoes.alu_Immediate.f iB
  by_cases h : op ≥ 22
  · rw [if_pos h, decide_eq_true (show 22 ≤ op from h)]; rfl
  · rw [if_neg h, decide_eq_false (show ¬ 22 ≤ op from h)]; rfl
def wV (op : Int) : Int :=
  if op = 11 ∨ op = 15 ∨ op = 18 then 1 else if op = 12 ∨ op = 16 ∨ op = 19 then 2 else if op = 13 ∨ op = 17 ∨ op = 20 then 4 else if op = 14 ∨ op = 21 then 8 else if op = 43 ∨ op = 44 then 16 else 0
theorem w_cases (op : Int) : op = 11 ∨ op = 12 ∨ op = 13 ∨ op = 14 ∨ op = 15 ∨ op = 16 ∨ op = 17 ∨ op = 18 ∨ op = 19 ∨ op = 20 ∨ op = 21 ∨ op = 43 ∨ op = 44 ∨ ((op < 11 ∨ 21 < op) ∧ op ≠ 43 ∧ op ≠ 44) := by omega
theorem wV_other (op : Int) (h : (op < 11 ∨ 21 < op) ∧ op ≠ 43 ∧ op ≠ 44) : wV op = 0 := by
  unfold wV; rw [if_neg (by omega), if_neg (by omega), if_neg (by omega), if_neg (by omega), if_neg (by omega)]
set_option maxRecDepth 100000 in
theorem width_other (op : Int) (hl : lB op = false) (hs : sB op = false) (h3 : (op == 43) = false) (h4 : (op == 44) = false) (W : World) : Calls Try.prog 15 #[.int .i64 op] W fun e W' => e = .returned (.int .i64 0) ∧ Below W.heap.size W W' := by
  go_enter Try.func15, Try.ntmps15
  go_wp2_with (first | (go_at_call 21; (with_reducible refine (Loads_c _ _).mono ?_); rintro e w' ⟨rfl, ⟨nd, rfl⟩⟩) | (go_at_call 22; (with_reducible refine (Stores_c _ _).mono ?_); rintro e w' ⟨rfl, ⟨nd, rfl⟩⟩))
  go_ret
  exact ⟨rfl, below_drewN (((Below.refl _ _).alloc (Nat.le_refl _) _).alloc (by simp) _) _⟩
theorem width_c (op : Int) (W : World) : Calls Try.prog 15 #[.int .i64 op] W fun e W' => e = .returned (.int .i64 (wV op)) ∧ Below W.heap.size W W' := by
  rcases w_cases op with rfl | rfl | rfl | rfl | rfl | rfl | rfl | rfl | rfl | rfl | rfl | rfl | rfl | h
  · rw [show wV 11 = 1 by decide]; exact width_11 W
  · rw [show wV 12 = 2 by decide]; exact width_12 W
  · rw [show wV 13 = 4 by decide]; exact width_13 W
  · rw [show wV 14 = 8 by decide]; exact width_14 W
  · rw [show wV 15 = 1 by decide]; exact width_15 W
  · rw [show wV 16 = 2 by decide]; exact width_16 W
  · rw [show wV 17 = 4 by decide]; exact width_17 W
  · rw [show wV 18 = 1 by decide]; exact width_18 W
  · rw [show wV 19 = 2 by decide]; exact width_19 W
  · rw [show wV 20 = 4 by decide]; exact width_20 W
  · rw [show wV 21 = 8 by decide]; exact width_21 W
  · rw [show wV 43 = 16 by decide]; exact width_43 W
  · rw [show wV 44 = 16 by decide]; exact width_44 W
  · rw [wV_other op h]
    refine width_other op ?_ ?_ (by rw [beq_eq_false_iff_ne]; omega) (by rw [beq_eq_false_iff_ne]; omega) W
    · unfold lB; rw [Bool.and_eq_false_iff, decide_eq_false_iff_not, decide_eq_false_iff_not]; omega
    · unfold sB; rw [Bool.and_eq_false_iff, decide_eq_false_iff_not, decide_eq_false_iff_not]; omega
def eV (op : Int) (v : BitVec 64) : BitVec 64 := if 11 ≤ op ∧ op ≤ 14 then signI v (8 * wV op) else if 15 ≤ op ∧ op ≤ 17 then getI v 0 (8 * wV op) else 0#64
theorem e_cases (op : Int) : op = 11 ∨ op = 12 ∨ op = 13 ∨ op = 14 ∨ op = 15 ∨ op = 16 ∨ op = 17 ∨ (op < 11 ∨ 17 < op) := by omega
set_option maxRecDepth 100000 in
theorem extend_other (op : Int) (h : (op == 11) = false ∧ (op == 12) = false ∧ (op == 13) = false ∧ (op == 14) = false ∧ (op == 15) = false ∧ (op == 16) = false ∧ (op == 17) = false) (v : BitVec 64) (w1 : 0 ≤ wV op) (w2 : wV op ≤ 16) (W : World) : Calls Try.prog 16 #[.int .i64 op, .int .u64 (u v)] W fun e W' => e = .returned (.int .u64 0) ∧ Below W.heap.size W W' := by
  obtain ⟨h11, h12, h13, h14, h15, h16, h17⟩ := h
  go_enter Try.func16, Try.ntmps16
  go_wp2_with fail
  (go_at_call 15; (with_reducible refine (width_c _ _).mono ?_))
  rintro e w1 ⟨rfl, hb⟩
  go_wp2_with fail
  go_ret
  exact ⟨rfl, hb⟩
theorem wV_range (op : Int) : 0 ≤ wV op ∧ wV op ≤ 16 := by unfold wV; repeat' split <;> omega
theorem extend_c (op : Int) (v : BitVec 64) (W : World) : Calls Try.prog 16 #[.int .i64 op, .int .u64 (u v)] W fun e W' => e = .returned (.int .u64 (u (eV op v))) ∧ Below W.heap.size W W' := by
  rcases e_cases op with rfl | rfl | rfl | rfl | rfl | rfl | rfl | h
  · exact extend_11 v W
  · exact extend_12 v W
  · exact extend_13 v W
  · exact extend_14 v W
  · exact extend_15 v W
  · exact extend_16 v W
  · exact extend_17 v W
  · rw [show eV op v = 0#64 by unfold eV; rw [if_neg (by omega), if_neg (by omega)]]
    exact extend_other op ⟨by rw [beq_eq_false_iff_ne]; omega, by rw [beq_eq_false_iff_ne]; omega, by rw [beq_eq_false_iff_ne]; omega, by rw [beq_eq_false_iff_ne]; omega, by rw [beq_eq_false_iff_ne]; omega, by rw [beq_eq_false_iff_ne]; omega, by rw [beq_eq_false_iff_ne]; omega⟩ v (wV_range op).1 (wV_range op).2 W
end Go.Proofs.Ytpmpibcfmejbfaa.Alu
