/- Two words that are instructions, and each instruction of the table: steps. No condition. -/
import Derived.Test.YtpmpibcfmejbfaaInstAgg
import Derived.Test.YtpmpibcfmejbfaaInstFind
namespace Go.Proofs.Ytpmpibcfmejbfaa.Inst
open Go.RowKit Go.Proofs.Ytpmpibcfmejbfaa.Bits
attribute [local irreducible] Go.wpList
set_option linter.unusedVariables false
theorem decode_y (x : BitVec 64) (k : Nat) (h : decN x = some k) (W : World) : Calls Try.prog 27 #[.int .u32 (u x)] W fun e W' => e = .returned (.tuple #[.agg #[.int .i64 ((k + 1 : Nat) : Int), .int .i64 (s (rdK k x)), .int .i64 (s (rs1K k x)), .int .i64 (s (rs2K k x)), .int .i64 (s (immK k x))], .bool true]) ∧ Kw.Mem [] W W' [] := by
  have hd := decode_c x W
  rw [decV_at x k (decN_some h).1 h] at hd
  exact hd
theorem decode_n (x : BitVec 64) (h : decN x = none) (W : World) : Calls Try.prog 27 #[.int .u32 (u x)] W fun e W' => e = .returned (.tuple #[.agg #[.int .i64 0, .int .i64 0, .int .i64 0, .int .i64 0, .int .i64 0], .bool false]) ∧ Kw.Mem [] W W' [] := by
  have hd := decode_c x W
  unfold decV at hd
  rw [h] at hd
  exact hd
theorem zero_ok (k : Nat) (hk : k < 69) : okB k 0#64 0#64 0#64 0#64 = true := by
  revert k
  decide +kernel
theorem encode_zero (m : Nat) (hm : m < 69) (W : World) : Calls Try.prog 25 #[.agg #[.int .i64 ((m + 1 : Nat) : Int), .int .i64 0, .int .i64 0, .int .i64 0, .int .i64 0]] W fun e W' => e = .returned (.tuple #[.int .u32 (u (wordK m 0#64 0#64 0#64 0#64 &&& 4294967295#64)), .bool true]) ∧ Kw.Mem [] W W' [] := by
  have h := encode_in m hm 0#64 0#64 0#64 0#64 W
  rw [zero_ok m hm] at h
  exact h
theorem keep_zero (k : Nat) (hk : k < 69) : rdH k 0#64 = 0#64 ∧ rs1H k 0#64 = 0#64 ∧ rs2H k 0#64 = 0#64 ∧ immH k 0#64 = 0#64 := by
  revert k
  decide +kernel
theorem decode_zero (m : Nat) (hm : m < 69) (W : World) : Calls Try.prog 27 #[.int .u32 (u (wordK m 0#64 0#64 0#64 0#64 &&& 4294967295#64))] W fun e W' => e = .returned (.tuple #[.agg #[.int .i64 ((m + 1 : Nat) : Int), .int .i64 0, .int .i64 0, .int .i64 0, .int .i64 0], .bool true]) ∧ Kw.Mem [] W W' [] := by
  have h := decode_y _ m (decN_word m hm 0#64 0#64 0#64 0#64) W
  obtain ⟨e1, e2, e3, e4⟩ := dec_enc m hm 0#64 0#64 0#64 0#64 (zero_ok m hm)
  obtain ⟨k1, k2, k3, k4⟩ := keep_zero m hm
  rw [e1, e2, e3, e4, k1, k2, k3, k4] at h
  exact h
theorem find_nm (k : Nat) (hk : k < 69) : findN (nm k) = k + 1 := by
  revert k
  decide +kernel
theorem find_m (m : Nat) (hm : m < 69) (W : World) : Calls Try.prog 31 #[.string (nm m)] W fun e W' => e = .returned (.int .i64 ((m + 1 : Nat) : Int)) ∧ Kw.Mem [] W W' [] := by
  have h := find_c (nm m) W
  rw [find_nm m hm] at h
  exact h
end Go.Proofs.Ytpmpibcfmejbfaa.Inst
