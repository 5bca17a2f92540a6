/- The instruction of a word of an instruction is it: steps. No condition. -/
import Derived.Test.YtpmpibcfmejbfaaKwJ
import Derived.Test.YtpmpibcfmejbfaaInstUse
namespace Go.Proofs.Ytpmpibcfmejbfaa.Inst
open Go.RowKit Go.Proofs.Ytpmpibcfmejbfaa.Bits
attribute [local irreducible] Go.wpList
set_option linter.unusedVariables false
/-- The number of the word of an instruction; 0: it has none. -/
def encN (k : Nat) (rd rs1 rs2 imm : BitVec 64) : Int := if okB k rd rs1 rs2 imm = true then u (wordK k rd rs1 rs2 imm &&& 4294967295#64) else 0
theorem encN_ok {k : Nat} {rd rs1 rs2 imm : BitVec 64} (h : okB k rd rs1 rs2 imm = true) : encN k rd rs1 rs2 imm = u (wordK k rd rs1 rs2 imm &&& 4294967295#64) := if_pos h
theorem encode_t (k : Nat) (hk : k < 69) (rd rs1 rs2 imm : BitVec 64) (W : World) : Calls Try.prog 25 #[.agg #[.int .i64 ((k + 1 : Nat) : Int), .int .i64 (s rd), .int .i64 (s rs1), .int .i64 (s rs2), .int .i64 (s imm)]] W fun e W' => e = .returned (.tuple #[.int .u32 (encN k rd rs1 rs2 imm), .bool (okB k rd rs1 rs2 imm)]) ∧ Kw.Mem [] W W' [] := by
  have h := encode_in k hk rd rs1 rs2 imm W
  unfold encN
  cases hok : okB k rd rs1 rs2 imm
  · rw [hok] at h; exact h
  · rw [hok] at h; exact h
theorem low32 (x : BitVec 64) : ∀ i, 32 ≤ i → i < 64 → (x &&& 4294967295#64).getLsbD i = false := by
  intro i h1 h2
  have h : (4294967295#64) = mask 32 := by decide
  rw [h, BitVec.getLsbD_and, mask_bit 32 i (by omega), decide_eq_false (by omega), Bool.and_false]
theorem decode_h (k : Nat) (hk : k < 69) (rd rs1 rs2 imm : BitVec 64) (h : okB k rd rs1 rs2 imm = true) (W : World) : Calls Try.prog 27 #[.int .u32 (encN k rd rs1 rs2 imm)] W fun e W' => e = .returned (.tuple #[.agg #[.int .i64 ((k + 1 : Nat) : Int), .int .i64 (s (rdH k rd)), .int .i64 (s (rs1H k rs1)), .int .i64 (s (rs2H k rs2)), .int .i64 (s (immH k imm))], .bool true]) ∧ Kw.Mem [] W W' [] := by
  rw [encN_ok h]
  have hd := decode_y _ k (decN_word k hk rd rs1 rs2 imm) W
  obtain ⟨e1, e2, e3, e4⟩ := dec_enc k hk rd rs1 rs2 imm h
  rw [e1, e2, e3, e4] at hd
  exact hd
theorem encode_b (x : BitVec 64) (k : Nat) (h : decN x = some k) (hx : ∀ i, 32 ≤ i → i < 64 → x.getLsbD i = false) (W : World) : Calls Try.prog 25 #[.agg #[.int .i64 ((k + 1 : Nat) : Int), .int .i64 (s (rdK k x)), .int .i64 (s (rs1K k x)), .int .i64 (s (rs2K k x)), .int .i64 (s (immK k x))]] W fun e W' => e = .returned (.tuple #[.int .u32 (u x), .bool true]) ∧ Kw.Mem [] W W' [] := by
  obtain ⟨h1, h2⟩ := enc_dec k (decN_some h).1 x hx (decN_some h).2
  have he := encode_t k (decN_some h).1 (rdK k x) (rs1K k x) (rs2K k x) (immK k x) W
  rw [encN_ok h1, h1, h2] at he
  exact he
theorem encode_h (k : Nat) (hk : k < 69) (rd rs1 rs2 imm : BitVec 64) (h : okB k rd rs1 rs2 imm = true) (W : World) : Calls Try.prog 25 #[.agg #[.int .i64 ((k + 1 : Nat) : Int), .int .i64 (s (rdH k rd)), .int .i64 (s (rs1H k rs1)), .int .i64 (s (rs2H k rs2)), .int .i64 (s (immH k imm))]] W fun e W' => e = .returned (.tuple #[.int .u32 (encN k rd rs1 rs2 imm), .bool true]) ∧ Kw.Mem [] W W' [] := by
  have he := encode_b (wordK k rd rs1 rs2 imm &&& 4294967295#64) k (decN_word k hk rd rs1 rs2 imm) (low32 _) W
  obtain ⟨e1, e2, e3, e4⟩ := dec_enc k hk rd rs1 rs2 imm h
  rw [e1, e2, e3, e4] at he
  rw [encN_ok h]
  exact he
theorem find_e (W : World) : Calls Try.prog 31 #[.string ⟨#[]⟩] W fun e W' => e = .returned (.int .i64 0) ∧ Kw.Mem [] W W' [] := by
  have h := find_c ⟨#[]⟩ W
  have e : findN ⟨#[]⟩ = 0 := by decide +kernel
  rw [e] at h
  exact h
theorem sh_pos (k : Nat) (hk : k < 69) : sh k ≠ 0 := by
  revert k
  decide +kernel
end Go.Proofs.Ytpmpibcfmejbfaa.Inst
