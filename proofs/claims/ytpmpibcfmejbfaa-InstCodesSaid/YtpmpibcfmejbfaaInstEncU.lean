/- The word of an instruction, or none: what the program's function answers. No condition. -/
import Derived.Test.YtpmpibcfmejbfaaInstEnc
import Derived.Test.YtpmpibcfmejbfaaInstDec
import Derived.Test.YtpmpibcfmejbfaaKS
namespace Go.Proofs.Ytpmpibcfmejbfaa.Inst
open Go.RowKit Go.Proofs.Ytpmpibcfmejbfaa.Bits
attribute [local irreducible] Go.wpList
set_option linter.unusedVariables false
def okB (k : Nat) (rd rs1 rs2 imm : BitVec 64) : Bool := if sh k = 82 then (fitsI rd 5 false && fitsI rs1 5 false && fitsI rs2 5 false) else if sh k = 71 then (fitsI rd 5 false && fitsI rs1 5 false) else if sh k = 73 then (fitB_I imm && fitsI rd 5 false && fitsI rs1 5 false) else if sh k = 67 then (fitB_C imm && fitsI rd 5 false && fitsI rs1 5 false) else if sh k = 72 then (fitB_H imm && fitsI rd 5 false && fitsI rs1 5 false) else if sh k = 83 then (fitB_S imm && fitsI rs1 5 false && fitsI rs2 5 false) else if sh k = 66 then (fitB_B imm && fitsI rs1 5 false && fitsI rs2 5 false) else if sh k = 85 then (fitB_U imm && fitsI rd 5 false) else if sh k = 74 then (fitB_J imm && fitsI rd 5 false) else if sh k = 78 then (true) else false
def wordK (k : Nat) (rd rs1 rs2 imm : BitVec 64) : BitVec 64 := if sh k = 82 then word_R k rd rs1 rs2 imm else if sh k = 71 then word_G k rd rs1 rs2 imm else if sh k = 73 then word_I k rd rs1 rs2 imm else if sh k = 67 then word_C k rd rs1 rs2 imm else if sh k = 72 then word_H k rd rs1 rs2 imm else if sh k = 83 then word_S k rd rs1 rs2 imm else if sh k = 66 then word_B k rd rs1 rs2 imm else if sh k = 85 then word_U k rd rs1 rs2 imm else if sh k = 74 then word_J k rd rs1 rs2 imm else if sh k = 78 then word_N k rd rs1 rs2 imm else 0#64
theorem encode_in (k : Nat) (hk : k < 69) (rd rs1 rs2 imm : BitVec 64) (W : World) : Calls Try.prog 25 #[.agg #[.int .i64 ((k + 1 : Nat) : Int), .int .i64 (s rd), .int .i64 (s rs1), .int .i64 (s rs2), .int .i64 (s imm)]] W fun e W' => e = .returned (encR (okB k rd rs1 rs2 imm) (wordK k rd rs1 rs2 imm)) ∧ Kw.Mem [] W W' [] := by
  unfold okB wordK
  rcases shapes k hk with hs | hs | hs | hs | hs | hs | hs | hs | hs | hs
  · simp only [hs]; exact enc_R k hk hs rd rs1 rs2 imm _ rfl _ rfl _ rfl W
  · simp only [hs]; exact enc_G k hk hs rd rs1 rs2 imm _ rfl _ rfl W
  · simp only [hs]; exact enc_I k hk hs rd rs1 rs2 imm _ rfl _ rfl _ rfl W
  · simp only [hs]; exact enc_C k hk hs rd rs1 rs2 imm _ rfl _ rfl _ rfl W
  · simp only [hs]; exact enc_H k hk hs rd rs1 rs2 imm _ rfl _ rfl _ rfl W
  · simp only [hs]; exact enc_S k hk hs rd rs1 rs2 imm _ rfl _ rfl _ rfl W
  · simp only [hs]; exact enc_B k hk hs rd rs1 rs2 imm _ rfl _ rfl _ rfl W
  · simp only [hs]; exact enc_U k hk hs rd rs1 rs2 imm _ rfl _ rfl W
  · simp only [hs]; exact enc_J k hk hs rd rs1 rs2 imm _ rfl _ rfl W
  · simp only [hs]; exact enc_N k hk hs rd rs1 rs2 imm W
set_option maxRecDepth 100000 in
theorem encode_no (z : Int) (h : z < 1 ∨ 69 < z) (rd rs1 rs2 imm : BitVec 64) (W : World) : Calls Try.prog 25 #[.agg #[.int .i64 z, .int .i64 (s rd), .int .i64 (s rs1), .int .i64 (s rs2), .int .i64 (s imm)]] W fun e W' => e = .returned (.tuple #[.int .u32 0, .bool false]) ∧ Kw.Mem [] W W' [] := by
  refine calls_of_wp Try.func25 rfl ?_
  have M0 : Kw.Mem [] W W [] := Kw.Mem.start _ _
  refine Kw.to (b := ⟨#[.agg #[.int .i64 z, .int .i64 (s rd), .int .i64 (s rs1), .int .i64 (s rs2), .int .i64 (s imm)], undef, undef, undef, undef, undef, undef, undef, undef, undef, undef, undef, undef, undef, undef, undef, undef, undef, undef, undef, undef, undef, undef, undef, undef, undef, undef, undef, undef, undef, undef, undef, undef, undef, undef, undef, undef, undef, undef, undef, undef, undef, undef, undef, undef, undef, undef, undef, undef, undef, undef, undef, undef, undef, undef, undef, undef, undef, undef, undef, undef, undef, undef, undef, undef, undef, undef, undef, undef, undef, undef, undef, undef, undef, undef, undef, undef, undef, undef, undef, undef, undef, undef, undef, undef], []⟩) (by kernel_rfl) ?_
  refine wp_seq (Kw.region ?_)
  refine Kw.alloc #[.int .i64 z, .int .i64 (s rd), .int .i64 (s rs1), .int .i64 (s rs2), .int .i64 (s imm)] 36 M0 (by kernel_rfl) (by kernel_rfl) fun w1 B1 M1 => ?_
  refine KS.p (.int .u32 0) ?_
  refine KS.p (.bool false) ?_
  refine KS.n4 ?_
  refine KS.p (.pointer (some ⟨B1, 0, none⟩)) ?_
  refine KS.l 3 B1 0 (.int .i64 z) M1 0 Try.underlying3 ?_
  refine KS.c (.tuple #[.agg #[.string ⟨#[]⟩, .int .u8 0, .int .u64 0, .int .u64 0, .int .u64 0], .bool false]) 41 #[.int .i64 z] M1 (of_no z h w1) fun w2 M2 => ?_
  refine KS.p (.tuple #[.agg #[.string ⟨#[]⟩, .int .u8 0, .int .u64 0, .int .u64 0, .int .u64 0], .bool false]) ?_
  refine KS.p (.agg #[.string ⟨#[]⟩, .int .u8 0, .int .u64 0, .int .u64 0, .int .u64 0]) ?_
  refine KS.p (.bool false) ?_
  refine Kw.alloc #[.string ⟨#[]⟩, .int .u8 0, .int .u64 0, .int .u64 0, .int .u64 0] 59 M2 (by kernel_rfl) (by kernel_rfl) fun w3 B3 M3 => ?_
  refine Kw.storeAll 0 59 #[.string ⟨#[]⟩, .int .u8 0, .int .u64 0, .int .u64 0, .int .u64 0] M3 rfl (by kernel_rfl) (by kernel_rfl) (by kernel_rfl) (by kernel_rfl) (by kernel_rfl) fun w4 M4 => ?_
  refine KS.p (.bool false) ?_
  refine Kw.fin (Kw.then_normal (wp_seq (wp_seq ?_)))
  refine Canon.region_canon (I := fun w => Kw.Mem [] W w [(B3, #[.string ⟨#[]⟩, .int .u8 0, .int .u64 0, .int .u64 0, .int .u64 0], 59), (B1, #[.int .i64 z, .int .i64 (s rd), .int .i64 (s rs1), .int .i64 (s rs2), .int .i64 (s imm)], 36)]) (by kernel_rfl) (by decide +kernel) M4.drew' ?_
  refine KS.q (.bool false) ?_
  refine KS.q (.bool true) ?_
  refine KS.q (.bool true) ?_
  refine KS.qk ?_
  refine KS.qk ?_
  refine KS.qk ?_
  refine KS.qk ?_
  refine KS.qk ?_
  refine KS.qk ?_
  refine KS.qk ?_
  refine KS.q (.bool true) ?_
  refine Canon.fin fun w5 M5 => ?_
  refine Kw.then_normal ?_
  refine wp_cond_true (by kernel_rfl) ?_
  refine wp_seq (Kw.region ?_)
  refine KS.p (.int .u32 0) ?_
  refine KS.p (.bool false) ?_
  refine Kw.fin (Kw.then_normal (wp_ret (Kw.then_ret ?_)))
  exact bodyPost_ret (v := .tuple #[.int .u32 0, .bool false]) (by kernel_rfl) (by kernel_rfl) ⟨rfl, M5.drop⟩
/-- What Encode tells. -/
def encV (op rd rs1 rs2 imm : BitVec 64) : Value := if 1 ≤ s op ∧ s op ≤ 69 then encR (okB (s op - 1).toNat rd rs1 rs2 imm) (wordK (s op - 1).toNat rd rs1 rs2 imm) else .tuple #[.int .u32 0, .bool false]
theorem encode_c (op rd rs1 rs2 imm : BitVec 64) (W : World) : Calls Try.prog 25 #[.agg #[.int .i64 (s op), .int .i64 (s rd), .int .i64 (s rs1), .int .i64 (s rs2), .int .i64 (s imm)]] W fun e W' => e = .returned (encV op rd rs1 rs2 imm) ∧ Kw.Mem [] W W' [] := by
  unfold encV
  by_cases h : 1 ≤ s op ∧ s op ≤ 69
  · rw [if_pos h]
    have e : s op = (((s op - 1).toNat + 1 : Nat) : Int) := by omega
    have h2 := encode_in (s op - 1).toNat (by omega) rd rs1 rs2 imm W
    rw [← e] at h2
    exact h2
  · rw [if_neg h]
    exact encode_no (s op) (by omega) rd rs1 rs2 imm W
end Go.Proofs.Ytpmpibcfmejbfaa.Inst
