/- The word of an instruction by the reference, shape by shape: what its function answers. No condition. -/
import Derived.Test.YtpmpibcfmejbfaaInstRefS
import Derived.Test.YtpmpibcfmejbfaaInstUse
import Derived.Test.YtpmpibcfmejbfaaKS
namespace Go.Proofs.Ytpmpibcfmejbfaa.Inst
open Go.RowKit Go.Proofs.Ytpmpibcfmejbfaa.Bits
attribute [local irreducible] Go.wpList
set_option linter.unusedVariables false
set_option linter.unusedSimpArgs false
set_option maxHeartbeats 8000000 in
set_option maxRecDepth 100000 in
theorem renc_R (k : Nat) (hk : k < 69) (hs : sh k = 82) (rd rs1 rs2 imm : BitVec 64) (W : World) : Calls Try.prog 26 #[.agg #[.int .i64 ((k + 1 : Nat) : Int), .int .i64 (s rd), .int .i64 (s rs1), .int .i64 (s rs2), .int .i64 (s imm)]] W fun e W' => e = .returned (.tuple #[.int .u32 (u (word_R k rd rs1 rs2 imm &&& 4294967295#64)), .bool (fitsI rd 5 false && fitsI rs1 5 false && fitsI rs2 5 false)]) ∧ Kw.Mem [] W W' [] := by
  refine calls_of_wp Try.func26 rfl ?_
  have M0 : Kw.Mem [] W W [] := Kw.Mem.start _ _
  refine Kw.to (b := ⟨#[.agg #[.int .i64 ((k + 1 : Nat) : Int), .int .i64 (s rd), .int .i64 (s rs1), .int .i64 (s rs2), .int .i64 (s imm)], undef, undef, undef, undef, undef, undef, undef, undef, undef, undef, undef, undef, undef, undef, undef, undef, undef, undef, undef, undef, undef, undef, undef, undef, undef, undef, undef, undef, undef, undef, undef, undef, undef, undef, undef, undef, undef, undef, undef, undef, undef, undef, undef, undef, undef, undef, undef, undef, undef, undef, undef, undef, undef, undef, undef, undef, undef, undef, undef, undef, undef, undef, undef, undef, undef, undef, undef, undef, undef, undef, undef, undef, undef, undef, undef, undef, undef, undef, undef, undef, undef, undef, undef, undef, undef, undef, undef, undef, undef, undef, undef, undef, undef, undef, undef, undef, undef, undef, undef, undef, undef, undef, undef, undef, undef, undef, undef, undef, undef, undef, undef, undef, undef, undef, undef, undef, undef, undef, undef, undef, undef, undef, undef, undef, undef, undef, undef, undef, undef, undef, undef, undef, undef, undef, undef, undef, undef, undef, undef, undef, undef, undef, undef, undef, undef, undef, undef, undef, undef, undef, undef, undef, undef, undef, undef, undef, undef, undef, undef, undef, undef, undef, undef, undef, undef, undef, undef, undef, undef, undef, undef, undef, undef, undef, undef, undef, undef, undef, undef, undef, undef, undef, undef, undef, undef, undef, undef, undef, undef, undef, undef, undef, undef, undef, undef, undef, undef, undef, undef, undef, undef, undef, undef, undef, undef, undef, undef, undef, undef, undef, undef, undef, undef, undef, undef, undef, undef, undef, undef, undef, undef, undef, undef, undef, undef, undef, undef, undef, undef, undef, undef, undef, undef, undef, undef, undef, undef, undef, undef, undef, undef, undef, undef, undef, undef, undef, undef, undef, undef, undef, undef, undef, undef, undef, undef, undef, undef, undef, undef, undef, undef, undef, undef, undef, undef, undef, undef, undef], []⟩) (by kernel_rfl) ?_
  refine wp_seq (Kw.region ?_)
  refine Kw.alloc #[.int .i64 ((k + 1 : Nat) : Int), .int .i64 (s rd), .int .i64 (s rs1), .int .i64 (s rs2), .int .i64 (s imm)] 41 M0 (by kernel_rfl) (by kernel_rfl) fun w1 B1 M1 => ?_
  refine KS.p (.int .u32 0) ?_
  refine KS.p (.bool false) ?_
  refine KS.n4 ?_
  refine Held.callN (fun B => (.slice (some ⟨B, 0, none⟩) 69 69)) 49 #[] rows32 79 M1 (by kernel_rfl) (by kernel_rfl) (rows32_c w1) fun w2 B2 M2 => ?_
  refine KS.p (.slice (some ⟨B2, 0, none⟩) 69 69) ?_
  refine KS.n5 ?_
  refine KS.p (.pointer (some ⟨B1, 0, none⟩)) ?_
  refine KS.l 3 B1 0 (.int .i64 ((k + 1 : Nat) : Int)) M2 1 Try.underlying3 ?_
  refine Kw.pure (.bool false) (by kernel_rfl) (Kw.eqv (v := .bool (decide (((k + 1 : Nat) : Int) < (1 : Int)))) (by kernel_rfl) (by rw [decide_eq_false (by omega)])) ?_
  refine KS.p (.bool false) ?_
  refine KS.p (.pointer (some ⟨B1, 0, none⟩)) ?_
  refine KS.l 3 B1 0 (.int .i64 ((k + 1 : Nat) : Int)) M2 1 Try.underlying3 ?_
  refine KS.p (.slice (some ⟨B2, 0, none⟩) 69 69) ?_
  refine KS.p (.int .i64 69) ?_
  refine Kw.pure (.bool false) (by kernel_rfl) (Kw.eqv (v := .bool (decide (((k + 1 : Nat) : Int) > (69 : Int)))) (by kernel_rfl) (by rw [decide_eq_false (by omega)])) ?_
  refine KS.p (.bool false) ?_
  refine KS.n2 ?_
  refine wp_cond_false (by kernel_rfl) ?_
  refine wp_skip (Kw.then_normal (wp_seq (Kw.region ?_)))
  refine KS.p (.slice (some ⟨B2, 0, none⟩) 69 69) ?_
  refine KS.p (.pointer (some ⟨B1, 0, none⟩)) ?_
  refine KS.l 3 B1 0 (.int .i64 ((k + 1 : Nat) : Int)) M2 1 Try.underlying3 ?_
  refine Kw.pure (.int .i64 ((k : Nat) : Int)) (by kernel_rfl) (Kw.eqv (v := .int .i64 (IntKind.i64.wrap (((k + 1 : Nat) : Int) - (1 : Int)))) (by kernel_rfl) (by rw [IntWalk.i64_in _ (by omega)]; congr 1; omega)) ?_
  refine KS.s (Sl.ixaS 76 (.slice (some ⟨B2, 0, none⟩) 69 69) (.int .i64 ((k : Nat) : Int))) (.pointer (some ⟨B2, 0 + k * 5, none⟩)) (Sl.ixa Try.underlying76 (by kernel_rfl) B2 0 69 69 k hk w2) ?_
  refine KS.s (Canon.ldS 79 (.pointer (some ⟨B2, 0 + k * 5, none⟩))) (.agg #[.string (nm k), .int .u8 82, .int .u32 (u (cd k)), .int .u32 (u (ff k)), .int .u32 (u (ot k))]) (Kw.ld_mid 79 (0 + k * 5) [.string (nm k), .int .u8 82, .int .u32 (u (cd k)), .int .u32 (u (ff k)), .int .u32 (u (ot k))] (M2.get 0 rfl) (row32_s k hk hs) _ Try.underlying79 rfl (by kernel_rfl)) ?_
  refine Kw.alloc #[.string ⟨#[]⟩, .int .u8 0, .int .u32 0, .int .u32 0, .int .u32 0] 79 M2 (by kernel_rfl) (by kernel_rfl) fun w3 B3 M3 => ?_
  refine Kw.storeAll 0 79 #[.string (nm k), .int .u8 82, .int .u32 (u (cd k)), .int .u32 (u (ff k)), .int .u32 (u (ot k))] M3 rfl (by kernel_rfl) (by kernel_rfl) (Eq.trans (b := 5) (by kernel_rfl) (by kernel_rfl)) (by kernel_rfl) (by kernel_rfl) fun w4 M4 => ?_
  refine KS.n4 ?_
  refine KS.p (.pointer (some ⟨B1, 4, none⟩)) ?_
  refine KS.l 2 B1 4 (.int .i64 (s imm)) M4 2 Try.underlying2 ?_
  refine KS.p (.int .i64 (s imm)) ?_
  refine KS.n4 ?_
  refine KS.p (.pointer (some ⟨B3, 2, none⟩)) ?_
  refine KS.l 37 B3 2 (.int .u32 (u (cd k))) M4 0 Try.underlying37 ?_
  refine KS.p (.pointer (some ⟨B3, 3, none⟩)) ?_
  refine KS.l 37 B3 3 (.int .u32 (u (ff k))) M4 0 Try.underlying37 ?_
  refine Kw.pure (.int .u32 (u (((ff k) <<< 12) &&& 4294967295#64))) (by kernel_rfl) (Kw.eqv (v := .int .u32 (IntKind.u32.wrap ((u (ff k)) * 2 ^ 12))) (by kernel_rfl) (congrArg (Value.int .u32) (wrap32_shl (ff k) 12 (by omega)))) ?_
  obtain ⟨a5, e5⟩ : ∃ z, ((cd k) + (((ff k) <<< 12) &&& 4294967295#64)) &&& 4294967295#64 = z := ⟨_, rfl⟩
  refine Kw.pure (.int .u32 (u a5)) (by kernel_rfl) (Kw.eqv (v := .int .u32 (IntKind.u32.wrap ((u (cd k)) + (u (((ff k) <<< 12) &&& 4294967295#64))))) (by kernel_rfl) ((congrArg (Value.int .u32) (wrap32_add (cd k) (((ff k) <<< 12) &&& 4294967295#64))).trans (congrArg (fun z => Value.int .u32 (u z)) e5))) ?_
  refine KS.p (.int .u32 (u a5)) ?_
  refine KS.n4 ?_
  refine KS.p (.pointer (some ⟨B1, 1, none⟩)) ?_
  refine KS.l 3 B1 1 (.int .i64 (s rd)) M4 2 Try.underlying3 ?_
  refine Kw.pure (.int .i64 (s (rd &&& 31#64))) (by kernel_rfl) (Kw.eqv (v := .int .i64 (Go.bits .and .i64 ((s rd)) ((31 : Int)))) (by kernel_rfl) (congrArg (Value.int .i64) (bits_andi rd 31#64))) ?_
  refine Kw.pure (.int .u32 (u ((rd &&& 31#64) &&& 4294967295#64))) (by kernel_rfl) (Kw.eqv (v := .int .u32 (IntKind.u32.wrap (s (rd &&& 31#64)))) (by kernel_rfl) (congrArg (Value.int .u32) (wrap32_s (rd &&& 31#64)))) ?_
  obtain ⟨a6, e6⟩ : ∃ z, (((rd &&& 31#64) &&& 4294967295#64) <<< 7) &&& 4294967295#64 = z := ⟨_, rfl⟩
  refine Kw.pure (.int .u32 (u a6)) (by kernel_rfl) (Kw.eqv (v := .int .u32 (IntKind.u32.wrap ((u ((rd &&& 31#64) &&& 4294967295#64)) * 2 ^ 7))) (by kernel_rfl) ((congrArg (Value.int .u32) (wrap32_shl ((rd &&& 31#64) &&& 4294967295#64) 7 (by omega))).trans (congrArg (fun z => Value.int .u32 (u z)) e6))) ?_
  refine KS.p (.int .u32 (u a6)) ?_
  refine KS.n4 ?_
  refine KS.p (.pointer (some ⟨B1, 2, none⟩)) ?_
  refine KS.l 3 B1 2 (.int .i64 (s rs1)) M4 2 Try.underlying3 ?_
  refine Kw.pure (.int .i64 (s (rs1 &&& 31#64))) (by kernel_rfl) (Kw.eqv (v := .int .i64 (Go.bits .and .i64 ((s rs1)) ((31 : Int)))) (by kernel_rfl) (congrArg (Value.int .i64) (bits_andi rs1 31#64))) ?_
  refine Kw.pure (.int .u32 (u ((rs1 &&& 31#64) &&& 4294967295#64))) (by kernel_rfl) (Kw.eqv (v := .int .u32 (IntKind.u32.wrap (s (rs1 &&& 31#64)))) (by kernel_rfl) (congrArg (Value.int .u32) (wrap32_s (rs1 &&& 31#64)))) ?_
  obtain ⟨a7, e7⟩ : ∃ z, (((rs1 &&& 31#64) &&& 4294967295#64) <<< 15) &&& 4294967295#64 = z := ⟨_, rfl⟩
  refine Kw.pure (.int .u32 (u a7)) (by kernel_rfl) (Kw.eqv (v := .int .u32 (IntKind.u32.wrap ((u ((rs1 &&& 31#64) &&& 4294967295#64)) * 2 ^ 15))) (by kernel_rfl) ((congrArg (Value.int .u32) (wrap32_shl ((rs1 &&& 31#64) &&& 4294967295#64) 15 (by omega))).trans (congrArg (fun z => Value.int .u32 (u z)) e7))) ?_
  refine KS.p (.int .u32 (u a7)) ?_
  refine KS.n4 ?_
  refine KS.p (.pointer (some ⟨B1, 3, none⟩)) ?_
  refine KS.l 3 B1 3 (.int .i64 (s rs2)) M4 2 Try.underlying3 ?_
  refine Kw.pure (.int .i64 (s (rs2 &&& 31#64))) (by kernel_rfl) (Kw.eqv (v := .int .i64 (Go.bits .and .i64 ((s rs2)) ((31 : Int)))) (by kernel_rfl) (congrArg (Value.int .i64) (bits_andi rs2 31#64))) ?_
  refine Kw.pure (.int .u32 (u ((rs2 &&& 31#64) &&& 4294967295#64))) (by kernel_rfl) (Kw.eqv (v := .int .u32 (IntKind.u32.wrap (s (rs2 &&& 31#64)))) (by kernel_rfl) (congrArg (Value.int .u32) (wrap32_s (rs2 &&& 31#64)))) ?_
  obtain ⟨a8, e8⟩ : ∃ z, (((rs2 &&& 31#64) &&& 4294967295#64) <<< 20) &&& 4294967295#64 = z := ⟨_, rfl⟩
  refine Kw.pure (.int .u32 (u a8)) (by kernel_rfl) (Kw.eqv (v := .int .u32 (IntKind.u32.wrap ((u ((rs2 &&& 31#64) &&& 4294967295#64)) * 2 ^ 20))) (by kernel_rfl) ((congrArg (Value.int .u32) (wrap32_shl ((rs2 &&& 31#64) &&& 4294967295#64) 20 (by omega))).trans (congrArg (fun z => Value.int .u32 (u z)) e8))) ?_
  refine KS.p (.int .u32 (u a8)) ?_
  refine KS.n5 ?_
  refine KS.p (.pointer (some ⟨B3, 1, none⟩)) ?_
  refine KS.l 5 B3 1 (.int .u8 82) M4 0 Try.underlying5 ?_
  refine Kw.fin (Kw.then_normal (wp_block (wp_seq (Kw.region ?_))))
  refine KS.p (.bool true) ?_
  refine KS.p (.bool true) ?_
  refine KS.n2 ?_
  refine wp_cond_true (by kernel_rfl) ?_
  refine wp_seq ?_
  refine Canon.region_canon (I := fun w => Kw.Mem [] W w [(B3, #[.string (nm k), .int .u8 82, .int .u32 (u (cd k)), .int .u32 (u (ff k)), .int .u32 (u (ot k))], 79), (B2, rows32, 79), (B1, #[.int .i64 ((k + 1 : Nat) : Int), .int .i64 (s rd), .int .i64 (s rs1), .int .i64 (s rs2), .int .i64 (s imm)], 41)]) (by kernel_rfl) (by decide +kernel) M4.drew' ?_
  refine KS.q (.int .u32 (u a5)) ?_
  refine KS.q (.int .u32 (u a6)) ?_
  refine Canon.pure (.int .u32 (u ((a5 + a6) &&& 4294967295#64))) (by kernel_rfl) (fun w => Kw.eqv (v := .int .u32 (IntKind.u32.wrap ((u a5) + (u a6)))) (by kernel_rfl) (congrArg (Value.int .u32) (wrap32_add a5 a6))) ?_
  refine KS.q (.int .u32 (u a7)) ?_
  obtain ⟨a9, e9⟩ : ∃ z, (((a5 + a6) &&& 4294967295#64) + a7) &&& 4294967295#64 = z := ⟨_, rfl⟩
  refine Canon.pure (.int .u32 (u a9)) (by kernel_rfl) (fun w => Kw.eqv (v := .int .u32 (IntKind.u32.wrap ((u ((a5 + a6) &&& 4294967295#64)) + (u a7)))) (by kernel_rfl) ((congrArg (Value.int .u32) (wrap32_add ((a5 + a6) &&& 4294967295#64) a7)).trans (congrArg (fun z => Value.int .u32 (u z)) e9))) ?_
  refine KS.q (.int .u32 (u a8)) ?_
  refine Canon.pure (.int .u32 (u ((a9 + a8) &&& 4294967295#64))) (by kernel_rfl) (fun w => Kw.eqv (v := .int .u32 (IntKind.u32.wrap ((u a9) + (u a8)))) (by kernel_rfl) (congrArg (Value.int .u32) (wrap32_add a9 a8))) ?_
  refine KS.q (.pointer (some ⟨B3, 4, none⟩)) ?_
  refine KS.ql 37 B3 4 (.int .u32 (u (ot k))) 0 Try.underlying37 ?_
  refine Canon.pure (.int .u32 (u (((ot k) <<< 25) &&& 4294967295#64))) (by kernel_rfl) (fun w => Kw.eqv (v := .int .u32 (IntKind.u32.wrap ((u (ot k)) * 2 ^ 25))) (by kernel_rfl) (congrArg (Value.int .u32) (wrap32_shl (ot k) 25 (by omega)))) ?_
  obtain ⟨a10, e10⟩ : ∃ z, (((a9 + a8) &&& 4294967295#64) + (((ot k) <<< 25) &&& 4294967295#64)) &&& 4294967295#64 = z := ⟨_, rfl⟩
  refine Canon.pure (.int .u32 (u a10)) (by kernel_rfl) (fun w => Kw.eqv (v := .int .u32 (IntKind.u32.wrap ((u ((a9 + a8) &&& 4294967295#64)) + (u (((ot k) <<< 25) &&& 4294967295#64))))) (by kernel_rfl) ((congrArg (Value.int .u32) (wrap32_add ((a9 + a8) &&& 4294967295#64) (((ot k) <<< 25) &&& 4294967295#64))).trans (congrArg (fun z => Value.int .u32 (u z)) e10))) ?_
  refine KS.q (.pointer (some ⟨B1, 1, none⟩)) ?_
  refine KS.ql 3 B1 1 (.int .i64 (s rd)) 2 Try.underlying3 ?_
  refine Canon.call (.bool (fitsI rd 5 false)) 50 #[.int .i64 (s rd)] (by kernel_rfl) (fun w => by kernel_rfl) (fun w hw => (reg_c rd w).mono fun r w1 ⟨he, hb⟩ => ⟨he, hw.call hb⟩) ?_
  rcases Bool.eq_false_or_eq_true ((fitsI rd 5 false)) with h11 | h11
  · skip
    refine Canon.pure (.bool true) (by kernel_rfl) (fun w => Kw.eqv (v := .bool ((fitsI rd 5 false))) (by kernel_rfl) (congrArg Value.bool h11)) ?_
    refine KS.q (.pointer (some ⟨B1, 2, none⟩)) ?_
    refine KS.ql 3 B1 2 (.int .i64 (s rs1)) 2 Try.underlying3 ?_
    refine Canon.call (.bool (fitsI rs1 5 false)) 50 #[.int .i64 (s rs1)] (by kernel_rfl) (fun w => by kernel_rfl) (fun w hw => (reg_c rs1 w).mono fun r w1 ⟨he, hb⟩ => ⟨he, hw.call hb⟩) ?_
    refine KS.q (.bool (fitsI rs1 5 false)) ?_
    rcases Bool.eq_false_or_eq_true ((fitsI rs1 5 false)) with h12 | h12
    · skip
      refine Canon.pure (.bool true) (by kernel_rfl) (fun w => Kw.eqv (v := .bool ((fitsI rs1 5 false))) (by kernel_rfl) (congrArg Value.bool h12)) ?_
      refine KS.q (.pointer (some ⟨B1, 3, none⟩)) ?_
      refine KS.ql 3 B1 3 (.int .i64 (s rs2)) 2 Try.underlying3 ?_
      refine Canon.call (.bool (fitsI rs2 5 false)) 50 #[.int .i64 (s rs2)] (by kernel_rfl) (fun w => by kernel_rfl) (fun w hw => (reg_c rs2 w).mono fun r w1 ⟨he, hb⟩ => ⟨he, hw.call hb⟩) ?_
      refine KS.q (.bool (fitsI rs2 5 false)) ?_
      refine KS.q (.int .u32 (u a10)) ?_
      refine KS.q (.bool (fitsI rs2 5 false)) ?_
      refine Canon.fin fun w13 M13 => ?_
      refine Kw.then_normal (wp_ret (Kw.block_ret (Kw.then_ret ?_)))
      exact bodyPost_ret (v := .tuple #[.int .u32 (u a10), .bool (fitsI rs2 5 false)]) (by kernel_rfl) (by kernel_rfl) ⟨ret2 (by subst e5 e6 e7 e8 e9 e10; exact sum_R k hk hs rd rs1 rs2 imm) (by simp [h11, h12]), M13.drop⟩
    · skip
      refine Canon.pure (.bool false) (by kernel_rfl) (fun w => Kw.eqv (v := .bool ((fitsI rs1 5 false))) (by kernel_rfl) (congrArg Value.bool h12)) ?_
      refine KS.qk ?_
      refine KS.qk ?_
      refine KS.qk ?_
      refine KS.q (.bool false) ?_
      refine KS.q (.int .u32 (u a10)) ?_
      refine KS.q (.bool false) ?_
      refine Canon.fin fun w14 M14 => ?_
      refine Kw.then_normal (wp_ret (Kw.block_ret (Kw.then_ret ?_)))
      exact bodyPost_ret (v := .tuple #[.int .u32 (u a10), .bool false]) (by kernel_rfl) (by kernel_rfl) ⟨ret2 (by subst e5 e6 e7 e8 e9 e10; exact sum_R k hk hs rd rs1 rs2 imm) (by simp [h11, h12]), M14.drop⟩
  · skip
    refine Canon.pure (.bool false) (by kernel_rfl) (fun w => Kw.eqv (v := .bool ((fitsI rd 5 false))) (by kernel_rfl) (congrArg Value.bool h11)) ?_
    refine KS.qk ?_
    refine KS.qk ?_
    refine KS.qk ?_
    refine KS.q (.bool false) ?_
    refine KS.q (.bool false) ?_
    refine KS.qk ?_
    refine KS.qk ?_
    refine KS.qk ?_
    refine KS.q (.bool false) ?_
    refine KS.q (.int .u32 (u a10)) ?_
    refine KS.q (.bool false) ?_
    refine Canon.fin fun w15 M15 => ?_
    refine Kw.then_normal (wp_ret (Kw.block_ret (Kw.then_ret ?_)))
    exact bodyPost_ret (v := .tuple #[.int .u32 (u a10), .bool false]) (by kernel_rfl) (by kernel_rfl) ⟨ret2 (by subst e5 e6 e7 e8 e9 e10; exact sum_R k hk hs rd rs1 rs2 imm) (by simp [h11]), M15.drop⟩
set_option maxHeartbeats 8000000 in
set_option maxRecDepth 100000 in
theorem renc_G (k : Nat) (hk : k < 69) (hs : sh k = 71) (rd rs1 rs2 imm : BitVec 64) (W : World) : Calls Try.prog 26 #[.agg #[.int .i64 ((k + 1 : Nat) : Int), .int .i64 (s rd), .int .i64 (s rs1), .int .i64 (s rs2), .int .i64 (s imm)]] W fun e W' => e = .returned (.tuple #[.int .u32 (u (word_G k rd rs1 rs2 imm &&& 4294967295#64)), .bool (fitsI rd 5 false && fitsI rs1 5 false)]) ∧ Kw.Mem [] W W' [] := by
  refine calls_of_wp Try.func26 rfl ?_
  have M0 : Kw.Mem [] W W [] := Kw.Mem.start _ _
  refine Kw.to (b := ⟨#[.agg #[.int .i64 ((k + 1 : Nat) : Int), .int .i64 (s rd), .int .i64 (s rs1), .int .i64 (s rs2), .int .i64 (s imm)], undef, undef, undef, undef, undef, undef, undef, undef, undef, undef, undef, undef, undef, undef, undef, undef, undef, undef, undef, undef, undef, undef, undef, undef, undef, undef, undef, undef, undef, undef, undef, undef, undef, undef, undef, undef, undef, undef, undef, undef, undef, undef, undef, undef, undef, undef, undef, undef, undef, undef, undef, undef, undef, undef, undef, undef, undef, undef, undef, undef, undef, undef, undef, undef, undef, undef, undef, undef, undef, undef, undef, undef, undef, undef, undef, undef, undef, undef, undef, undef, undef, undef, undef, undef, undef, undef, undef, undef, undef, undef, undef, undef, undef, undef, undef, undef, undef, undef, undef, undef, undef, undef, undef, undef, undef, undef, undef, undef, undef, undef, undef, undef, undef, undef, undef, undef, undef, undef, undef, undef, undef, undef, undef, undef, undef, undef, undef, undef, undef, undef, undef, undef, undef, undef, undef, undef, undef, undef, undef, undef, undef, undef, undef, undef, undef, undef, undef, undef, undef, undef, undef, undef, undef, undef, undef, undef, undef, undef, undef, undef, undef, undef, undef, undef, undef, undef, undef, undef, undef, undef, undef, undef, undef, undef, undef, undef, undef, undef, undef, undef, undef, undef, undef, undef, undef, undef, undef, undef, undef, undef, undef, undef, undef, undef, undef, undef, undef, undef, undef, undef, undef, undef, undef, undef, undef, undef, undef, undef, undef, undef, undef, undef, undef, undef, undef, undef, undef, undef, undef, undef, undef, undef, undef, undef, undef, undef, undef, undef, undef, undef, undef, undef, undef, undef, undef, undef, undef, undef, undef, undef, undef, undef, undef, undef, undef, undef, undef, undef, undef, undef, undef, undef, undef, undef, undef, undef, undef, undef, undef, undef, undef, undef, undef, undef, undef, undef, undef, undef], []⟩) (by kernel_rfl) ?_
  refine wp_seq (Kw.region ?_)
  refine Kw.alloc #[.int .i64 ((k + 1 : Nat) : Int), .int .i64 (s rd), .int .i64 (s rs1), .int .i64 (s rs2), .int .i64 (s imm)] 41 M0 (by kernel_rfl) (by kernel_rfl) fun w1 B1 M1 => ?_
  refine KS.p (.int .u32 0) ?_
  refine KS.p (.bool false) ?_
  refine KS.n4 ?_
  refine Held.callN (fun B => (.slice (some ⟨B, 0, none⟩) 69 69)) 49 #[] rows32 79 M1 (by kernel_rfl) (by kernel_rfl) (rows32_c w1) fun w2 B2 M2 => ?_
  refine KS.p (.slice (some ⟨B2, 0, none⟩) 69 69) ?_
  refine KS.n5 ?_
  refine KS.p (.pointer (some ⟨B1, 0, none⟩)) ?_
  refine KS.l 3 B1 0 (.int .i64 ((k + 1 : Nat) : Int)) M2 1 Try.underlying3 ?_
  refine Kw.pure (.bool false) (by kernel_rfl) (Kw.eqv (v := .bool (decide (((k + 1 : Nat) : Int) < (1 : Int)))) (by kernel_rfl) (by rw [decide_eq_false (by omega)])) ?_
  refine KS.p (.bool false) ?_
  refine KS.p (.pointer (some ⟨B1, 0, none⟩)) ?_
  refine KS.l 3 B1 0 (.int .i64 ((k + 1 : Nat) : Int)) M2 1 Try.underlying3 ?_
  refine KS.p (.slice (some ⟨B2, 0, none⟩) 69 69) ?_
  refine KS.p (.int .i64 69) ?_
  refine Kw.pure (.bool false) (by kernel_rfl) (Kw.eqv (v := .bool (decide (((k + 1 : Nat) : Int) > (69 : Int)))) (by kernel_rfl) (by rw [decide_eq_false (by omega)])) ?_
  refine KS.p (.bool false) ?_
  refine KS.n2 ?_
  refine wp_cond_false (by kernel_rfl) ?_
  refine wp_skip (Kw.then_normal (wp_seq (Kw.region ?_)))
  refine KS.p (.slice (some ⟨B2, 0, none⟩) 69 69) ?_
  refine KS.p (.pointer (some ⟨B1, 0, none⟩)) ?_
  refine KS.l 3 B1 0 (.int .i64 ((k + 1 : Nat) : Int)) M2 1 Try.underlying3 ?_
  refine Kw.pure (.int .i64 ((k : Nat) : Int)) (by kernel_rfl) (Kw.eqv (v := .int .i64 (IntKind.i64.wrap (((k + 1 : Nat) : Int) - (1 : Int)))) (by kernel_rfl) (by rw [IntWalk.i64_in _ (by omega)]; congr 1; omega)) ?_
  refine KS.s (Sl.ixaS 76 (.slice (some ⟨B2, 0, none⟩) 69 69) (.int .i64 ((k : Nat) : Int))) (.pointer (some ⟨B2, 0 + k * 5, none⟩)) (Sl.ixa Try.underlying76 (by kernel_rfl) B2 0 69 69 k hk w2) ?_
  refine KS.s (Canon.ldS 79 (.pointer (some ⟨B2, 0 + k * 5, none⟩))) (.agg #[.string (nm k), .int .u8 71, .int .u32 (u (cd k)), .int .u32 (u (ff k)), .int .u32 (u (ot k))]) (Kw.ld_mid 79 (0 + k * 5) [.string (nm k), .int .u8 71, .int .u32 (u (cd k)), .int .u32 (u (ff k)), .int .u32 (u (ot k))] (M2.get 0 rfl) (row32_s k hk hs) _ Try.underlying79 rfl (by kernel_rfl)) ?_
  refine Kw.alloc #[.string ⟨#[]⟩, .int .u8 0, .int .u32 0, .int .u32 0, .int .u32 0] 79 M2 (by kernel_rfl) (by kernel_rfl) fun w3 B3 M3 => ?_
  refine Kw.storeAll 0 79 #[.string (nm k), .int .u8 71, .int .u32 (u (cd k)), .int .u32 (u (ff k)), .int .u32 (u (ot k))] M3 rfl (by kernel_rfl) (by kernel_rfl) (Eq.trans (b := 5) (by kernel_rfl) (by kernel_rfl)) (by kernel_rfl) (by kernel_rfl) fun w4 M4 => ?_
  refine KS.n4 ?_
  refine KS.p (.pointer (some ⟨B1, 4, none⟩)) ?_
  refine KS.l 2 B1 4 (.int .i64 (s imm)) M4 2 Try.underlying2 ?_
  refine KS.p (.int .i64 (s imm)) ?_
  refine KS.n4 ?_
  refine KS.p (.pointer (some ⟨B3, 2, none⟩)) ?_
  refine KS.l 37 B3 2 (.int .u32 (u (cd k))) M4 0 Try.underlying37 ?_
  refine KS.p (.pointer (some ⟨B3, 3, none⟩)) ?_
  refine KS.l 37 B3 3 (.int .u32 (u (ff k))) M4 0 Try.underlying37 ?_
  refine Kw.pure (.int .u32 (u (((ff k) <<< 12) &&& 4294967295#64))) (by kernel_rfl) (Kw.eqv (v := .int .u32 (IntKind.u32.wrap ((u (ff k)) * 2 ^ 12))) (by kernel_rfl) (congrArg (Value.int .u32) (wrap32_shl (ff k) 12 (by omega)))) ?_
  obtain ⟨a5, e5⟩ : ∃ z, ((cd k) + (((ff k) <<< 12) &&& 4294967295#64)) &&& 4294967295#64 = z := ⟨_, rfl⟩
  refine Kw.pure (.int .u32 (u a5)) (by kernel_rfl) (Kw.eqv (v := .int .u32 (IntKind.u32.wrap ((u (cd k)) + (u (((ff k) <<< 12) &&& 4294967295#64))))) (by kernel_rfl) ((congrArg (Value.int .u32) (wrap32_add (cd k) (((ff k) <<< 12) &&& 4294967295#64))).trans (congrArg (fun z => Value.int .u32 (u z)) e5))) ?_
  refine KS.p (.int .u32 (u a5)) ?_
  refine KS.n4 ?_
  refine KS.p (.pointer (some ⟨B1, 1, none⟩)) ?_
  refine KS.l 3 B1 1 (.int .i64 (s rd)) M4 2 Try.underlying3 ?_
  refine Kw.pure (.int .i64 (s (rd &&& 31#64))) (by kernel_rfl) (Kw.eqv (v := .int .i64 (Go.bits .and .i64 ((s rd)) ((31 : Int)))) (by kernel_rfl) (congrArg (Value.int .i64) (bits_andi rd 31#64))) ?_
  refine Kw.pure (.int .u32 (u ((rd &&& 31#64) &&& 4294967295#64))) (by kernel_rfl) (Kw.eqv (v := .int .u32 (IntKind.u32.wrap (s (rd &&& 31#64)))) (by kernel_rfl) (congrArg (Value.int .u32) (wrap32_s (rd &&& 31#64)))) ?_
  obtain ⟨a6, e6⟩ : ∃ z, (((rd &&& 31#64) &&& 4294967295#64) <<< 7) &&& 4294967295#64 = z := ⟨_, rfl⟩
  refine Kw.pure (.int .u32 (u a6)) (by kernel_rfl) (Kw.eqv (v := .int .u32 (IntKind.u32.wrap ((u ((rd &&& 31#64) &&& 4294967295#64)) * 2 ^ 7))) (by kernel_rfl) ((congrArg (Value.int .u32) (wrap32_shl ((rd &&& 31#64) &&& 4294967295#64) 7 (by omega))).trans (congrArg (fun z => Value.int .u32 (u z)) e6))) ?_
  refine KS.p (.int .u32 (u a6)) ?_
  refine KS.n4 ?_
  refine KS.p (.pointer (some ⟨B1, 2, none⟩)) ?_
  refine KS.l 3 B1 2 (.int .i64 (s rs1)) M4 2 Try.underlying3 ?_
  refine Kw.pure (.int .i64 (s (rs1 &&& 31#64))) (by kernel_rfl) (Kw.eqv (v := .int .i64 (Go.bits .and .i64 ((s rs1)) ((31 : Int)))) (by kernel_rfl) (congrArg (Value.int .i64) (bits_andi rs1 31#64))) ?_
  refine Kw.pure (.int .u32 (u ((rs1 &&& 31#64) &&& 4294967295#64))) (by kernel_rfl) (Kw.eqv (v := .int .u32 (IntKind.u32.wrap (s (rs1 &&& 31#64)))) (by kernel_rfl) (congrArg (Value.int .u32) (wrap32_s (rs1 &&& 31#64)))) ?_
  obtain ⟨a7, e7⟩ : ∃ z, (((rs1 &&& 31#64) &&& 4294967295#64) <<< 15) &&& 4294967295#64 = z := ⟨_, rfl⟩
  refine Kw.pure (.int .u32 (u a7)) (by kernel_rfl) (Kw.eqv (v := .int .u32 (IntKind.u32.wrap ((u ((rs1 &&& 31#64) &&& 4294967295#64)) * 2 ^ 15))) (by kernel_rfl) ((congrArg (Value.int .u32) (wrap32_shl ((rs1 &&& 31#64) &&& 4294967295#64) 15 (by omega))).trans (congrArg (fun z => Value.int .u32 (u z)) e7))) ?_
  refine KS.p (.int .u32 (u a7)) ?_
  refine KS.n4 ?_
  refine KS.p (.pointer (some ⟨B1, 3, none⟩)) ?_
  refine KS.l 3 B1 3 (.int .i64 (s rs2)) M4 2 Try.underlying3 ?_
  refine Kw.pure (.int .i64 (s (rs2 &&& 31#64))) (by kernel_rfl) (Kw.eqv (v := .int .i64 (Go.bits .and .i64 ((s rs2)) ((31 : Int)))) (by kernel_rfl) (congrArg (Value.int .i64) (bits_andi rs2 31#64))) ?_
  refine Kw.pure (.int .u32 (u ((rs2 &&& 31#64) &&& 4294967295#64))) (by kernel_rfl) (Kw.eqv (v := .int .u32 (IntKind.u32.wrap (s (rs2 &&& 31#64)))) (by kernel_rfl) (congrArg (Value.int .u32) (wrap32_s (rs2 &&& 31#64)))) ?_
  obtain ⟨a8, e8⟩ : ∃ z, (((rs2 &&& 31#64) &&& 4294967295#64) <<< 20) &&& 4294967295#64 = z := ⟨_, rfl⟩
  refine Kw.pure (.int .u32 (u a8)) (by kernel_rfl) (Kw.eqv (v := .int .u32 (IntKind.u32.wrap ((u ((rs2 &&& 31#64) &&& 4294967295#64)) * 2 ^ 20))) (by kernel_rfl) ((congrArg (Value.int .u32) (wrap32_shl ((rs2 &&& 31#64) &&& 4294967295#64) 20 (by omega))).trans (congrArg (fun z => Value.int .u32 (u z)) e8))) ?_
  refine KS.p (.int .u32 (u a8)) ?_
  refine KS.n5 ?_
  refine KS.p (.pointer (some ⟨B3, 1, none⟩)) ?_
  refine KS.l 5 B3 1 (.int .u8 71) M4 0 Try.underlying5 ?_
  refine Kw.fin (Kw.then_normal (wp_block (wp_seq (Kw.region ?_))))
  refine KS.p (.bool false) ?_
  refine KS.p (.bool false) ?_
  refine KS.n2 ?_
  refine wp_cond_false (by kernel_rfl) ?_
  refine wp_seq (Kw.region ?_)
  refine KS.p (.bool true) ?_
  refine KS.p (.bool true) ?_
  refine KS.n2 ?_
  refine wp_cond_true (by kernel_rfl) ?_
  refine wp_seq ?_
  refine Canon.region_canon (I := fun w => Kw.Mem [] W w [(B3, #[.string (nm k), .int .u8 71, .int .u32 (u (cd k)), .int .u32 (u (ff k)), .int .u32 (u (ot k))], 79), (B2, rows32, 79), (B1, #[.int .i64 ((k + 1 : Nat) : Int), .int .i64 (s rd), .int .i64 (s rs1), .int .i64 (s rs2), .int .i64 (s imm)], 41)]) (by kernel_rfl) (by decide +kernel) M4.drew' ?_
  refine KS.q (.int .u32 (u a5)) ?_
  refine KS.q (.int .u32 (u a6)) ?_
  refine Canon.pure (.int .u32 (u ((a5 + a6) &&& 4294967295#64))) (by kernel_rfl) (fun w => Kw.eqv (v := .int .u32 (IntKind.u32.wrap ((u a5) + (u a6)))) (by kernel_rfl) (congrArg (Value.int .u32) (wrap32_add a5 a6))) ?_
  refine KS.q (.int .u32 (u a7)) ?_
  obtain ⟨a9, e9⟩ : ∃ z, (((a5 + a6) &&& 4294967295#64) + a7) &&& 4294967295#64 = z := ⟨_, rfl⟩
  refine Canon.pure (.int .u32 (u a9)) (by kernel_rfl) (fun w => Kw.eqv (v := .int .u32 (IntKind.u32.wrap ((u ((a5 + a6) &&& 4294967295#64)) + (u a7)))) (by kernel_rfl) ((congrArg (Value.int .u32) (wrap32_add ((a5 + a6) &&& 4294967295#64) a7)).trans (congrArg (fun z => Value.int .u32 (u z)) e9))) ?_
  refine KS.q (.pointer (some ⟨B3, 4, none⟩)) ?_
  refine KS.ql 37 B3 4 (.int .u32 (u (ot k))) 0 Try.underlying37 ?_
  refine Canon.pure (.int .u32 (u (((ot k) <<< 20) &&& 4294967295#64))) (by kernel_rfl) (fun w => Kw.eqv (v := .int .u32 (IntKind.u32.wrap ((u (ot k)) * 2 ^ 20))) (by kernel_rfl) (congrArg (Value.int .u32) (wrap32_shl (ot k) 20 (by omega)))) ?_
  obtain ⟨a10, e10⟩ : ∃ z, (a9 + (((ot k) <<< 20) &&& 4294967295#64)) &&& 4294967295#64 = z := ⟨_, rfl⟩
  refine Canon.pure (.int .u32 (u a10)) (by kernel_rfl) (fun w => Kw.eqv (v := .int .u32 (IntKind.u32.wrap ((u a9) + (u (((ot k) <<< 20) &&& 4294967295#64))))) (by kernel_rfl) ((congrArg (Value.int .u32) (wrap32_add a9 (((ot k) <<< 20) &&& 4294967295#64))).trans (congrArg (fun z => Value.int .u32 (u z)) e10))) ?_
  refine Canon.pure (.int .u32 (u ((a10 + 4261412864#64) &&& 4294967295#64))) (by kernel_rfl) (fun w => Kw.eqv (v := .int .u32 (IntKind.u32.wrap ((u a10) + (4261412864 : Int)))) (by kernel_rfl) (congrArg (Value.int .u32) (wrap32_add a10 4261412864#64))) ?_
  refine KS.q (.pointer (some ⟨B1, 1, none⟩)) ?_
  refine KS.ql 3 B1 1 (.int .i64 (s rd)) 2 Try.underlying3 ?_
  refine Canon.call (.bool (fitsI rd 5 false)) 50 #[.int .i64 (s rd)] (by kernel_rfl) (fun w => by kernel_rfl) (fun w hw => (reg_c rd w).mono fun r w1 ⟨he, hb⟩ => ⟨he, hw.call hb⟩) ?_
  rcases Bool.eq_false_or_eq_true ((fitsI rd 5 false)) with h11 | h11
  · skip
    refine Canon.pure (.bool true) (by kernel_rfl) (fun w => Kw.eqv (v := .bool ((fitsI rd 5 false))) (by kernel_rfl) (congrArg Value.bool h11)) ?_
    refine KS.q (.pointer (some ⟨B1, 2, none⟩)) ?_
    refine KS.ql 3 B1 2 (.int .i64 (s rs1)) 2 Try.underlying3 ?_
    refine Canon.call (.bool (fitsI rs1 5 false)) 50 #[.int .i64 (s rs1)] (by kernel_rfl) (fun w => by kernel_rfl) (fun w hw => (reg_c rs1 w).mono fun r w1 ⟨he, hb⟩ => ⟨he, hw.call hb⟩) ?_
    refine KS.q (.bool (fitsI rs1 5 false)) ?_
    refine KS.q (.int .u32 (u ((a10 + 4261412864#64) &&& 4294967295#64))) ?_
    refine KS.q (.bool (fitsI rs1 5 false)) ?_
    refine Canon.fin fun w12 M12 => ?_
    refine Kw.then_normal (wp_ret (Kw.block_ret (Kw.then_ret ?_)))
    exact bodyPost_ret (v := .tuple #[.int .u32 (u ((a10 + 4261412864#64) &&& 4294967295#64)), .bool (fitsI rs1 5 false)]) (by kernel_rfl) (by kernel_rfl) ⟨ret2 (by subst e5 e6 e7 e9 e10; exact sum_G k hk hs rd rs1 rs2 imm) (by simp [h11]), M12.drop⟩
  · skip
    refine Canon.pure (.bool false) (by kernel_rfl) (fun w => Kw.eqv (v := .bool ((fitsI rd 5 false))) (by kernel_rfl) (congrArg Value.bool h11)) ?_
    refine KS.qk ?_
    refine KS.qk ?_
    refine KS.qk ?_
    refine KS.q (.bool false) ?_
    refine KS.q (.int .u32 (u ((a10 + 4261412864#64) &&& 4294967295#64))) ?_
    refine KS.q (.bool false) ?_
    refine Canon.fin fun w13 M13 => ?_
    refine Kw.then_normal (wp_ret (Kw.block_ret (Kw.then_ret ?_)))
    exact bodyPost_ret (v := .tuple #[.int .u32 (u ((a10 + 4261412864#64) &&& 4294967295#64)), .bool false]) (by kernel_rfl) (by kernel_rfl) ⟨ret2 (by subst e5 e6 e7 e9 e10; exact sum_G k hk hs rd rs1 rs2 imm) (by simp [h11]), M13.drop⟩
set_option maxHeartbeats 8000000 in
set_option maxRecDepth 100000 in
theorem renc_I (k : Nat) (hk : k < 69) (hs : sh k = 73) (rd rs1 rs2 imm : BitVec 64) (W : World) : Calls Try.prog 26 #[.agg #[.int .i64 ((k + 1 : Nat) : Int), .int .i64 (s rd), .int .i64 (s rs1), .int .i64 (s rs2), .int .i64 (s imm)]] W fun e W' => e = .returned (.tuple #[.int .u32 (u (word_I k rd rs1 rs2 imm &&& 4294967295#64)), .bool (fitB_I imm && fitsI rd 5 false && fitsI rs1 5 false)]) ∧ Kw.Mem [] W W' [] := by
  refine calls_of_wp Try.func26 rfl ?_
  have M0 : Kw.Mem [] W W [] := Kw.Mem.start _ _
  refine Kw.to (b := ⟨#[.agg #[.int .i64 ((k + 1 : Nat) : Int), .int .i64 (s rd), .int .i64 (s rs1), .int .i64 (s rs2), .int .i64 (s imm)], undef, undef, undef, undef, undef, undef, undef, undef, undef, undef, undef, undef, undef, undef, undef, undef, undef, undef, undef, undef, undef, undef, undef, undef, undef, undef, undef, undef, undef, undef, undef, undef, undef, undef, undef, undef, undef, undef, undef, undef, undef, undef, undef, undef, undef, undef, undef, undef, undef, undef, undef, undef, undef, undef, undef, undef, undef, undef, undef, undef, undef, undef, undef, undef, undef, undef, undef, undef, undef, undef, undef, undef, undef, undef, undef, undef, undef, undef, undef, undef, undef, undef, undef, undef, undef, undef, undef, undef, undef, undef, undef, undef, undef, undef, undef, undef, undef, undef, undef, undef, undef, undef, undef, undef, undef, undef, undef, undef, undef, undef, undef, undef, undef, undef, undef, undef, undef, undef, undef, undef, undef, undef, undef, undef, undef, undef, undef, undef, undef, undef, undef, undef, undef, undef, undef, undef, undef, undef, undef, undef, undef, undef, undef, undef, undef, undef, undef, undef, undef, undef, undef, undef, undef, undef, undef, undef, undef, undef, undef, undef, undef, undef, undef, undef, undef, undef, undef, undef, undef, undef, undef, undef, undef, undef, undef, undef, undef, undef, undef, undef, undef, undef, undef, undef, undef, undef, undef, undef, undef, undef, undef, undef, undef, undef, undef, undef, undef, undef, undef, undef, undef, undef, undef, undef, undef, undef, undef, undef, undef, undef, undef, undef, undef, undef, undef, undef, undef, undef, undef, undef, undef, undef, undef, undef, undef, undef, undef, undef, undef, undef, undef, undef, undef, undef, undef, undef, undef, undef, undef, undef, undef, undef, undef, undef, undef, undef, undef, undef, undef, undef, undef, undef, undef, undef, undef, undef, undef, undef, undef, undef, undef, undef, undef, undef, undef, undef, undef, undef], []⟩) (by kernel_rfl) ?_
  refine wp_seq (Kw.region ?_)
  refine Kw.alloc #[.int .i64 ((k + 1 : Nat) : Int), .int .i64 (s rd), .int .i64 (s rs1), .int .i64 (s rs2), .int .i64 (s imm)] 41 M0 (by kernel_rfl) (by kernel_rfl) fun w1 B1 M1 => ?_
  refine KS.p (.int .u32 0) ?_
  refine KS.p (.bool false) ?_
  refine KS.n4 ?_
  refine Held.callN (fun B => (.slice (some ⟨B, 0, none⟩) 69 69)) 49 #[] rows32 79 M1 (by kernel_rfl) (by kernel_rfl) (rows32_c w1) fun w2 B2 M2 => ?_
  refine KS.p (.slice (some ⟨B2, 0, none⟩) 69 69) ?_
  refine KS.n5 ?_
  refine KS.p (.pointer (some ⟨B1, 0, none⟩)) ?_
  refine KS.l 3 B1 0 (.int .i64 ((k + 1 : Nat) : Int)) M2 1 Try.underlying3 ?_
  refine Kw.pure (.bool false) (by kernel_rfl) (Kw.eqv (v := .bool (decide (((k + 1 : Nat) : Int) < (1 : Int)))) (by kernel_rfl) (by rw [decide_eq_false (by omega)])) ?_
  refine KS.p (.bool false) ?_
  refine KS.p (.pointer (some ⟨B1, 0, none⟩)) ?_
  refine KS.l 3 B1 0 (.int .i64 ((k + 1 : Nat) : Int)) M2 1 Try.underlying3 ?_
  refine KS.p (.slice (some ⟨B2, 0, none⟩) 69 69) ?_
  refine KS.p (.int .i64 69) ?_
  refine Kw.pure (.bool false) (by kernel_rfl) (Kw.eqv (v := .bool (decide (((k + 1 : Nat) : Int) > (69 : Int)))) (by kernel_rfl) (by rw [decide_eq_false (by omega)])) ?_
  refine KS.p (.bool false) ?_
  refine KS.n2 ?_
  refine wp_cond_false (by kernel_rfl) ?_
  refine wp_skip (Kw.then_normal (wp_seq (Kw.region ?_)))
  refine KS.p (.slice (some ⟨B2, 0, none⟩) 69 69) ?_
  refine KS.p (.pointer (some ⟨B1, 0, none⟩)) ?_
  refine KS.l 3 B1 0 (.int .i64 ((k + 1 : Nat) : Int)) M2 1 Try.underlying3 ?_
  refine Kw.pure (.int .i64 ((k : Nat) : Int)) (by kernel_rfl) (Kw.eqv (v := .int .i64 (IntKind.i64.wrap (((k + 1 : Nat) : Int) - (1 : Int)))) (by kernel_rfl) (by rw [IntWalk.i64_in _ (by omega)]; congr 1; omega)) ?_
  refine KS.s (Sl.ixaS 76 (.slice (some ⟨B2, 0, none⟩) 69 69) (.int .i64 ((k : Nat) : Int))) (.pointer (some ⟨B2, 0 + k * 5, none⟩)) (Sl.ixa Try.underlying76 (by kernel_rfl) B2 0 69 69 k hk w2) ?_
  refine KS.s (Canon.ldS 79 (.pointer (some ⟨B2, 0 + k * 5, none⟩))) (.agg #[.string (nm k), .int .u8 73, .int .u32 (u (cd k)), .int .u32 (u (ff k)), .int .u32 (u (ot k))]) (Kw.ld_mid 79 (0 + k * 5) [.string (nm k), .int .u8 73, .int .u32 (u (cd k)), .int .u32 (u (ff k)), .int .u32 (u (ot k))] (M2.get 0 rfl) (row32_s k hk hs) _ Try.underlying79 rfl (by kernel_rfl)) ?_
  refine Kw.alloc #[.string ⟨#[]⟩, .int .u8 0, .int .u32 0, .int .u32 0, .int .u32 0] 79 M2 (by kernel_rfl) (by kernel_rfl) fun w3 B3 M3 => ?_
  refine Kw.storeAll 0 79 #[.string (nm k), .int .u8 73, .int .u32 (u (cd k)), .int .u32 (u (ff k)), .int .u32 (u (ot k))] M3 rfl (by kernel_rfl) (by kernel_rfl) (Eq.trans (b := 5) (by kernel_rfl) (by kernel_rfl)) (by kernel_rfl) (by kernel_rfl) fun w4 M4 => ?_
  refine KS.n4 ?_
  refine KS.p (.pointer (some ⟨B1, 4, none⟩)) ?_
  refine KS.l 2 B1 4 (.int .i64 (s imm)) M4 2 Try.underlying2 ?_
  refine KS.p (.int .i64 (s imm)) ?_
  refine KS.n4 ?_
  refine KS.p (.pointer (some ⟨B3, 2, none⟩)) ?_
  refine KS.l 37 B3 2 (.int .u32 (u (cd k))) M4 0 Try.underlying37 ?_
  refine KS.p (.pointer (some ⟨B3, 3, none⟩)) ?_
  refine KS.l 37 B3 3 (.int .u32 (u (ff k))) M4 0 Try.underlying37 ?_
  refine Kw.pure (.int .u32 (u (((ff k) <<< 12) &&& 4294967295#64))) (by kernel_rfl) (Kw.eqv (v := .int .u32 (IntKind.u32.wrap ((u (ff k)) * 2 ^ 12))) (by kernel_rfl) (congrArg (Value.int .u32) (wrap32_shl (ff k) 12 (by omega)))) ?_
  obtain ⟨a5, e5⟩ : ∃ z, ((cd k) + (((ff k) <<< 12) &&& 4294967295#64)) &&& 4294967295#64 = z := ⟨_, rfl⟩
  refine Kw.pure (.int .u32 (u a5)) (by kernel_rfl) (Kw.eqv (v := .int .u32 (IntKind.u32.wrap ((u (cd k)) + (u (((ff k) <<< 12) &&& 4294967295#64))))) (by kernel_rfl) ((congrArg (Value.int .u32) (wrap32_add (cd k) (((ff k) <<< 12) &&& 4294967295#64))).trans (congrArg (fun z => Value.int .u32 (u z)) e5))) ?_
  refine KS.p (.int .u32 (u a5)) ?_
  refine KS.n4 ?_
  refine KS.p (.pointer (some ⟨B1, 1, none⟩)) ?_
  refine KS.l 3 B1 1 (.int .i64 (s rd)) M4 2 Try.underlying3 ?_
  refine Kw.pure (.int .i64 (s (rd &&& 31#64))) (by kernel_rfl) (Kw.eqv (v := .int .i64 (Go.bits .and .i64 ((s rd)) ((31 : Int)))) (by kernel_rfl) (congrArg (Value.int .i64) (bits_andi rd 31#64))) ?_
  refine Kw.pure (.int .u32 (u ((rd &&& 31#64) &&& 4294967295#64))) (by kernel_rfl) (Kw.eqv (v := .int .u32 (IntKind.u32.wrap (s (rd &&& 31#64)))) (by kernel_rfl) (congrArg (Value.int .u32) (wrap32_s (rd &&& 31#64)))) ?_
  obtain ⟨a6, e6⟩ : ∃ z, (((rd &&& 31#64) &&& 4294967295#64) <<< 7) &&& 4294967295#64 = z := ⟨_, rfl⟩
  refine Kw.pure (.int .u32 (u a6)) (by kernel_rfl) (Kw.eqv (v := .int .u32 (IntKind.u32.wrap ((u ((rd &&& 31#64) &&& 4294967295#64)) * 2 ^ 7))) (by kernel_rfl) ((congrArg (Value.int .u32) (wrap32_shl ((rd &&& 31#64) &&& 4294967295#64) 7 (by omega))).trans (congrArg (fun z => Value.int .u32 (u z)) e6))) ?_
  refine KS.p (.int .u32 (u a6)) ?_
  refine KS.n4 ?_
  refine KS.p (.pointer (some ⟨B1, 2, none⟩)) ?_
  refine KS.l 3 B1 2 (.int .i64 (s rs1)) M4 2 Try.underlying3 ?_
  refine Kw.pure (.int .i64 (s (rs1 &&& 31#64))) (by kernel_rfl) (Kw.eqv (v := .int .i64 (Go.bits .and .i64 ((s rs1)) ((31 : Int)))) (by kernel_rfl) (congrArg (Value.int .i64) (bits_andi rs1 31#64))) ?_
  refine Kw.pure (.int .u32 (u ((rs1 &&& 31#64) &&& 4294967295#64))) (by kernel_rfl) (Kw.eqv (v := .int .u32 (IntKind.u32.wrap (s (rs1 &&& 31#64)))) (by kernel_rfl) (congrArg (Value.int .u32) (wrap32_s (rs1 &&& 31#64)))) ?_
  obtain ⟨a7, e7⟩ : ∃ z, (((rs1 &&& 31#64) &&& 4294967295#64) <<< 15) &&& 4294967295#64 = z := ⟨_, rfl⟩
  refine Kw.pure (.int .u32 (u a7)) (by kernel_rfl) (Kw.eqv (v := .int .u32 (IntKind.u32.wrap ((u ((rs1 &&& 31#64) &&& 4294967295#64)) * 2 ^ 15))) (by kernel_rfl) ((congrArg (Value.int .u32) (wrap32_shl ((rs1 &&& 31#64) &&& 4294967295#64) 15 (by omega))).trans (congrArg (fun z => Value.int .u32 (u z)) e7))) ?_
  refine KS.p (.int .u32 (u a7)) ?_
  refine KS.n4 ?_
  refine KS.p (.pointer (some ⟨B1, 3, none⟩)) ?_
  refine KS.l 3 B1 3 (.int .i64 (s rs2)) M4 2 Try.underlying3 ?_
  refine Kw.pure (.int .i64 (s (rs2 &&& 31#64))) (by kernel_rfl) (Kw.eqv (v := .int .i64 (Go.bits .and .i64 ((s rs2)) ((31 : Int)))) (by kernel_rfl) (congrArg (Value.int .i64) (bits_andi rs2 31#64))) ?_
  refine Kw.pure (.int .u32 (u ((rs2 &&& 31#64) &&& 4294967295#64))) (by kernel_rfl) (Kw.eqv (v := .int .u32 (IntKind.u32.wrap (s (rs2 &&& 31#64)))) (by kernel_rfl) (congrArg (Value.int .u32) (wrap32_s (rs2 &&& 31#64)))) ?_
  obtain ⟨a8, e8⟩ : ∃ z, (((rs2 &&& 31#64) &&& 4294967295#64) <<< 20) &&& 4294967295#64 = z := ⟨_, rfl⟩
  refine Kw.pure (.int .u32 (u a8)) (by kernel_rfl) (Kw.eqv (v := .int .u32 (IntKind.u32.wrap ((u ((rs2 &&& 31#64) &&& 4294967295#64)) * 2 ^ 20))) (by kernel_rfl) ((congrArg (Value.int .u32) (wrap32_shl ((rs2 &&& 31#64) &&& 4294967295#64) 20 (by omega))).trans (congrArg (fun z => Value.int .u32 (u z)) e8))) ?_
  refine KS.p (.int .u32 (u a8)) ?_
  refine KS.n5 ?_
  refine KS.p (.pointer (some ⟨B3, 1, none⟩)) ?_
  refine KS.l 5 B3 1 (.int .u8 73) M4 0 Try.underlying5 ?_
  refine Kw.fin (Kw.then_normal (wp_block (wp_seq (Kw.region ?_))))
  refine KS.p (.bool false) ?_
  refine KS.p (.bool false) ?_
  refine KS.n2 ?_
  refine wp_cond_false (by kernel_rfl) ?_
  refine wp_seq (Kw.region ?_)
  refine KS.p (.bool false) ?_
  refine KS.p (.bool false) ?_
  refine KS.n2 ?_
  refine wp_cond_false (by kernel_rfl) ?_
  refine wp_seq (Kw.region ?_)
  refine KS.p (.bool false) ?_
  refine KS.p (.bool false) ?_
  refine KS.n2 ?_
  refine wp_cond_false (by kernel_rfl) ?_
  refine wp_seq (wp_seq (Kw.region ?_))
  refine KS.p (.bool true) ?_
  refine KS.p (.bool true) ?_
  refine KS.n2 ?_
  refine wp_cond_true (by kernel_rfl) ?_
  refine wp_skip (Kw.then_normal ?_)
  refine wp_cond_true (by kernel_rfl) ?_
  refine wp_seq ?_
  refine Canon.region_canon (I := fun w => Kw.Mem [] W w [(B3, #[.string (nm k), .int .u8 73, .int .u32 (u (cd k)), .int .u32 (u (ff k)), .int .u32 (u (ot k))], 79), (B2, rows32, 79), (B1, #[.int .i64 ((k + 1 : Nat) : Int), .int .i64 (s rd), .int .i64 (s rs1), .int .i64 (s rs2), .int .i64 (s imm)], 41)]) (by kernel_rfl) (by decide +kernel) M4.drew' ?_
  refine KS.q (.int .u32 (u a5)) ?_
  refine KS.q (.int .u32 (u a6)) ?_
  refine Canon.pure (.int .u32 (u ((a5 + a6) &&& 4294967295#64))) (by kernel_rfl) (fun w => Kw.eqv (v := .int .u32 (IntKind.u32.wrap ((u a5) + (u a6)))) (by kernel_rfl) (congrArg (Value.int .u32) (wrap32_add a5 a6))) ?_
  refine KS.q (.int .u32 (u a7)) ?_
  obtain ⟨a9, e9⟩ : ∃ z, (((a5 + a6) &&& 4294967295#64) + a7) &&& 4294967295#64 = z := ⟨_, rfl⟩
  refine Canon.pure (.int .u32 (u a9)) (by kernel_rfl) (fun w => Kw.eqv (v := .int .u32 (IntKind.u32.wrap ((u ((a5 + a6) &&& 4294967295#64)) + (u a7)))) (by kernel_rfl) ((congrArg (Value.int .u32) (wrap32_add ((a5 + a6) &&& 4294967295#64) a7)).trans (congrArg (fun z => Value.int .u32 (u z)) e9))) ?_
  refine KS.q (.int .i64 (s imm)) ?_
  refine Canon.call (.int .u32 (u ((getI imm 0 12 <<< 20) &&& 4294967295#64))) 51 #[.int .i64 (s imm), .int .i64 0, .int .i64 12, .int .i64 20] (by kernel_rfl) (fun w => by kernel_rfl) (fun w hw => (bits_n imm 0 12 20 (by decide) w).mono fun r w1 ⟨he, hb⟩ => ⟨he, hw.call hb⟩) ?_
  obtain ⟨a10, e10⟩ : ∃ z, (a9 + ((getI imm 0 12 <<< 20) &&& 4294967295#64)) &&& 4294967295#64 = z := ⟨_, rfl⟩
  refine Canon.pure (.int .u32 (u a10)) (by kernel_rfl) (fun w => Kw.eqv (v := .int .u32 (IntKind.u32.wrap ((u a9) + (u ((getI imm 0 12 <<< 20) &&& 4294967295#64))))) (by kernel_rfl) ((congrArg (Value.int .u32) (wrap32_add a9 ((getI imm 0 12 <<< 20) &&& 4294967295#64))).trans (congrArg (fun z => Value.int .u32 (u z)) e10))) ?_
  refine KS.q (.pointer (some ⟨B1, 1, none⟩)) ?_
  refine KS.ql 3 B1 1 (.int .i64 (s rd)) 2 Try.underlying3 ?_
  refine Canon.call (.bool (fitsI rd 5 false)) 50 #[.int .i64 (s rd)] (by kernel_rfl) (fun w => by kernel_rfl) (fun w hw => (reg_c rd w).mono fun r w1 ⟨he, hb⟩ => ⟨he, hw.call hb⟩) ?_
  rcases Bool.eq_false_or_eq_true ((fitsI rd 5 false)) with h11 | h11
  · skip
    refine Canon.pure (.bool true) (by kernel_rfl) (fun w => Kw.eqv (v := .bool ((fitsI rd 5 false))) (by kernel_rfl) (congrArg Value.bool h11)) ?_
    refine KS.q (.pointer (some ⟨B1, 2, none⟩)) ?_
    refine KS.ql 3 B1 2 (.int .i64 (s rs1)) 2 Try.underlying3 ?_
    refine Canon.call (.bool (fitsI rs1 5 false)) 50 #[.int .i64 (s rs1)] (by kernel_rfl) (fun w => by kernel_rfl) (fun w hw => (reg_c rs1 w).mono fun r w1 ⟨he, hb⟩ => ⟨he, hw.call hb⟩) ?_
    refine KS.q (.bool (fitsI rs1 5 false)) ?_
    rcases Bool.eq_false_or_eq_true ((fitsI rs1 5 false)) with h12 | h12
    · skip
      refine Canon.pure (.bool true) (by kernel_rfl) (fun w => Kw.eqv (v := .bool ((fitsI rs1 5 false))) (by kernel_rfl) (congrArg Value.bool h12)) ?_
      refine KS.q (.int .i64 (s imm)) ?_
      refine KS.q (.pointer (some ⟨B3, 1, none⟩)) ?_
      refine KS.ql 5 B3 1 (.int .u8 73) 0 Try.underlying5 ?_
      refine KS.q (.bool true) ?_
      refine Canon.call (.bool (fitsI imm 12 true)) 52 #[.int .i64 (s imm), .int .i64 12, .bool true] (by kernel_rfl) (fun w => by kernel_rfl) (fun w hw => (rfits_c imm 12 true w).mono fun r w1 ⟨he, hb⟩ => ⟨he, hw.call hb⟩) ?_
      refine KS.q (.bool (fitsI imm 12 true)) ?_
      refine KS.q (.int .u32 (u a10)) ?_
      refine KS.q (.bool (fitsI imm 12 true)) ?_
      refine Canon.fin fun w13 M13 => ?_
      refine Kw.then_normal (wp_ret (Kw.block_ret (Kw.then_ret ?_)))
      exact bodyPost_ret (v := .tuple #[.int .u32 (u a10), .bool (fitsI imm 12 true)]) (by kernel_rfl) (by kernel_rfl) ⟨ret2 (by subst e5 e6 e7 e9 e10; exact sum_I k hk hs rd rs1 rs2 imm) (by simp [fitB_I, low0, h11, h12]), M13.drop⟩
    · skip
      refine Canon.pure (.bool false) (by kernel_rfl) (fun w => Kw.eqv (v := .bool ((fitsI rs1 5 false))) (by kernel_rfl) (congrArg Value.bool h12)) ?_
      refine KS.qk ?_
      refine KS.qk ?_
      refine KS.qk ?_
      refine KS.qk ?_
      refine KS.qk ?_
      refine KS.q (.bool false) ?_
      refine KS.q (.int .u32 (u a10)) ?_
      refine KS.q (.bool false) ?_
      refine Canon.fin fun w14 M14 => ?_
      refine Kw.then_normal (wp_ret (Kw.block_ret (Kw.then_ret ?_)))
      exact bodyPost_ret (v := .tuple #[.int .u32 (u a10), .bool false]) (by kernel_rfl) (by kernel_rfl) ⟨ret2 (by subst e5 e6 e7 e9 e10; exact sum_I k hk hs rd rs1 rs2 imm) (by simp [fitB_I, low0, h11, h12]), M14.drop⟩
  · skip
    refine Canon.pure (.bool false) (by kernel_rfl) (fun w => Kw.eqv (v := .bool ((fitsI rd 5 false))) (by kernel_rfl) (congrArg Value.bool h11)) ?_
    refine KS.qk ?_
    refine KS.qk ?_
    refine KS.qk ?_
    refine KS.q (.bool false) ?_
    refine KS.q (.bool false) ?_
    refine KS.qk ?_
    refine KS.qk ?_
    refine KS.qk ?_
    refine KS.qk ?_
    refine KS.qk ?_
    refine KS.q (.bool false) ?_
    refine KS.q (.int .u32 (u a10)) ?_
    refine KS.q (.bool false) ?_
    refine Canon.fin fun w15 M15 => ?_
    refine Kw.then_normal (wp_ret (Kw.block_ret (Kw.then_ret ?_)))
    exact bodyPost_ret (v := .tuple #[.int .u32 (u a10), .bool false]) (by kernel_rfl) (by kernel_rfl) ⟨ret2 (by subst e5 e6 e7 e9 e10; exact sum_I k hk hs rd rs1 rs2 imm) (by simp [fitB_I, low0, h11]), M15.drop⟩
set_option maxHeartbeats 8000000 in
set_option maxRecDepth 100000 in
theorem renc_C (k : Nat) (hk : k < 69) (hs : sh k = 67) (rd rs1 rs2 imm : BitVec 64) (W : World) : Calls Try.prog 26 #[.agg #[.int .i64 ((k + 1 : Nat) : Int), .int .i64 (s rd), .int .i64 (s rs1), .int .i64 (s rs2), .int .i64 (s imm)]] W fun e W' => e = .returned (.tuple #[.int .u32 (u (word_C k rd rs1 rs2 imm &&& 4294967295#64)), .bool (fitB_C imm && fitsI rd 5 false && fitsI rs1 5 false)]) ∧ Kw.Mem [] W W' [] := by
  refine calls_of_wp Try.func26 rfl ?_
  have M0 : Kw.Mem [] W W [] := Kw.Mem.start _ _
  refine Kw.to (b := ⟨#[.agg #[.int .i64 ((k + 1 : Nat) : Int), .int .i64 (s rd), .int .i64 (s rs1), .int .i64 (s rs2), .int .i64 (s imm)], undef, undef, undef, undef, undef, undef, undef, undef, undef, undef, undef, undef, undef, undef, undef, undef, undef, undef, undef, undef, undef, undef, undef, undef, undef, undef, undef, undef, undef, undef, undef, undef, undef, undef, undef, undef, undef, undef, undef, undef, undef, undef, undef, undef, undef, undef, undef, undef, undef, undef, undef, undef, undef, undef, undef, undef, undef, undef, undef, undef, undef, undef, undef, undef, undef, undef, undef, undef, undef, undef, undef, undef, undef, undef, undef, undef, undef, undef, undef, undef, undef, undef, undef, undef, undef, undef, undef, undef, undef, undef, undef, undef, undef, undef, undef, undef, undef, undef, undef, undef, undef, undef, undef, undef, undef, undef, undef, undef, undef, undef, undef, undef, undef, undef, undef, undef, undef, undef, undef, undef, undef, undef, undef, undef, undef, undef, undef, undef, undef, undef, undef, undef, undef, undef, undef, undef, undef, undef, undef, undef, undef, undef, undef, undef, undef, undef, undef, undef, undef, undef, undef, undef, undef, undef, undef, undef, undef, undef, undef, undef, undef, undef, undef, undef, undef, undef, undef, undef, undef, undef, undef, undef, undef, undef, undef, undef, undef, undef, undef, undef, undef, undef, undef, undef, undef, undef, undef, undef, undef, undef, undef, undef, undef, undef, undef, undef, undef, undef, undef, undef, undef, undef, undef, undef, undef, undef, undef, undef, undef, undef, undef, undef, undef, undef, undef, undef, undef, undef, undef, undef, undef, undef, undef, undef, undef, undef, undef, undef, undef, undef, undef, undef, undef, undef, undef, undef, undef, undef, undef, undef, undef, undef, undef, undef, undef, undef, undef, undef, undef, undef, undef, undef, undef, undef, undef, undef, undef, undef, undef, undef, undef, undef, undef, undef, undef, undef, undef, undef], []⟩) (by kernel_rfl) ?_
  refine wp_seq (Kw.region ?_)
  refine Kw.alloc #[.int .i64 ((k + 1 : Nat) : Int), .int .i64 (s rd), .int .i64 (s rs1), .int .i64 (s rs2), .int .i64 (s imm)] 41 M0 (by kernel_rfl) (by kernel_rfl) fun w1 B1 M1 => ?_
  refine KS.p (.int .u32 0) ?_
  refine KS.p (.bool false) ?_
  refine KS.n4 ?_
  refine Held.callN (fun B => (.slice (some ⟨B, 0, none⟩) 69 69)) 49 #[] rows32 79 M1 (by kernel_rfl) (by kernel_rfl) (rows32_c w1) fun w2 B2 M2 => ?_
  refine KS.p (.slice (some ⟨B2, 0, none⟩) 69 69) ?_
  refine KS.n5 ?_
  refine KS.p (.pointer (some ⟨B1, 0, none⟩)) ?_
  refine KS.l 3 B1 0 (.int .i64 ((k + 1 : Nat) : Int)) M2 1 Try.underlying3 ?_
  refine Kw.pure (.bool false) (by kernel_rfl) (Kw.eqv (v := .bool (decide (((k + 1 : Nat) : Int) < (1 : Int)))) (by kernel_rfl) (by rw [decide_eq_false (by omega)])) ?_
  refine KS.p (.bool false) ?_
  refine KS.p (.pointer (some ⟨B1, 0, none⟩)) ?_
  refine KS.l 3 B1 0 (.int .i64 ((k + 1 : Nat) : Int)) M2 1 Try.underlying3 ?_
  refine KS.p (.slice (some ⟨B2, 0, none⟩) 69 69) ?_
  refine KS.p (.int .i64 69) ?_
  refine Kw.pure (.bool false) (by kernel_rfl) (Kw.eqv (v := .bool (decide (((k + 1 : Nat) : Int) > (69 : Int)))) (by kernel_rfl) (by rw [decide_eq_false (by omega)])) ?_
  refine KS.p (.bool false) ?_
  refine KS.n2 ?_
  refine wp_cond_false (by kernel_rfl) ?_
  refine wp_skip (Kw.then_normal (wp_seq (Kw.region ?_)))
  refine KS.p (.slice (some ⟨B2, 0, none⟩) 69 69) ?_
  refine KS.p (.pointer (some ⟨B1, 0, none⟩)) ?_
  refine KS.l 3 B1 0 (.int .i64 ((k + 1 : Nat) : Int)) M2 1 Try.underlying3 ?_
  refine Kw.pure (.int .i64 ((k : Nat) : Int)) (by kernel_rfl) (Kw.eqv (v := .int .i64 (IntKind.i64.wrap (((k + 1 : Nat) : Int) - (1 : Int)))) (by kernel_rfl) (by rw [IntWalk.i64_in _ (by omega)]; congr 1; omega)) ?_
  refine KS.s (Sl.ixaS 76 (.slice (some ⟨B2, 0, none⟩) 69 69) (.int .i64 ((k : Nat) : Int))) (.pointer (some ⟨B2, 0 + k * 5, none⟩)) (Sl.ixa Try.underlying76 (by kernel_rfl) B2 0 69 69 k hk w2) ?_
  refine KS.s (Canon.ldS 79 (.pointer (some ⟨B2, 0 + k * 5, none⟩))) (.agg #[.string (nm k), .int .u8 67, .int .u32 (u (cd k)), .int .u32 (u (ff k)), .int .u32 (u (ot k))]) (Kw.ld_mid 79 (0 + k * 5) [.string (nm k), .int .u8 67, .int .u32 (u (cd k)), .int .u32 (u (ff k)), .int .u32 (u (ot k))] (M2.get 0 rfl) (row32_s k hk hs) _ Try.underlying79 rfl (by kernel_rfl)) ?_
  refine Kw.alloc #[.string ⟨#[]⟩, .int .u8 0, .int .u32 0, .int .u32 0, .int .u32 0] 79 M2 (by kernel_rfl) (by kernel_rfl) fun w3 B3 M3 => ?_
  refine Kw.storeAll 0 79 #[.string (nm k), .int .u8 67, .int .u32 (u (cd k)), .int .u32 (u (ff k)), .int .u32 (u (ot k))] M3 rfl (by kernel_rfl) (by kernel_rfl) (Eq.trans (b := 5) (by kernel_rfl) (by kernel_rfl)) (by kernel_rfl) (by kernel_rfl) fun w4 M4 => ?_
  refine KS.n4 ?_
  refine KS.p (.pointer (some ⟨B1, 4, none⟩)) ?_
  refine KS.l 2 B1 4 (.int .i64 (s imm)) M4 2 Try.underlying2 ?_
  refine KS.p (.int .i64 (s imm)) ?_
  refine KS.n4 ?_
  refine KS.p (.pointer (some ⟨B3, 2, none⟩)) ?_
  refine KS.l 37 B3 2 (.int .u32 (u (cd k))) M4 0 Try.underlying37 ?_
  refine KS.p (.pointer (some ⟨B3, 3, none⟩)) ?_
  refine KS.l 37 B3 3 (.int .u32 (u (ff k))) M4 0 Try.underlying37 ?_
  refine Kw.pure (.int .u32 (u (((ff k) <<< 12) &&& 4294967295#64))) (by kernel_rfl) (Kw.eqv (v := .int .u32 (IntKind.u32.wrap ((u (ff k)) * 2 ^ 12))) (by kernel_rfl) (congrArg (Value.int .u32) (wrap32_shl (ff k) 12 (by omega)))) ?_
  obtain ⟨a5, e5⟩ : ∃ z, ((cd k) + (((ff k) <<< 12) &&& 4294967295#64)) &&& 4294967295#64 = z := ⟨_, rfl⟩
  refine Kw.pure (.int .u32 (u a5)) (by kernel_rfl) (Kw.eqv (v := .int .u32 (IntKind.u32.wrap ((u (cd k)) + (u (((ff k) <<< 12) &&& 4294967295#64))))) (by kernel_rfl) ((congrArg (Value.int .u32) (wrap32_add (cd k) (((ff k) <<< 12) &&& 4294967295#64))).trans (congrArg (fun z => Value.int .u32 (u z)) e5))) ?_
  refine KS.p (.int .u32 (u a5)) ?_
  refine KS.n4 ?_
  refine KS.p (.pointer (some ⟨B1, 1, none⟩)) ?_
  refine KS.l 3 B1 1 (.int .i64 (s rd)) M4 2 Try.underlying3 ?_
  refine Kw.pure (.int .i64 (s (rd &&& 31#64))) (by kernel_rfl) (Kw.eqv (v := .int .i64 (Go.bits .and .i64 ((s rd)) ((31 : Int)))) (by kernel_rfl) (congrArg (Value.int .i64) (bits_andi rd 31#64))) ?_
  refine Kw.pure (.int .u32 (u ((rd &&& 31#64) &&& 4294967295#64))) (by kernel_rfl) (Kw.eqv (v := .int .u32 (IntKind.u32.wrap (s (rd &&& 31#64)))) (by kernel_rfl) (congrArg (Value.int .u32) (wrap32_s (rd &&& 31#64)))) ?_
  obtain ⟨a6, e6⟩ : ∃ z, (((rd &&& 31#64) &&& 4294967295#64) <<< 7) &&& 4294967295#64 = z := ⟨_, rfl⟩
  refine Kw.pure (.int .u32 (u a6)) (by kernel_rfl) (Kw.eqv (v := .int .u32 (IntKind.u32.wrap ((u ((rd &&& 31#64) &&& 4294967295#64)) * 2 ^ 7))) (by kernel_rfl) ((congrArg (Value.int .u32) (wrap32_shl ((rd &&& 31#64) &&& 4294967295#64) 7 (by omega))).trans (congrArg (fun z => Value.int .u32 (u z)) e6))) ?_
  refine KS.p (.int .u32 (u a6)) ?_
  refine KS.n4 ?_
  refine KS.p (.pointer (some ⟨B1, 2, none⟩)) ?_
  refine KS.l 3 B1 2 (.int .i64 (s rs1)) M4 2 Try.underlying3 ?_
  refine Kw.pure (.int .i64 (s (rs1 &&& 31#64))) (by kernel_rfl) (Kw.eqv (v := .int .i64 (Go.bits .and .i64 ((s rs1)) ((31 : Int)))) (by kernel_rfl) (congrArg (Value.int .i64) (bits_andi rs1 31#64))) ?_
  refine Kw.pure (.int .u32 (u ((rs1 &&& 31#64) &&& 4294967295#64))) (by kernel_rfl) (Kw.eqv (v := .int .u32 (IntKind.u32.wrap (s (rs1 &&& 31#64)))) (by kernel_rfl) (congrArg (Value.int .u32) (wrap32_s (rs1 &&& 31#64)))) ?_
  obtain ⟨a7, e7⟩ : ∃ z, (((rs1 &&& 31#64) &&& 4294967295#64) <<< 15) &&& 4294967295#64 = z := ⟨_, rfl⟩
  refine Kw.pure (.int .u32 (u a7)) (by kernel_rfl) (Kw.eqv (v := .int .u32 (IntKind.u32.wrap ((u ((rs1 &&& 31#64) &&& 4294967295#64)) * 2 ^ 15))) (by kernel_rfl) ((congrArg (Value.int .u32) (wrap32_shl ((rs1 &&& 31#64) &&& 4294967295#64) 15 (by omega))).trans (congrArg (fun z => Value.int .u32 (u z)) e7))) ?_
  refine KS.p (.int .u32 (u a7)) ?_
  refine KS.n4 ?_
  refine KS.p (.pointer (some ⟨B1, 3, none⟩)) ?_
  refine KS.l 3 B1 3 (.int .i64 (s rs2)) M4 2 Try.underlying3 ?_
  refine Kw.pure (.int .i64 (s (rs2 &&& 31#64))) (by kernel_rfl) (Kw.eqv (v := .int .i64 (Go.bits .and .i64 ((s rs2)) ((31 : Int)))) (by kernel_rfl) (congrArg (Value.int .i64) (bits_andi rs2 31#64))) ?_
  refine Kw.pure (.int .u32 (u ((rs2 &&& 31#64) &&& 4294967295#64))) (by kernel_rfl) (Kw.eqv (v := .int .u32 (IntKind.u32.wrap (s (rs2 &&& 31#64)))) (by kernel_rfl) (congrArg (Value.int .u32) (wrap32_s (rs2 &&& 31#64)))) ?_
  obtain ⟨a8, e8⟩ : ∃ z, (((rs2 &&& 31#64) &&& 4294967295#64) <<< 20) &&& 4294967295#64 = z := ⟨_, rfl⟩
  refine Kw.pure (.int .u32 (u a8)) (by kernel_rfl) (Kw.eqv (v := .int .u32 (IntKind.u32.wrap ((u ((rs2 &&& 31#64) &&& 4294967295#64)) * 2 ^ 20))) (by kernel_rfl) ((congrArg (Value.int .u32) (wrap32_shl ((rs2 &&& 31#64) &&& 4294967295#64) 20 (by omega))).trans (congrArg (fun z => Value.int .u32 (u z)) e8))) ?_
  refine KS.p (.int .u32 (u a8)) ?_
  refine KS.n5 ?_
  refine KS.p (.pointer (some ⟨B3, 1, none⟩)) ?_
  refine KS.l 5 B3 1 (.int .u8 67) M4 0 Try.underlying5 ?_
  refine Kw.fin (Kw.then_normal (wp_block (wp_seq (Kw.region ?_))))
  refine KS.p (.bool false) ?_
  refine KS.p (.bool false) ?_
  refine KS.n2 ?_
  refine wp_cond_false (by kernel_rfl) ?_
  refine wp_seq (Kw.region ?_)
  refine KS.p (.bool false) ?_
  refine KS.p (.bool false) ?_
  refine KS.n2 ?_
  refine wp_cond_false (by kernel_rfl) ?_
  refine wp_seq (Kw.region ?_)
  refine KS.p (.bool false) ?_
  refine KS.p (.bool false) ?_
  refine KS.n2 ?_
  refine wp_cond_false (by kernel_rfl) ?_
  refine wp_seq (wp_seq (Kw.region ?_))
  refine KS.p (.bool false) ?_
  refine KS.p (.bool false) ?_
  refine KS.n2 ?_
  refine wp_cond_false (by kernel_rfl) ?_
  refine Kw.region ?_
  refine KS.p (.bool true) ?_
  refine KS.p (.bool true) ?_
  refine KS.n2 ?_
  refine wp_cond_true (by kernel_rfl) ?_
  refine wp_seq ?_
  refine Canon.region_canon (I := fun w => Kw.Mem [] W w [(B3, #[.string (nm k), .int .u8 67, .int .u32 (u (cd k)), .int .u32 (u (ff k)), .int .u32 (u (ot k))], 79), (B2, rows32, 79), (B1, #[.int .i64 ((k + 1 : Nat) : Int), .int .i64 (s rd), .int .i64 (s rs1), .int .i64 (s rs2), .int .i64 (s imm)], 41)]) (by kernel_rfl) (by decide +kernel) M4.drew' ?_
  refine KS.q (.int .u32 (u a5)) ?_
  refine KS.q (.int .u32 (u a6)) ?_
  refine Canon.pure (.int .u32 (u ((a5 + a6) &&& 4294967295#64))) (by kernel_rfl) (fun w => Kw.eqv (v := .int .u32 (IntKind.u32.wrap ((u a5) + (u a6)))) (by kernel_rfl) (congrArg (Value.int .u32) (wrap32_add a5 a6))) ?_
  refine KS.q (.int .u32 (u a7)) ?_
  obtain ⟨a9, e9⟩ : ∃ z, (((a5 + a6) &&& 4294967295#64) + a7) &&& 4294967295#64 = z := ⟨_, rfl⟩
  refine Canon.pure (.int .u32 (u a9)) (by kernel_rfl) (fun w => Kw.eqv (v := .int .u32 (IntKind.u32.wrap ((u ((a5 + a6) &&& 4294967295#64)) + (u a7)))) (by kernel_rfl) ((congrArg (Value.int .u32) (wrap32_add ((a5 + a6) &&& 4294967295#64) a7)).trans (congrArg (fun z => Value.int .u32 (u z)) e9))) ?_
  refine KS.q (.int .i64 (s imm)) ?_
  refine Canon.call (.int .u32 (u ((getI imm 0 12 <<< 20) &&& 4294967295#64))) 51 #[.int .i64 (s imm), .int .i64 0, .int .i64 12, .int .i64 20] (by kernel_rfl) (fun w => by kernel_rfl) (fun w hw => (bits_n imm 0 12 20 (by decide) w).mono fun r w1 ⟨he, hb⟩ => ⟨he, hw.call hb⟩) ?_
  obtain ⟨a10, e10⟩ : ∃ z, (a9 + ((getI imm 0 12 <<< 20) &&& 4294967295#64)) &&& 4294967295#64 = z := ⟨_, rfl⟩
  refine Canon.pure (.int .u32 (u a10)) (by kernel_rfl) (fun w => Kw.eqv (v := .int .u32 (IntKind.u32.wrap ((u a9) + (u ((getI imm 0 12 <<< 20) &&& 4294967295#64))))) (by kernel_rfl) ((congrArg (Value.int .u32) (wrap32_add a9 ((getI imm 0 12 <<< 20) &&& 4294967295#64))).trans (congrArg (fun z => Value.int .u32 (u z)) e10))) ?_
  refine KS.q (.pointer (some ⟨B1, 1, none⟩)) ?_
  refine KS.ql 3 B1 1 (.int .i64 (s rd)) 2 Try.underlying3 ?_
  refine Canon.call (.bool (fitsI rd 5 false)) 50 #[.int .i64 (s rd)] (by kernel_rfl) (fun w => by kernel_rfl) (fun w hw => (reg_c rd w).mono fun r w1 ⟨he, hb⟩ => ⟨he, hw.call hb⟩) ?_
  rcases Bool.eq_false_or_eq_true ((fitsI rd 5 false)) with h11 | h11
  · skip
    refine Canon.pure (.bool true) (by kernel_rfl) (fun w => Kw.eqv (v := .bool ((fitsI rd 5 false))) (by kernel_rfl) (congrArg Value.bool h11)) ?_
    refine KS.q (.pointer (some ⟨B1, 2, none⟩)) ?_
    refine KS.ql 3 B1 2 (.int .i64 (s rs1)) 2 Try.underlying3 ?_
    refine Canon.call (.bool (fitsI rs1 5 false)) 50 #[.int .i64 (s rs1)] (by kernel_rfl) (fun w => by kernel_rfl) (fun w hw => (reg_c rs1 w).mono fun r w1 ⟨he, hb⟩ => ⟨he, hw.call hb⟩) ?_
    refine KS.q (.bool (fitsI rs1 5 false)) ?_
    rcases Bool.eq_false_or_eq_true ((fitsI rs1 5 false)) with h12 | h12
    · skip
      refine Canon.pure (.bool true) (by kernel_rfl) (fun w => Kw.eqv (v := .bool ((fitsI rs1 5 false))) (by kernel_rfl) (congrArg Value.bool h12)) ?_
      refine KS.q (.int .i64 (s imm)) ?_
      refine KS.q (.pointer (some ⟨B3, 1, none⟩)) ?_
      refine KS.ql 5 B3 1 (.int .u8 67) 0 Try.underlying5 ?_
      refine KS.q (.bool false) ?_
      refine Canon.call (.bool (fitsI imm 12 false)) 52 #[.int .i64 (s imm), .int .i64 12, .bool false] (by kernel_rfl) (fun w => by kernel_rfl) (fun w hw => (rfits_c imm 12 false w).mono fun r w1 ⟨he, hb⟩ => ⟨he, hw.call hb⟩) ?_
      refine KS.q (.bool (fitsI imm 12 false)) ?_
      refine KS.q (.int .u32 (u a10)) ?_
      refine KS.q (.bool (fitsI imm 12 false)) ?_
      refine Canon.fin fun w13 M13 => ?_
      refine Kw.then_normal (wp_ret (Kw.block_ret (Kw.then_ret ?_)))
      exact bodyPost_ret (v := .tuple #[.int .u32 (u a10), .bool (fitsI imm 12 false)]) (by kernel_rfl) (by kernel_rfl) ⟨ret2 (by subst e5 e6 e7 e9 e10; exact sum_C k hk hs rd rs1 rs2 imm) (by simp [fitB_C, low0, h11, h12]), M13.drop⟩
    · skip
      refine Canon.pure (.bool false) (by kernel_rfl) (fun w => Kw.eqv (v := .bool ((fitsI rs1 5 false))) (by kernel_rfl) (congrArg Value.bool h12)) ?_
      refine KS.qk ?_
      refine KS.qk ?_
      refine KS.qk ?_
      refine KS.qk ?_
      refine KS.qk ?_
      refine KS.q (.bool false) ?_
      refine KS.q (.int .u32 (u a10)) ?_
      refine KS.q (.bool false) ?_
      refine Canon.fin fun w14 M14 => ?_
      refine Kw.then_normal (wp_ret (Kw.block_ret (Kw.then_ret ?_)))
      exact bodyPost_ret (v := .tuple #[.int .u32 (u a10), .bool false]) (by kernel_rfl) (by kernel_rfl) ⟨ret2 (by subst e5 e6 e7 e9 e10; exact sum_C k hk hs rd rs1 rs2 imm) (by simp [fitB_C, low0, h11, h12]), M14.drop⟩
  · skip
    refine Canon.pure (.bool false) (by kernel_rfl) (fun w => Kw.eqv (v := .bool ((fitsI rd 5 false))) (by kernel_rfl) (congrArg Value.bool h11)) ?_
    refine KS.qk ?_
    refine KS.qk ?_
    refine KS.qk ?_
    refine KS.q (.bool false) ?_
    refine KS.q (.bool false) ?_
    refine KS.qk ?_
    refine KS.qk ?_
    refine KS.qk ?_
    refine KS.qk ?_
    refine KS.qk ?_
    refine KS.q (.bool false) ?_
    refine KS.q (.int .u32 (u a10)) ?_
    refine KS.q (.bool false) ?_
    refine Canon.fin fun w15 M15 => ?_
    refine Kw.then_normal (wp_ret (Kw.block_ret (Kw.then_ret ?_)))
    exact bodyPost_ret (v := .tuple #[.int .u32 (u a10), .bool false]) (by kernel_rfl) (by kernel_rfl) ⟨ret2 (by subst e5 e6 e7 e9 e10; exact sum_C k hk hs rd rs1 rs2 imm) (by simp [fitB_C, low0, h11]), M15.drop⟩
set_option maxHeartbeats 8000000 in
set_option maxRecDepth 100000 in
theorem renc_H (k : Nat) (hk : k < 69) (hs : sh k = 72) (rd rs1 rs2 imm : BitVec 64) (W : World) : Calls Try.prog 26 #[.agg #[.int .i64 ((k + 1 : Nat) : Int), .int .i64 (s rd), .int .i64 (s rs1), .int .i64 (s rs2), .int .i64 (s imm)]] W fun e W' => e = .returned (.tuple #[.int .u32 (u (word_H k rd rs1 rs2 imm &&& 4294967295#64)), .bool (fitB_H imm && fitsI rd 5 false && fitsI rs1 5 false)]) ∧ Kw.Mem [] W W' [] := by
  refine calls_of_wp Try.func26 rfl ?_
  have M0 : Kw.Mem [] W W [] := Kw.Mem.start _ _
  refine Kw.to (b := ⟨#[.agg #[.int .i64 ((k + 1 : Nat) : Int), .int .i64 (s rd), .int .i64 (s rs1), .int .i64 (s rs2), .int .i64 (s imm)], undef, undef, undef, undef, undef, undef, undef, undef, undef, undef, undef, undef, undef, undef, undef, undef, undef, undef, undef, undef, undef, undef, undef, undef, undef, undef, undef, undef, undef, undef, undef, undef, undef, undef, undef, undef, undef, undef, undef, undef, undef, undef, undef, undef, undef, undef, undef, undef, undef, undef, undef, undef, undef, undef, undef, undef, undef, undef, undef, undef, undef, undef, undef, undef, undef, undef, undef, undef, undef, undef, undef, undef, undef, undef, undef, undef, undef, undef, undef, undef, undef, undef, undef, undef, undef, undef, undef, undef, undef, undef, undef, undef, undef, undef, undef, undef, undef, undef, undef, undef, undef, undef, undef, undef, undef, undef, undef, undef, undef, undef, undef, undef, undef, undef, undef, undef, undef, undef, undef, undef, undef, undef, undef, undef, undef, undef, undef, undef, undef, undef, undef, undef, undef, undef, undef, undef, undef, undef, undef, undef, undef, undef, undef, undef, undef, undef, undef, undef, undef, undef, undef, undef, undef, undef, undef, undef, undef, undef, undef, undef, undef, undef, undef, undef, undef, undef, undef, undef, undef, undef, undef, undef, undef, undef, undef, undef, undef, undef, undef, undef, undef, undef, undef, undef, undef, undef, undef, undef, undef, undef, undef, undef, undef, undef, undef, undef, undef, undef, undef, undef, undef, undef, undef, undef, undef, undef, undef, undef, undef, undef, undef, undef, undef, undef, undef, undef, undef, undef, undef, undef, undef, undef, undef, undef, undef, undef, undef, undef, undef, undef, undef, undef, undef, undef, undef, undef, undef, undef, undef, undef, undef, undef, undef, undef, undef, undef, undef, undef, undef, undef, undef, undef, undef, undef, undef, undef, undef, undef, undef, undef, undef, undef, undef, undef, undef, undef, undef, undef], []⟩) (by kernel_rfl) ?_
  refine wp_seq (Kw.region ?_)
  refine Kw.alloc #[.int .i64 ((k + 1 : Nat) : Int), .int .i64 (s rd), .int .i64 (s rs1), .int .i64 (s rs2), .int .i64 (s imm)] 41 M0 (by kernel_rfl) (by kernel_rfl) fun w1 B1 M1 => ?_
  refine KS.p (.int .u32 0) ?_
  refine KS.p (.bool false) ?_
  refine KS.n4 ?_
  refine Held.callN (fun B => (.slice (some ⟨B, 0, none⟩) 69 69)) 49 #[] rows32 79 M1 (by kernel_rfl) (by kernel_rfl) (rows32_c w1) fun w2 B2 M2 => ?_
  refine KS.p (.slice (some ⟨B2, 0, none⟩) 69 69) ?_
  refine KS.n5 ?_
  refine KS.p (.pointer (some ⟨B1, 0, none⟩)) ?_
  refine KS.l 3 B1 0 (.int .i64 ((k + 1 : Nat) : Int)) M2 1 Try.underlying3 ?_
  refine Kw.pure (.bool false) (by kernel_rfl) (Kw.eqv (v := .bool (decide (((k + 1 : Nat) : Int) < (1 : Int)))) (by kernel_rfl) (by rw [decide_eq_false (by omega)])) ?_
  refine KS.p (.bool false) ?_
  refine KS.p (.pointer (some ⟨B1, 0, none⟩)) ?_
  refine KS.l 3 B1 0 (.int .i64 ((k + 1 : Nat) : Int)) M2 1 Try.underlying3 ?_
  refine KS.p (.slice (some ⟨B2, 0, none⟩) 69 69) ?_
  refine KS.p (.int .i64 69) ?_
  refine Kw.pure (.bool false) (by kernel_rfl) (Kw.eqv (v := .bool (decide (((k + 1 : Nat) : Int) > (69 : Int)))) (by kernel_rfl) (by rw [decide_eq_false (by omega)])) ?_
  refine KS.p (.bool false) ?_
  refine KS.n2 ?_
  refine wp_cond_false (by kernel_rfl) ?_
  refine wp_skip (Kw.then_normal (wp_seq (Kw.region ?_)))
  refine KS.p (.slice (some ⟨B2, 0, none⟩) 69 69) ?_
  refine KS.p (.pointer (some ⟨B1, 0, none⟩)) ?_
  refine KS.l 3 B1 0 (.int .i64 ((k + 1 : Nat) : Int)) M2 1 Try.underlying3 ?_
  refine Kw.pure (.int .i64 ((k : Nat) : Int)) (by kernel_rfl) (Kw.eqv (v := .int .i64 (IntKind.i64.wrap (((k + 1 : Nat) : Int) - (1 : Int)))) (by kernel_rfl) (by rw [IntWalk.i64_in _ (by omega)]; congr 1; omega)) ?_
  refine KS.s (Sl.ixaS 76 (.slice (some ⟨B2, 0, none⟩) 69 69) (.int .i64 ((k : Nat) : Int))) (.pointer (some ⟨B2, 0 + k * 5, none⟩)) (Sl.ixa Try.underlying76 (by kernel_rfl) B2 0 69 69 k hk w2) ?_
  refine KS.s (Canon.ldS 79 (.pointer (some ⟨B2, 0 + k * 5, none⟩))) (.agg #[.string (nm k), .int .u8 72, .int .u32 (u (cd k)), .int .u32 (u (ff k)), .int .u32 (u (ot k))]) (Kw.ld_mid 79 (0 + k * 5) [.string (nm k), .int .u8 72, .int .u32 (u (cd k)), .int .u32 (u (ff k)), .int .u32 (u (ot k))] (M2.get 0 rfl) (row32_s k hk hs) _ Try.underlying79 rfl (by kernel_rfl)) ?_
  refine Kw.alloc #[.string ⟨#[]⟩, .int .u8 0, .int .u32 0, .int .u32 0, .int .u32 0] 79 M2 (by kernel_rfl) (by kernel_rfl) fun w3 B3 M3 => ?_
  refine Kw.storeAll 0 79 #[.string (nm k), .int .u8 72, .int .u32 (u (cd k)), .int .u32 (u (ff k)), .int .u32 (u (ot k))] M3 rfl (by kernel_rfl) (by kernel_rfl) (Eq.trans (b := 5) (by kernel_rfl) (by kernel_rfl)) (by kernel_rfl) (by kernel_rfl) fun w4 M4 => ?_
  refine KS.n4 ?_
  refine KS.p (.pointer (some ⟨B1, 4, none⟩)) ?_
  refine KS.l 2 B1 4 (.int .i64 (s imm)) M4 2 Try.underlying2 ?_
  refine KS.p (.int .i64 (s imm)) ?_
  refine KS.n4 ?_
  refine KS.p (.pointer (some ⟨B3, 2, none⟩)) ?_
  refine KS.l 37 B3 2 (.int .u32 (u (cd k))) M4 0 Try.underlying37 ?_
  refine KS.p (.pointer (some ⟨B3, 3, none⟩)) ?_
  refine KS.l 37 B3 3 (.int .u32 (u (ff k))) M4 0 Try.underlying37 ?_
  refine Kw.pure (.int .u32 (u (((ff k) <<< 12) &&& 4294967295#64))) (by kernel_rfl) (Kw.eqv (v := .int .u32 (IntKind.u32.wrap ((u (ff k)) * 2 ^ 12))) (by kernel_rfl) (congrArg (Value.int .u32) (wrap32_shl (ff k) 12 (by omega)))) ?_
  obtain ⟨a5, e5⟩ : ∃ z, ((cd k) + (((ff k) <<< 12) &&& 4294967295#64)) &&& 4294967295#64 = z := ⟨_, rfl⟩
  refine Kw.pure (.int .u32 (u a5)) (by kernel_rfl) (Kw.eqv (v := .int .u32 (IntKind.u32.wrap ((u (cd k)) + (u (((ff k) <<< 12) &&& 4294967295#64))))) (by kernel_rfl) ((congrArg (Value.int .u32) (wrap32_add (cd k) (((ff k) <<< 12) &&& 4294967295#64))).trans (congrArg (fun z => Value.int .u32 (u z)) e5))) ?_
  refine KS.p (.int .u32 (u a5)) ?_
  refine KS.n4 ?_
  refine KS.p (.pointer (some ⟨B1, 1, none⟩)) ?_
  refine KS.l 3 B1 1 (.int .i64 (s rd)) M4 2 Try.underlying3 ?_
  refine Kw.pure (.int .i64 (s (rd &&& 31#64))) (by kernel_rfl) (Kw.eqv (v := .int .i64 (Go.bits .and .i64 ((s rd)) ((31 : Int)))) (by kernel_rfl) (congrArg (Value.int .i64) (bits_andi rd 31#64))) ?_
  refine Kw.pure (.int .u32 (u ((rd &&& 31#64) &&& 4294967295#64))) (by kernel_rfl) (Kw.eqv (v := .int .u32 (IntKind.u32.wrap (s (rd &&& 31#64)))) (by kernel_rfl) (congrArg (Value.int .u32) (wrap32_s (rd &&& 31#64)))) ?_
  obtain ⟨a6, e6⟩ : ∃ z, (((rd &&& 31#64) &&& 4294967295#64) <<< 7) &&& 4294967295#64 = z := ⟨_, rfl⟩
  refine Kw.pure (.int .u32 (u a6)) (by kernel_rfl) (Kw.eqv (v := .int .u32 (IntKind.u32.wrap ((u ((rd &&& 31#64) &&& 4294967295#64)) * 2 ^ 7))) (by kernel_rfl) ((congrArg (Value.int .u32) (wrap32_shl ((rd &&& 31#64) &&& 4294967295#64) 7 (by omega))).trans (congrArg (fun z => Value.int .u32 (u z)) e6))) ?_
  refine KS.p (.int .u32 (u a6)) ?_
  refine KS.n4 ?_
  refine KS.p (.pointer (some ⟨B1, 2, none⟩)) ?_
  refine KS.l 3 B1 2 (.int .i64 (s rs1)) M4 2 Try.underlying3 ?_
  refine Kw.pure (.int .i64 (s (rs1 &&& 31#64))) (by kernel_rfl) (Kw.eqv (v := .int .i64 (Go.bits .and .i64 ((s rs1)) ((31 : Int)))) (by kernel_rfl) (congrArg (Value.int .i64) (bits_andi rs1 31#64))) ?_
  refine Kw.pure (.int .u32 (u ((rs1 &&& 31#64) &&& 4294967295#64))) (by kernel_rfl) (Kw.eqv (v := .int .u32 (IntKind.u32.wrap (s (rs1 &&& 31#64)))) (by kernel_rfl) (congrArg (Value.int .u32) (wrap32_s (rs1 &&& 31#64)))) ?_
  obtain ⟨a7, e7⟩ : ∃ z, (((rs1 &&& 31#64) &&& 4294967295#64) <<< 15) &&& 4294967295#64 = z := ⟨_, rfl⟩
  refine Kw.pure (.int .u32 (u a7)) (by kernel_rfl) (Kw.eqv (v := .int .u32 (IntKind.u32.wrap ((u ((rs1 &&& 31#64) &&& 4294967295#64)) * 2 ^ 15))) (by kernel_rfl) ((congrArg (Value.int .u32) (wrap32_shl ((rs1 &&& 31#64) &&& 4294967295#64) 15 (by omega))).trans (congrArg (fun z => Value.int .u32 (u z)) e7))) ?_
  refine KS.p (.int .u32 (u a7)) ?_
  refine KS.n4 ?_
  refine KS.p (.pointer (some ⟨B1, 3, none⟩)) ?_
  refine KS.l 3 B1 3 (.int .i64 (s rs2)) M4 2 Try.underlying3 ?_
  refine Kw.pure (.int .i64 (s (rs2 &&& 31#64))) (by kernel_rfl) (Kw.eqv (v := .int .i64 (Go.bits .and .i64 ((s rs2)) ((31 : Int)))) (by kernel_rfl) (congrArg (Value.int .i64) (bits_andi rs2 31#64))) ?_
  refine Kw.pure (.int .u32 (u ((rs2 &&& 31#64) &&& 4294967295#64))) (by kernel_rfl) (Kw.eqv (v := .int .u32 (IntKind.u32.wrap (s (rs2 &&& 31#64)))) (by kernel_rfl) (congrArg (Value.int .u32) (wrap32_s (rs2 &&& 31#64)))) ?_
  obtain ⟨a8, e8⟩ : ∃ z, (((rs2 &&& 31#64) &&& 4294967295#64) <<< 20) &&& 4294967295#64 = z := ⟨_, rfl⟩
  refine Kw.pure (.int .u32 (u a8)) (by kernel_rfl) (Kw.eqv (v := .int .u32 (IntKind.u32.wrap ((u ((rs2 &&& 31#64) &&& 4294967295#64)) * 2 ^ 20))) (by kernel_rfl) ((congrArg (Value.int .u32) (wrap32_shl ((rs2 &&& 31#64) &&& 4294967295#64) 20 (by omega))).trans (congrArg (fun z => Value.int .u32 (u z)) e8))) ?_
  refine KS.p (.int .u32 (u a8)) ?_
  refine KS.n5 ?_
  refine KS.p (.pointer (some ⟨B3, 1, none⟩)) ?_
  refine KS.l 5 B3 1 (.int .u8 72) M4 0 Try.underlying5 ?_
  refine Kw.fin (Kw.then_normal (wp_block (wp_seq (Kw.region ?_))))
  refine KS.p (.bool false) ?_
  refine KS.p (.bool false) ?_
  refine KS.n2 ?_
  refine wp_cond_false (by kernel_rfl) ?_
  refine wp_seq (Kw.region ?_)
  refine KS.p (.bool false) ?_
  refine KS.p (.bool false) ?_
  refine KS.n2 ?_
  refine wp_cond_false (by kernel_rfl) ?_
  refine wp_seq (Kw.region ?_)
  refine KS.p (.bool false) ?_
  refine KS.p (.bool false) ?_
  refine KS.n2 ?_
  refine wp_cond_false (by kernel_rfl) ?_
  refine wp_seq (wp_seq (Kw.region ?_))
  refine KS.p (.bool false) ?_
  refine KS.p (.bool false) ?_
  refine KS.n2 ?_
  refine wp_cond_false (by kernel_rfl) ?_
  refine Kw.region ?_
  refine KS.p (.bool false) ?_
  refine KS.p (.bool false) ?_
  refine KS.n2 ?_
  refine wp_cond_false (by kernel_rfl) ?_
  refine wp_seq (Kw.region ?_)
  refine KS.p (.bool true) ?_
  refine KS.p (.bool true) ?_
  refine KS.n2 ?_
  refine wp_cond_true (by kernel_rfl) ?_
  refine wp_seq ?_
  refine Canon.region_canon (I := fun w => Kw.Mem [] W w [(B3, #[.string (nm k), .int .u8 72, .int .u32 (u (cd k)), .int .u32 (u (ff k)), .int .u32 (u (ot k))], 79), (B2, rows32, 79), (B1, #[.int .i64 ((k + 1 : Nat) : Int), .int .i64 (s rd), .int .i64 (s rs1), .int .i64 (s rs2), .int .i64 (s imm)], 41)]) (by kernel_rfl) (by decide +kernel) M4.drew' ?_
  refine KS.q (.int .u32 (u a5)) ?_
  refine KS.q (.int .u32 (u a6)) ?_
  refine Canon.pure (.int .u32 (u ((a5 + a6) &&& 4294967295#64))) (by kernel_rfl) (fun w => Kw.eqv (v := .int .u32 (IntKind.u32.wrap ((u a5) + (u a6)))) (by kernel_rfl) (congrArg (Value.int .u32) (wrap32_add a5 a6))) ?_
  refine KS.q (.int .u32 (u a7)) ?_
  obtain ⟨a9, e9⟩ : ∃ z, (((a5 + a6) &&& 4294967295#64) + a7) &&& 4294967295#64 = z := ⟨_, rfl⟩
  refine Canon.pure (.int .u32 (u a9)) (by kernel_rfl) (fun w => Kw.eqv (v := .int .u32 (IntKind.u32.wrap ((u ((a5 + a6) &&& 4294967295#64)) + (u a7)))) (by kernel_rfl) ((congrArg (Value.int .u32) (wrap32_add ((a5 + a6) &&& 4294967295#64) a7)).trans (congrArg (fun z => Value.int .u32 (u z)) e9))) ?_
  refine KS.q (.int .i64 (s imm)) ?_
  refine Canon.call (.int .u32 (u ((getI imm 0 6 <<< 20) &&& 4294967295#64))) 51 #[.int .i64 (s imm), .int .i64 0, .int .i64 6, .int .i64 20] (by kernel_rfl) (fun w => by kernel_rfl) (fun w hw => (bits_n imm 0 6 20 (by decide) w).mono fun r w1 ⟨he, hb⟩ => ⟨he, hw.call hb⟩) ?_
  obtain ⟨a10, e10⟩ : ∃ z, (a9 + ((getI imm 0 6 <<< 20) &&& 4294967295#64)) &&& 4294967295#64 = z := ⟨_, rfl⟩
  refine Canon.pure (.int .u32 (u a10)) (by kernel_rfl) (fun w => Kw.eqv (v := .int .u32 (IntKind.u32.wrap ((u a9) + (u ((getI imm 0 6 <<< 20) &&& 4294967295#64))))) (by kernel_rfl) ((congrArg (Value.int .u32) (wrap32_add a9 ((getI imm 0 6 <<< 20) &&& 4294967295#64))).trans (congrArg (fun z => Value.int .u32 (u z)) e10))) ?_
  refine KS.q (.pointer (some ⟨B3, 4, none⟩)) ?_
  refine KS.ql 37 B3 4 (.int .u32 (u (ot k))) 0 Try.underlying37 ?_
  refine Canon.pure (.int .u32 (u (((ot k) <<< 26) &&& 4294967295#64))) (by kernel_rfl) (fun w => Kw.eqv (v := .int .u32 (IntKind.u32.wrap ((u (ot k)) * 2 ^ 26))) (by kernel_rfl) (congrArg (Value.int .u32) (wrap32_shl (ot k) 26 (by omega)))) ?_
  obtain ⟨a11, e11⟩ : ∃ z, (a10 + (((ot k) <<< 26) &&& 4294967295#64)) &&& 4294967295#64 = z := ⟨_, rfl⟩
  refine Canon.pure (.int .u32 (u a11)) (by kernel_rfl) (fun w => Kw.eqv (v := .int .u32 (IntKind.u32.wrap ((u a10) + (u (((ot k) <<< 26) &&& 4294967295#64))))) (by kernel_rfl) ((congrArg (Value.int .u32) (wrap32_add a10 (((ot k) <<< 26) &&& 4294967295#64))).trans (congrArg (fun z => Value.int .u32 (u z)) e11))) ?_
  refine KS.q (.pointer (some ⟨B1, 1, none⟩)) ?_
  refine KS.ql 3 B1 1 (.int .i64 (s rd)) 2 Try.underlying3 ?_
  refine Canon.call (.bool (fitsI rd 5 false)) 50 #[.int .i64 (s rd)] (by kernel_rfl) (fun w => by kernel_rfl) (fun w hw => (reg_c rd w).mono fun r w1 ⟨he, hb⟩ => ⟨he, hw.call hb⟩) ?_
  rcases Bool.eq_false_or_eq_true ((fitsI rd 5 false)) with h12 | h12
  · skip
    refine Canon.pure (.bool true) (by kernel_rfl) (fun w => Kw.eqv (v := .bool ((fitsI rd 5 false))) (by kernel_rfl) (congrArg Value.bool h12)) ?_
    refine KS.q (.pointer (some ⟨B1, 2, none⟩)) ?_
    refine KS.ql 3 B1 2 (.int .i64 (s rs1)) 2 Try.underlying3 ?_
    refine Canon.call (.bool (fitsI rs1 5 false)) 50 #[.int .i64 (s rs1)] (by kernel_rfl) (fun w => by kernel_rfl) (fun w hw => (reg_c rs1 w).mono fun r w1 ⟨he, hb⟩ => ⟨he, hw.call hb⟩) ?_
    refine KS.q (.bool (fitsI rs1 5 false)) ?_
    rcases Bool.eq_false_or_eq_true ((fitsI rs1 5 false)) with h13 | h13
    · skip
      refine Canon.pure (.bool true) (by kernel_rfl) (fun w => Kw.eqv (v := .bool ((fitsI rs1 5 false))) (by kernel_rfl) (congrArg Value.bool h13)) ?_
      refine KS.q (.int .i64 (s imm)) ?_
      refine Canon.call (.bool (fitsI imm 6 false)) 52 #[.int .i64 (s imm), .int .i64 6, .bool false] (by kernel_rfl) (fun w => by kernel_rfl) (fun w hw => (rfits_c imm 6 false w).mono fun r w1 ⟨he, hb⟩ => ⟨he, hw.call hb⟩) ?_
      refine KS.q (.bool (fitsI imm 6 false)) ?_
      refine KS.q (.int .u32 (u a11)) ?_
      refine KS.q (.bool (fitsI imm 6 false)) ?_
      refine Canon.fin fun w14 M14 => ?_
      refine Kw.then_normal (wp_ret (Kw.block_ret (Kw.then_ret ?_)))
      exact bodyPost_ret (v := .tuple #[.int .u32 (u a11), .bool (fitsI imm 6 false)]) (by kernel_rfl) (by kernel_rfl) ⟨ret2 (by subst e5 e6 e7 e9 e10 e11; exact sum_H k hk hs rd rs1 rs2 imm) (by simp [fitB_H, low0, h12, h13]), M14.drop⟩
    · skip
      refine Canon.pure (.bool false) (by kernel_rfl) (fun w => Kw.eqv (v := .bool ((fitsI rs1 5 false))) (by kernel_rfl) (congrArg Value.bool h13)) ?_
      refine KS.qk ?_
      refine KS.qk ?_
      refine KS.q (.bool false) ?_
      refine KS.q (.int .u32 (u a11)) ?_
      refine KS.q (.bool false) ?_
      refine Canon.fin fun w15 M15 => ?_
      refine Kw.then_normal (wp_ret (Kw.block_ret (Kw.then_ret ?_)))
      exact bodyPost_ret (v := .tuple #[.int .u32 (u a11), .bool false]) (by kernel_rfl) (by kernel_rfl) ⟨ret2 (by subst e5 e6 e7 e9 e10 e11; exact sum_H k hk hs rd rs1 rs2 imm) (by simp [fitB_H, low0, h12, h13]), M15.drop⟩
  · skip
    refine Canon.pure (.bool false) (by kernel_rfl) (fun w => Kw.eqv (v := .bool ((fitsI rd 5 false))) (by kernel_rfl) (congrArg Value.bool h12)) ?_
    refine KS.qk ?_
    refine KS.qk ?_
    refine KS.qk ?_
    refine KS.q (.bool false) ?_
    refine KS.q (.bool false) ?_
    refine KS.qk ?_
    refine KS.qk ?_
    refine KS.q (.bool false) ?_
    refine KS.q (.int .u32 (u a11)) ?_
    refine KS.q (.bool false) ?_
    refine Canon.fin fun w16 M16 => ?_
    refine Kw.then_normal (wp_ret (Kw.block_ret (Kw.then_ret ?_)))
    exact bodyPost_ret (v := .tuple #[.int .u32 (u a11), .bool false]) (by kernel_rfl) (by kernel_rfl) ⟨ret2 (by subst e5 e6 e7 e9 e10 e11; exact sum_H k hk hs rd rs1 rs2 imm) (by simp [fitB_H, low0, h12]), M16.drop⟩
set_option maxHeartbeats 8000000 in
set_option maxRecDepth 100000 in
theorem renc_S (k : Nat) (hk : k < 69) (hs : sh k = 83) (rd rs1 rs2 imm : BitVec 64) (W : World) : Calls Try.prog 26 #[.agg #[.int .i64 ((k + 1 : Nat) : Int), .int .i64 (s rd), .int .i64 (s rs1), .int .i64 (s rs2), .int .i64 (s imm)]] W fun e W' => e = .returned (.tuple #[.int .u32 (u (word_S k rd rs1 rs2 imm &&& 4294967295#64)), .bool (fitB_S imm && fitsI rs1 5 false && fitsI rs2 5 false)]) ∧ Kw.Mem [] W W' [] := by
  refine calls_of_wp Try.func26 rfl ?_
  have M0 : Kw.Mem [] W W [] := Kw.Mem.start _ _
  refine Kw.to (b := ⟨#[.agg #[.int .i64 ((k + 1 : Nat) : Int), .int .i64 (s rd), .int .i64 (s rs1), .int .i64 (s rs2), .int .i64 (s imm)], undef, undef, undef, undef, undef, undef, undef, undef, undef, undef, undef, undef, undef, undef, undef, undef, undef, undef, undef, undef, undef, undef, undef, undef, undef, undef, undef, undef, undef, undef, undef, undef, undef, undef, undef, undef, undef, undef, undef, undef, undef, undef, undef, undef, undef, undef, undef, undef, undef, undef, undef, undef, undef, undef, undef, undef, undef, undef, undef, undef, undef, undef, undef, undef, undef, undef, undef, undef, undef, undef, undef, undef, undef, undef, undef, undef, undef, undef, undef, undef, undef, undef, undef, undef, undef, undef, undef, undef, undef, undef, undef, undef, undef, undef, undef, undef, undef, undef, undef, undef, undef, undef, undef, undef, undef, undef, undef, undef, undef, undef, undef, undef, undef, undef, undef, undef, undef, undef, undef, undef, undef, undef, undef, undef, undef, undef, undef, undef, undef, undef, undef, undef, undef, undef, undef, undef, undef, undef, undef, undef, undef, undef, undef, undef, undef, undef, undef, undef, undef, undef, undef, undef, undef, undef, undef, undef, undef, undef, undef, undef, undef, undef, undef, undef, undef, undef, undef, undef, undef, undef, undef, undef, undef, undef, undef, undef, undef, undef, undef, undef, undef, undef, undef, undef, undef, undef, undef, undef, undef, undef, undef, undef, undef, undef, undef, undef, undef, undef, undef, undef, undef, undef, undef, undef, undef, undef, undef, undef, undef, undef, undef, undef, undef, undef, undef, undef, undef, undef, undef, undef, undef, undef, undef, undef, undef, undef, undef, undef, undef, undef, undef, undef, undef, undef, undef, undef, undef, undef, undef, undef, undef, undef, undef, undef, undef, undef, undef, undef, undef, undef, undef, undef, undef, undef, undef, undef, undef, undef, undef, undef, undef, undef, undef, undef, undef, undef, undef, undef], []⟩) (by kernel_rfl) ?_
  refine wp_seq (Kw.region ?_)
  refine Kw.alloc #[.int .i64 ((k + 1 : Nat) : Int), .int .i64 (s rd), .int .i64 (s rs1), .int .i64 (s rs2), .int .i64 (s imm)] 41 M0 (by kernel_rfl) (by kernel_rfl) fun w1 B1 M1 => ?_
  refine KS.p (.int .u32 0) ?_
  refine KS.p (.bool false) ?_
  refine KS.n4 ?_
  refine Held.callN (fun B => (.slice (some ⟨B, 0, none⟩) 69 69)) 49 #[] rows32 79 M1 (by kernel_rfl) (by kernel_rfl) (rows32_c w1) fun w2 B2 M2 => ?_
  refine KS.p (.slice (some ⟨B2, 0, none⟩) 69 69) ?_
  refine KS.n5 ?_
  refine KS.p (.pointer (some ⟨B1, 0, none⟩)) ?_
  refine KS.l 3 B1 0 (.int .i64 ((k + 1 : Nat) : Int)) M2 1 Try.underlying3 ?_
  refine Kw.pure (.bool false) (by kernel_rfl) (Kw.eqv (v := .bool (decide (((k + 1 : Nat) : Int) < (1 : Int)))) (by kernel_rfl) (by rw [decide_eq_false (by omega)])) ?_
  refine KS.p (.bool false) ?_
  refine KS.p (.pointer (some ⟨B1, 0, none⟩)) ?_
  refine KS.l 3 B1 0 (.int .i64 ((k + 1 : Nat) : Int)) M2 1 Try.underlying3 ?_
  refine KS.p (.slice (some ⟨B2, 0, none⟩) 69 69) ?_
  refine KS.p (.int .i64 69) ?_
  refine Kw.pure (.bool false) (by kernel_rfl) (Kw.eqv (v := .bool (decide (((k + 1 : Nat) : Int) > (69 : Int)))) (by kernel_rfl) (by rw [decide_eq_false (by omega)])) ?_
  refine KS.p (.bool false) ?_
  refine KS.n2 ?_
  refine wp_cond_false (by kernel_rfl) ?_
  refine wp_skip (Kw.then_normal (wp_seq (Kw.region ?_)))
  refine KS.p (.slice (some ⟨B2, 0, none⟩) 69 69) ?_
  refine KS.p (.pointer (some ⟨B1, 0, none⟩)) ?_
  refine KS.l 3 B1 0 (.int .i64 ((k + 1 : Nat) : Int)) M2 1 Try.underlying3 ?_
  refine Kw.pure (.int .i64 ((k : Nat) : Int)) (by kernel_rfl) (Kw.eqv (v := .int .i64 (IntKind.i64.wrap (((k + 1 : Nat) : Int) - (1 : Int)))) (by kernel_rfl) (by rw [IntWalk.i64_in _ (by omega)]; congr 1; omega)) ?_
  refine KS.s (Sl.ixaS 76 (.slice (some ⟨B2, 0, none⟩) 69 69) (.int .i64 ((k : Nat) : Int))) (.pointer (some ⟨B2, 0 + k * 5, none⟩)) (Sl.ixa Try.underlying76 (by kernel_rfl) B2 0 69 69 k hk w2) ?_
  refine KS.s (Canon.ldS 79 (.pointer (some ⟨B2, 0 + k * 5, none⟩))) (.agg #[.string (nm k), .int .u8 83, .int .u32 (u (cd k)), .int .u32 (u (ff k)), .int .u32 (u (ot k))]) (Kw.ld_mid 79 (0 + k * 5) [.string (nm k), .int .u8 83, .int .u32 (u (cd k)), .int .u32 (u (ff k)), .int .u32 (u (ot k))] (M2.get 0 rfl) (row32_s k hk hs) _ Try.underlying79 rfl (by kernel_rfl)) ?_
  refine Kw.alloc #[.string ⟨#[]⟩, .int .u8 0, .int .u32 0, .int .u32 0, .int .u32 0] 79 M2 (by kernel_rfl) (by kernel_rfl) fun w3 B3 M3 => ?_
  refine Kw.storeAll 0 79 #[.string (nm k), .int .u8 83, .int .u32 (u (cd k)), .int .u32 (u (ff k)), .int .u32 (u (ot k))] M3 rfl (by kernel_rfl) (by kernel_rfl) (Eq.trans (b := 5) (by kernel_rfl) (by kernel_rfl)) (by kernel_rfl) (by kernel_rfl) fun w4 M4 => ?_
  refine KS.n4 ?_
  refine KS.p (.pointer (some ⟨B1, 4, none⟩)) ?_
  refine KS.l 2 B1 4 (.int .i64 (s imm)) M4 2 Try.underlying2 ?_
  refine KS.p (.int .i64 (s imm)) ?_
  refine KS.n4 ?_
  refine KS.p (.pointer (some ⟨B3, 2, none⟩)) ?_
  refine KS.l 37 B3 2 (.int .u32 (u (cd k))) M4 0 Try.underlying37 ?_
  refine KS.p (.pointer (some ⟨B3, 3, none⟩)) ?_
  refine KS.l 37 B3 3 (.int .u32 (u (ff k))) M4 0 Try.underlying37 ?_
  refine Kw.pure (.int .u32 (u (((ff k) <<< 12) &&& 4294967295#64))) (by kernel_rfl) (Kw.eqv (v := .int .u32 (IntKind.u32.wrap ((u (ff k)) * 2 ^ 12))) (by kernel_rfl) (congrArg (Value.int .u32) (wrap32_shl (ff k) 12 (by omega)))) ?_
  obtain ⟨a5, e5⟩ : ∃ z, ((cd k) + (((ff k) <<< 12) &&& 4294967295#64)) &&& 4294967295#64 = z := ⟨_, rfl⟩
  refine Kw.pure (.int .u32 (u a5)) (by kernel_rfl) (Kw.eqv (v := .int .u32 (IntKind.u32.wrap ((u (cd k)) + (u (((ff k) <<< 12) &&& 4294967295#64))))) (by kernel_rfl) ((congrArg (Value.int .u32) (wrap32_add (cd k) (((ff k) <<< 12) &&& 4294967295#64))).trans (congrArg (fun z => Value.int .u32 (u z)) e5))) ?_
  refine KS.p (.int .u32 (u a5)) ?_
  refine KS.n4 ?_
  refine KS.p (.pointer (some ⟨B1, 1, none⟩)) ?_
  refine KS.l 3 B1 1 (.int .i64 (s rd)) M4 2 Try.underlying3 ?_
  refine Kw.pure (.int .i64 (s (rd &&& 31#64))) (by kernel_rfl) (Kw.eqv (v := .int .i64 (Go.bits .and .i64 ((s rd)) ((31 : Int)))) (by kernel_rfl) (congrArg (Value.int .i64) (bits_andi rd 31#64))) ?_
  refine Kw.pure (.int .u32 (u ((rd &&& 31#64) &&& 4294967295#64))) (by kernel_rfl) (Kw.eqv (v := .int .u32 (IntKind.u32.wrap (s (rd &&& 31#64)))) (by kernel_rfl) (congrArg (Value.int .u32) (wrap32_s (rd &&& 31#64)))) ?_
  obtain ⟨a6, e6⟩ : ∃ z, (((rd &&& 31#64) &&& 4294967295#64) <<< 7) &&& 4294967295#64 = z := ⟨_, rfl⟩
  refine Kw.pure (.int .u32 (u a6)) (by kernel_rfl) (Kw.eqv (v := .int .u32 (IntKind.u32.wrap ((u ((rd &&& 31#64) &&& 4294967295#64)) * 2 ^ 7))) (by kernel_rfl) ((congrArg (Value.int .u32) (wrap32_shl ((rd &&& 31#64) &&& 4294967295#64) 7 (by omega))).trans (congrArg (fun z => Value.int .u32 (u z)) e6))) ?_
  refine KS.p (.int .u32 (u a6)) ?_
  refine KS.n4 ?_
  refine KS.p (.pointer (some ⟨B1, 2, none⟩)) ?_
  refine KS.l 3 B1 2 (.int .i64 (s rs1)) M4 2 Try.underlying3 ?_
  refine Kw.pure (.int .i64 (s (rs1 &&& 31#64))) (by kernel_rfl) (Kw.eqv (v := .int .i64 (Go.bits .and .i64 ((s rs1)) ((31 : Int)))) (by kernel_rfl) (congrArg (Value.int .i64) (bits_andi rs1 31#64))) ?_
  refine Kw.pure (.int .u32 (u ((rs1 &&& 31#64) &&& 4294967295#64))) (by kernel_rfl) (Kw.eqv (v := .int .u32 (IntKind.u32.wrap (s (rs1 &&& 31#64)))) (by kernel_rfl) (congrArg (Value.int .u32) (wrap32_s (rs1 &&& 31#64)))) ?_
  obtain ⟨a7, e7⟩ : ∃ z, (((rs1 &&& 31#64) &&& 4294967295#64) <<< 15) &&& 4294967295#64 = z := ⟨_, rfl⟩
  refine Kw.pure (.int .u32 (u a7)) (by kernel_rfl) (Kw.eqv (v := .int .u32 (IntKind.u32.wrap ((u ((rs1 &&& 31#64) &&& 4294967295#64)) * 2 ^ 15))) (by kernel_rfl) ((congrArg (Value.int .u32) (wrap32_shl ((rs1 &&& 31#64) &&& 4294967295#64) 15 (by omega))).trans (congrArg (fun z => Value.int .u32 (u z)) e7))) ?_
  refine KS.p (.int .u32 (u a7)) ?_
  refine KS.n4 ?_
  refine KS.p (.pointer (some ⟨B1, 3, none⟩)) ?_
  refine KS.l 3 B1 3 (.int .i64 (s rs2)) M4 2 Try.underlying3 ?_
  refine Kw.pure (.int .i64 (s (rs2 &&& 31#64))) (by kernel_rfl) (Kw.eqv (v := .int .i64 (Go.bits .and .i64 ((s rs2)) ((31 : Int)))) (by kernel_rfl) (congrArg (Value.int .i64) (bits_andi rs2 31#64))) ?_
  refine Kw.pure (.int .u32 (u ((rs2 &&& 31#64) &&& 4294967295#64))) (by kernel_rfl) (Kw.eqv (v := .int .u32 (IntKind.u32.wrap (s (rs2 &&& 31#64)))) (by kernel_rfl) (congrArg (Value.int .u32) (wrap32_s (rs2 &&& 31#64)))) ?_
  obtain ⟨a8, e8⟩ : ∃ z, (((rs2 &&& 31#64) &&& 4294967295#64) <<< 20) &&& 4294967295#64 = z := ⟨_, rfl⟩
  refine Kw.pure (.int .u32 (u a8)) (by kernel_rfl) (Kw.eqv (v := .int .u32 (IntKind.u32.wrap ((u ((rs2 &&& 31#64) &&& 4294967295#64)) * 2 ^ 20))) (by kernel_rfl) ((congrArg (Value.int .u32) (wrap32_shl ((rs2 &&& 31#64) &&& 4294967295#64) 20 (by omega))).trans (congrArg (fun z => Value.int .u32 (u z)) e8))) ?_
  refine KS.p (.int .u32 (u a8)) ?_
  refine KS.n5 ?_
  refine KS.p (.pointer (some ⟨B3, 1, none⟩)) ?_
  refine KS.l 5 B3 1 (.int .u8 83) M4 0 Try.underlying5 ?_
  refine Kw.fin (Kw.then_normal (wp_block (wp_seq (Kw.region ?_))))
  refine KS.p (.bool false) ?_
  refine KS.p (.bool false) ?_
  refine KS.n2 ?_
  refine wp_cond_false (by kernel_rfl) ?_
  refine wp_seq (Kw.region ?_)
  refine KS.p (.bool false) ?_
  refine KS.p (.bool false) ?_
  refine KS.n2 ?_
  refine wp_cond_false (by kernel_rfl) ?_
  refine wp_seq (Kw.region ?_)
  refine KS.p (.bool false) ?_
  refine KS.p (.bool false) ?_
  refine KS.n2 ?_
  refine wp_cond_false (by kernel_rfl) ?_
  refine wp_seq (wp_seq (Kw.region ?_))
  refine KS.p (.bool false) ?_
  refine KS.p (.bool false) ?_
  refine KS.n2 ?_
  refine wp_cond_false (by kernel_rfl) ?_
  refine Kw.region ?_
  refine KS.p (.bool false) ?_
  refine KS.p (.bool false) ?_
  refine KS.n2 ?_
  refine wp_cond_false (by kernel_rfl) ?_
  refine wp_seq (Kw.region ?_)
  refine KS.p (.bool false) ?_
  refine KS.p (.bool false) ?_
  refine KS.n2 ?_
  refine wp_cond_false (by kernel_rfl) ?_
  refine wp_seq (Kw.region ?_)
  refine KS.p (.bool true) ?_
  refine KS.p (.bool true) ?_
  refine KS.n2 ?_
  refine wp_cond_true (by kernel_rfl) ?_
  refine wp_seq ?_
  refine Canon.region_canon (I := fun w => Kw.Mem [] W w [(B3, #[.string (nm k), .int .u8 83, .int .u32 (u (cd k)), .int .u32 (u (ff k)), .int .u32 (u (ot k))], 79), (B2, rows32, 79), (B1, #[.int .i64 ((k + 1 : Nat) : Int), .int .i64 (s rd), .int .i64 (s rs1), .int .i64 (s rs2), .int .i64 (s imm)], 41)]) (by kernel_rfl) (by decide +kernel) M4.drew' ?_
  refine KS.q (.int .u32 (u a5)) ?_
  refine KS.q (.int .u32 (u a7)) ?_
  refine Canon.pure (.int .u32 (u ((a5 + a7) &&& 4294967295#64))) (by kernel_rfl) (fun w => Kw.eqv (v := .int .u32 (IntKind.u32.wrap ((u a5) + (u a7)))) (by kernel_rfl) (congrArg (Value.int .u32) (wrap32_add a5 a7))) ?_
  refine KS.q (.int .u32 (u a8)) ?_
  obtain ⟨a9, e9⟩ : ∃ z, (((a5 + a7) &&& 4294967295#64) + a8) &&& 4294967295#64 = z := ⟨_, rfl⟩
  refine Canon.pure (.int .u32 (u a9)) (by kernel_rfl) (fun w => Kw.eqv (v := .int .u32 (IntKind.u32.wrap ((u ((a5 + a7) &&& 4294967295#64)) + (u a8)))) (by kernel_rfl) ((congrArg (Value.int .u32) (wrap32_add ((a5 + a7) &&& 4294967295#64) a8)).trans (congrArg (fun z => Value.int .u32 (u z)) e9))) ?_
  refine KS.q (.int .i64 (s imm)) ?_
  refine Canon.call (.int .u32 (u ((getI imm 0 5 <<< 7) &&& 4294967295#64))) 51 #[.int .i64 (s imm), .int .i64 0, .int .i64 5, .int .i64 7] (by kernel_rfl) (fun w => by kernel_rfl) (fun w hw => (bits_n imm 0 5 7 (by decide) w).mono fun r w1 ⟨he, hb⟩ => ⟨he, hw.call hb⟩) ?_
  obtain ⟨a10, e10⟩ : ∃ z, (a9 + ((getI imm 0 5 <<< 7) &&& 4294967295#64)) &&& 4294967295#64 = z := ⟨_, rfl⟩
  refine Canon.pure (.int .u32 (u a10)) (by kernel_rfl) (fun w => Kw.eqv (v := .int .u32 (IntKind.u32.wrap ((u a9) + (u ((getI imm 0 5 <<< 7) &&& 4294967295#64))))) (by kernel_rfl) ((congrArg (Value.int .u32) (wrap32_add a9 ((getI imm 0 5 <<< 7) &&& 4294967295#64))).trans (congrArg (fun z => Value.int .u32 (u z)) e10))) ?_
  refine KS.q (.int .i64 (s imm)) ?_
  refine Canon.call (.int .u32 (u ((getI imm 5 7 <<< 25) &&& 4294967295#64))) 51 #[.int .i64 (s imm), .int .i64 5, .int .i64 7, .int .i64 25] (by kernel_rfl) (fun w => by kernel_rfl) (fun w hw => (bits_n imm 5 7 25 (by decide) w).mono fun r w1 ⟨he, hb⟩ => ⟨he, hw.call hb⟩) ?_
  obtain ⟨a11, e11⟩ : ∃ z, (a10 + ((getI imm 5 7 <<< 25) &&& 4294967295#64)) &&& 4294967295#64 = z := ⟨_, rfl⟩
  refine Canon.pure (.int .u32 (u a11)) (by kernel_rfl) (fun w => Kw.eqv (v := .int .u32 (IntKind.u32.wrap ((u a10) + (u ((getI imm 5 7 <<< 25) &&& 4294967295#64))))) (by kernel_rfl) ((congrArg (Value.int .u32) (wrap32_add a10 ((getI imm 5 7 <<< 25) &&& 4294967295#64))).trans (congrArg (fun z => Value.int .u32 (u z)) e11))) ?_
  refine KS.q (.pointer (some ⟨B1, 2, none⟩)) ?_
  refine KS.ql 3 B1 2 (.int .i64 (s rs1)) 2 Try.underlying3 ?_
  refine Canon.call (.bool (fitsI rs1 5 false)) 50 #[.int .i64 (s rs1)] (by kernel_rfl) (fun w => by kernel_rfl) (fun w hw => (reg_c rs1 w).mono fun r w1 ⟨he, hb⟩ => ⟨he, hw.call hb⟩) ?_
  rcases Bool.eq_false_or_eq_true ((fitsI rs1 5 false)) with h12 | h12
  · skip
    refine Canon.pure (.bool true) (by kernel_rfl) (fun w => Kw.eqv (v := .bool ((fitsI rs1 5 false))) (by kernel_rfl) (congrArg Value.bool h12)) ?_
    refine KS.q (.pointer (some ⟨B1, 3, none⟩)) ?_
    refine KS.ql 3 B1 3 (.int .i64 (s rs2)) 2 Try.underlying3 ?_
    refine Canon.call (.bool (fitsI rs2 5 false)) 50 #[.int .i64 (s rs2)] (by kernel_rfl) (fun w => by kernel_rfl) (fun w hw => (reg_c rs2 w).mono fun r w1 ⟨he, hb⟩ => ⟨he, hw.call hb⟩) ?_
    refine KS.q (.bool (fitsI rs2 5 false)) ?_
    rcases Bool.eq_false_or_eq_true ((fitsI rs2 5 false)) with h13 | h13
    · skip
      refine Canon.pure (.bool true) (by kernel_rfl) (fun w => Kw.eqv (v := .bool ((fitsI rs2 5 false))) (by kernel_rfl) (congrArg Value.bool h13)) ?_
      refine KS.q (.int .i64 (s imm)) ?_
      refine Canon.call (.bool (fitsI imm 12 true)) 52 #[.int .i64 (s imm), .int .i64 12, .bool true] (by kernel_rfl) (fun w => by kernel_rfl) (fun w hw => (rfits_c imm 12 true w).mono fun r w1 ⟨he, hb⟩ => ⟨he, hw.call hb⟩) ?_
      refine KS.q (.bool (fitsI imm 12 true)) ?_
      refine KS.q (.int .u32 (u a11)) ?_
      refine KS.q (.bool (fitsI imm 12 true)) ?_
      refine Canon.fin fun w14 M14 => ?_
      refine Kw.then_normal (wp_ret (Kw.block_ret (Kw.then_ret ?_)))
      exact bodyPost_ret (v := .tuple #[.int .u32 (u a11), .bool (fitsI imm 12 true)]) (by kernel_rfl) (by kernel_rfl) ⟨ret2 (by subst e5 e7 e8 e9 e10 e11; exact sum_S k hk hs rd rs1 rs2 imm) (by simp [fitB_S, low0, h12, h13]), M14.drop⟩
    · skip
      refine Canon.pure (.bool false) (by kernel_rfl) (fun w => Kw.eqv (v := .bool ((fitsI rs2 5 false))) (by kernel_rfl) (congrArg Value.bool h13)) ?_
      refine KS.qk ?_
      refine KS.qk ?_
      refine KS.q (.bool false) ?_
      refine KS.q (.int .u32 (u a11)) ?_
      refine KS.q (.bool false) ?_
      refine Canon.fin fun w15 M15 => ?_
      refine Kw.then_normal (wp_ret (Kw.block_ret (Kw.then_ret ?_)))
      exact bodyPost_ret (v := .tuple #[.int .u32 (u a11), .bool false]) (by kernel_rfl) (by kernel_rfl) ⟨ret2 (by subst e5 e7 e8 e9 e10 e11; exact sum_S k hk hs rd rs1 rs2 imm) (by simp [fitB_S, low0, h12, h13]), M15.drop⟩
  · skip
    refine Canon.pure (.bool false) (by kernel_rfl) (fun w => Kw.eqv (v := .bool ((fitsI rs1 5 false))) (by kernel_rfl) (congrArg Value.bool h12)) ?_
    refine KS.qk ?_
    refine KS.qk ?_
    refine KS.qk ?_
    refine KS.q (.bool false) ?_
    refine KS.q (.bool false) ?_
    refine KS.qk ?_
    refine KS.qk ?_
    refine KS.q (.bool false) ?_
    refine KS.q (.int .u32 (u a11)) ?_
    refine KS.q (.bool false) ?_
    refine Canon.fin fun w16 M16 => ?_
    refine Kw.then_normal (wp_ret (Kw.block_ret (Kw.then_ret ?_)))
    exact bodyPost_ret (v := .tuple #[.int .u32 (u a11), .bool false]) (by kernel_rfl) (by kernel_rfl) ⟨ret2 (by subst e5 e7 e8 e9 e10 e11; exact sum_S k hk hs rd rs1 rs2 imm) (by simp [fitB_S, low0, h12]), M16.drop⟩
set_option maxHeartbeats 8000000 in
set_option maxRecDepth 100000 in
theorem renc_B (k : Nat) (hk : k < 69) (hs : sh k = 66) (rd rs1 rs2 imm : BitVec 64) (W : World) : Calls Try.prog 26 #[.agg #[.int .i64 ((k + 1 : Nat) : Int), .int .i64 (s rd), .int .i64 (s rs1), .int .i64 (s rs2), .int .i64 (s imm)]] W fun e W' => e = .returned (.tuple #[.int .u32 (u (word_B k rd rs1 rs2 imm &&& 4294967295#64)), .bool (fitB_B imm && fitsI rs1 5 false && fitsI rs2 5 false)]) ∧ Kw.Mem [] W W' [] := by
  refine calls_of_wp Try.func26 rfl ?_
  have M0 : Kw.Mem [] W W [] := Kw.Mem.start _ _
  refine Kw.to (b := ⟨#[.agg #[.int .i64 ((k + 1 : Nat) : Int), .int .i64 (s rd), .int .i64 (s rs1), .int .i64 (s rs2), .int .i64 (s imm)], undef, undef, undef, undef, undef, undef, undef, undef, undef, undef, undef, undef, undef, undef, undef, undef, undef, undef, undef, undef, undef, undef, undef, undef, undef, undef, undef, undef, undef, undef, undef, undef, undef, undef, undef, undef, undef, undef, undef, undef, undef, undef, undef, undef, undef, undef, undef, undef, undef, undef, undef, undef, undef, undef, undef, undef, undef, undef, undef, undef, undef, undef, undef, undef, undef, undef, undef, undef, undef, undef, undef, undef, undef, undef, undef, undef, undef, undef, undef, undef, undef, undef, undef, undef, undef, undef, undef, undef, undef, undef, undef, undef, undef, undef, undef, undef, undef, undef, undef, undef, undef, undef, undef, undef, undef, undef, undef, undef, undef, undef, undef, undef, undef, undef, undef, undef, undef, undef, undef, undef, undef, undef, undef, undef, undef, undef, undef, undef, undef, undef, undef, undef, undef, undef, undef, undef, undef, undef, undef, undef, undef, undef, undef, undef, undef, undef, undef, undef, undef, undef, undef, undef, undef, undef, undef, undef, undef, undef, undef, undef, undef, undef, undef, undef, undef, undef, undef, undef, undef, undef, undef, undef, undef, undef, undef, undef, undef, undef, undef, undef, undef, undef, undef, undef, undef, undef, undef, undef, undef, undef, undef, undef, undef, undef, undef, undef, undef, undef, undef, undef, undef, undef, undef, undef, undef, undef, undef, undef, undef, undef, undef, undef, undef, undef, undef, undef, undef, undef, undef, undef, undef, undef, undef, undef, undef, undef, undef, undef, undef, undef, undef, undef, undef, undef, undef, undef, undef, undef, undef, undef, undef, undef, undef, undef, undef, undef, undef, undef, undef, undef, undef, undef, undef, undef, undef, undef, undef, undef, undef, undef, undef, undef, undef, undef, undef, undef, undef, undef], []⟩) (by kernel_rfl) ?_
  refine wp_seq (Kw.region ?_)
  refine Kw.alloc #[.int .i64 ((k + 1 : Nat) : Int), .int .i64 (s rd), .int .i64 (s rs1), .int .i64 (s rs2), .int .i64 (s imm)] 41 M0 (by kernel_rfl) (by kernel_rfl) fun w1 B1 M1 => ?_
  refine KS.p (.int .u32 0) ?_
  refine KS.p (.bool false) ?_
  refine KS.n4 ?_
  refine Held.callN (fun B => (.slice (some ⟨B, 0, none⟩) 69 69)) 49 #[] rows32 79 M1 (by kernel_rfl) (by kernel_rfl) (rows32_c w1) fun w2 B2 M2 => ?_
  refine KS.p (.slice (some ⟨B2, 0, none⟩) 69 69) ?_
  refine KS.n5 ?_
  refine KS.p (.pointer (some ⟨B1, 0, none⟩)) ?_
  refine KS.l 3 B1 0 (.int .i64 ((k + 1 : Nat) : Int)) M2 1 Try.underlying3 ?_
  refine Kw.pure (.bool false) (by kernel_rfl) (Kw.eqv (v := .bool (decide (((k + 1 : Nat) : Int) < (1 : Int)))) (by kernel_rfl) (by rw [decide_eq_false (by omega)])) ?_
  refine KS.p (.bool false) ?_
  refine KS.p (.pointer (some ⟨B1, 0, none⟩)) ?_
  refine KS.l 3 B1 0 (.int .i64 ((k + 1 : Nat) : Int)) M2 1 Try.underlying3 ?_
  refine KS.p (.slice (some ⟨B2, 0, none⟩) 69 69) ?_
  refine KS.p (.int .i64 69) ?_
  refine Kw.pure (.bool false) (by kernel_rfl) (Kw.eqv (v := .bool (decide (((k + 1 : Nat) : Int) > (69 : Int)))) (by kernel_rfl) (by rw [decide_eq_false (by omega)])) ?_
  refine KS.p (.bool false) ?_
  refine KS.n2 ?_
  refine wp_cond_false (by kernel_rfl) ?_
  refine wp_skip (Kw.then_normal (wp_seq (Kw.region ?_)))
  refine KS.p (.slice (some ⟨B2, 0, none⟩) 69 69) ?_
  refine KS.p (.pointer (some ⟨B1, 0, none⟩)) ?_
  refine KS.l 3 B1 0 (.int .i64 ((k + 1 : Nat) : Int)) M2 1 Try.underlying3 ?_
  refine Kw.pure (.int .i64 ((k : Nat) : Int)) (by kernel_rfl) (Kw.eqv (v := .int .i64 (IntKind.i64.wrap (((k + 1 : Nat) : Int) - (1 : Int)))) (by kernel_rfl) (by rw [IntWalk.i64_in _ (by omega)]; congr 1; omega)) ?_
  refine KS.s (Sl.ixaS 76 (.slice (some ⟨B2, 0, none⟩) 69 69) (.int .i64 ((k : Nat) : Int))) (.pointer (some ⟨B2, 0 + k * 5, none⟩)) (Sl.ixa Try.underlying76 (by kernel_rfl) B2 0 69 69 k hk w2) ?_
  refine KS.s (Canon.ldS 79 (.pointer (some ⟨B2, 0 + k * 5, none⟩))) (.agg #[.string (nm k), .int .u8 66, .int .u32 (u (cd k)), .int .u32 (u (ff k)), .int .u32 (u (ot k))]) (Kw.ld_mid 79 (0 + k * 5) [.string (nm k), .int .u8 66, .int .u32 (u (cd k)), .int .u32 (u (ff k)), .int .u32 (u (ot k))] (M2.get 0 rfl) (row32_s k hk hs) _ Try.underlying79 rfl (by kernel_rfl)) ?_
  refine Kw.alloc #[.string ⟨#[]⟩, .int .u8 0, .int .u32 0, .int .u32 0, .int .u32 0] 79 M2 (by kernel_rfl) (by kernel_rfl) fun w3 B3 M3 => ?_
  refine Kw.storeAll 0 79 #[.string (nm k), .int .u8 66, .int .u32 (u (cd k)), .int .u32 (u (ff k)), .int .u32 (u (ot k))] M3 rfl (by kernel_rfl) (by kernel_rfl) (Eq.trans (b := 5) (by kernel_rfl) (by kernel_rfl)) (by kernel_rfl) (by kernel_rfl) fun w4 M4 => ?_
  refine KS.n4 ?_
  refine KS.p (.pointer (some ⟨B1, 4, none⟩)) ?_
  refine KS.l 2 B1 4 (.int .i64 (s imm)) M4 2 Try.underlying2 ?_
  refine KS.p (.int .i64 (s imm)) ?_
  refine KS.n4 ?_
  refine KS.p (.pointer (some ⟨B3, 2, none⟩)) ?_
  refine KS.l 37 B3 2 (.int .u32 (u (cd k))) M4 0 Try.underlying37 ?_
  refine KS.p (.pointer (some ⟨B3, 3, none⟩)) ?_
  refine KS.l 37 B3 3 (.int .u32 (u (ff k))) M4 0 Try.underlying37 ?_
  refine Kw.pure (.int .u32 (u (((ff k) <<< 12) &&& 4294967295#64))) (by kernel_rfl) (Kw.eqv (v := .int .u32 (IntKind.u32.wrap ((u (ff k)) * 2 ^ 12))) (by kernel_rfl) (congrArg (Value.int .u32) (wrap32_shl (ff k) 12 (by omega)))) ?_
  obtain ⟨a5, e5⟩ : ∃ z, ((cd k) + (((ff k) <<< 12) &&& 4294967295#64)) &&& 4294967295#64 = z := ⟨_, rfl⟩
  refine Kw.pure (.int .u32 (u a5)) (by kernel_rfl) (Kw.eqv (v := .int .u32 (IntKind.u32.wrap ((u (cd k)) + (u (((ff k) <<< 12) &&& 4294967295#64))))) (by kernel_rfl) ((congrArg (Value.int .u32) (wrap32_add (cd k) (((ff k) <<< 12) &&& 4294967295#64))).trans (congrArg (fun z => Value.int .u32 (u z)) e5))) ?_
  refine KS.p (.int .u32 (u a5)) ?_
  refine KS.n4 ?_
  refine KS.p (.pointer (some ⟨B1, 1, none⟩)) ?_
  refine KS.l 3 B1 1 (.int .i64 (s rd)) M4 2 Try.underlying3 ?_
  refine Kw.pure (.int .i64 (s (rd &&& 31#64))) (by kernel_rfl) (Kw.eqv (v := .int .i64 (Go.bits .and .i64 ((s rd)) ((31 : Int)))) (by kernel_rfl) (congrArg (Value.int .i64) (bits_andi rd 31#64))) ?_
  refine Kw.pure (.int .u32 (u ((rd &&& 31#64) &&& 4294967295#64))) (by kernel_rfl) (Kw.eqv (v := .int .u32 (IntKind.u32.wrap (s (rd &&& 31#64)))) (by kernel_rfl) (congrArg (Value.int .u32) (wrap32_s (rd &&& 31#64)))) ?_
  obtain ⟨a6, e6⟩ : ∃ z, (((rd &&& 31#64) &&& 4294967295#64) <<< 7) &&& 4294967295#64 = z := ⟨_, rfl⟩
  refine Kw.pure (.int .u32 (u a6)) (by kernel_rfl) (Kw.eqv (v := .int .u32 (IntKind.u32.wrap ((u ((rd &&& 31#64) &&& 4294967295#64)) * 2 ^ 7))) (by kernel_rfl) ((congrArg (Value.int .u32) (wrap32_shl ((rd &&& 31#64) &&& 4294967295#64) 7 (by omega))).trans (congrArg (fun z => Value.int .u32 (u z)) e6))) ?_
  refine KS.p (.int .u32 (u a6)) ?_
  refine KS.n4 ?_
  refine KS.p (.pointer (some ⟨B1, 2, none⟩)) ?_
  refine KS.l 3 B1 2 (.int .i64 (s rs1)) M4 2 Try.underlying3 ?_
  refine Kw.pure (.int .i64 (s (rs1 &&& 31#64))) (by kernel_rfl) (Kw.eqv (v := .int .i64 (Go.bits .and .i64 ((s rs1)) ((31 : Int)))) (by kernel_rfl) (congrArg (Value.int .i64) (bits_andi rs1 31#64))) ?_
  refine Kw.pure (.int .u32 (u ((rs1 &&& 31#64) &&& 4294967295#64))) (by kernel_rfl) (Kw.eqv (v := .int .u32 (IntKind.u32.wrap (s (rs1 &&& 31#64)))) (by kernel_rfl) (congrArg (Value.int .u32) (wrap32_s (rs1 &&& 31#64)))) ?_
  obtain ⟨a7, e7⟩ : ∃ z, (((rs1 &&& 31#64) &&& 4294967295#64) <<< 15) &&& 4294967295#64 = z := ⟨_, rfl⟩
  refine Kw.pure (.int .u32 (u a7)) (by kernel_rfl) (Kw.eqv (v := .int .u32 (IntKind.u32.wrap ((u ((rs1 &&& 31#64) &&& 4294967295#64)) * 2 ^ 15))) (by kernel_rfl) ((congrArg (Value.int .u32) (wrap32_shl ((rs1 &&& 31#64) &&& 4294967295#64) 15 (by omega))).trans (congrArg (fun z => Value.int .u32 (u z)) e7))) ?_
  refine KS.p (.int .u32 (u a7)) ?_
  refine KS.n4 ?_
  refine KS.p (.pointer (some ⟨B1, 3, none⟩)) ?_
  refine KS.l 3 B1 3 (.int .i64 (s rs2)) M4 2 Try.underlying3 ?_
  refine Kw.pure (.int .i64 (s (rs2 &&& 31#64))) (by kernel_rfl) (Kw.eqv (v := .int .i64 (Go.bits .and .i64 ((s rs2)) ((31 : Int)))) (by kernel_rfl) (congrArg (Value.int .i64) (bits_andi rs2 31#64))) ?_
  refine Kw.pure (.int .u32 (u ((rs2 &&& 31#64) &&& 4294967295#64))) (by kernel_rfl) (Kw.eqv (v := .int .u32 (IntKind.u32.wrap (s (rs2 &&& 31#64)))) (by kernel_rfl) (congrArg (Value.int .u32) (wrap32_s (rs2 &&& 31#64)))) ?_
  obtain ⟨a8, e8⟩ : ∃ z, (((rs2 &&& 31#64) &&& 4294967295#64) <<< 20) &&& 4294967295#64 = z := ⟨_, rfl⟩
  refine Kw.pure (.int .u32 (u a8)) (by kernel_rfl) (Kw.eqv (v := .int .u32 (IntKind.u32.wrap ((u ((rs2 &&& 31#64) &&& 4294967295#64)) * 2 ^ 20))) (by kernel_rfl) ((congrArg (Value.int .u32) (wrap32_shl ((rs2 &&& 31#64) &&& 4294967295#64) 20 (by omega))).trans (congrArg (fun z => Value.int .u32 (u z)) e8))) ?_
  refine KS.p (.int .u32 (u a8)) ?_
  refine KS.n5 ?_
  refine KS.p (.pointer (some ⟨B3, 1, none⟩)) ?_
  refine KS.l 5 B3 1 (.int .u8 66) M4 0 Try.underlying5 ?_
  refine Kw.fin (Kw.then_normal (wp_block (wp_seq (Kw.region ?_))))
  refine KS.p (.bool false) ?_
  refine KS.p (.bool false) ?_
  refine KS.n2 ?_
  refine wp_cond_false (by kernel_rfl) ?_
  refine wp_seq (Kw.region ?_)
  refine KS.p (.bool false) ?_
  refine KS.p (.bool false) ?_
  refine KS.n2 ?_
  refine wp_cond_false (by kernel_rfl) ?_
  refine wp_seq (Kw.region ?_)
  refine KS.p (.bool false) ?_
  refine KS.p (.bool false) ?_
  refine KS.n2 ?_
  refine wp_cond_false (by kernel_rfl) ?_
  refine wp_seq (wp_seq (Kw.region ?_))
  refine KS.p (.bool false) ?_
  refine KS.p (.bool false) ?_
  refine KS.n2 ?_
  refine wp_cond_false (by kernel_rfl) ?_
  refine Kw.region ?_
  refine KS.p (.bool false) ?_
  refine KS.p (.bool false) ?_
  refine KS.n2 ?_
  refine wp_cond_false (by kernel_rfl) ?_
  refine wp_seq (Kw.region ?_)
  refine KS.p (.bool false) ?_
  refine KS.p (.bool false) ?_
  refine KS.n2 ?_
  refine wp_cond_false (by kernel_rfl) ?_
  refine wp_seq (Kw.region ?_)
  refine KS.p (.bool false) ?_
  refine KS.p (.bool false) ?_
  refine KS.n2 ?_
  refine wp_cond_false (by kernel_rfl) ?_
  refine wp_seq (Kw.region ?_)
  refine KS.p (.bool true) ?_
  refine KS.p (.bool true) ?_
  refine KS.n2 ?_
  refine wp_cond_true (by kernel_rfl) ?_
  refine wp_seq ?_
  refine Canon.region_canon (I := fun w => Kw.Mem [] W w [(B3, #[.string (nm k), .int .u8 66, .int .u32 (u (cd k)), .int .u32 (u (ff k)), .int .u32 (u (ot k))], 79), (B2, rows32, 79), (B1, #[.int .i64 ((k + 1 : Nat) : Int), .int .i64 (s rd), .int .i64 (s rs1), .int .i64 (s rs2), .int .i64 (s imm)], 41)]) (by kernel_rfl) (by decide +kernel) M4.drew' ?_
  refine KS.q (.int .u32 (u a5)) ?_
  refine KS.q (.int .u32 (u a7)) ?_
  refine Canon.pure (.int .u32 (u ((a5 + a7) &&& 4294967295#64))) (by kernel_rfl) (fun w => Kw.eqv (v := .int .u32 (IntKind.u32.wrap ((u a5) + (u a7)))) (by kernel_rfl) (congrArg (Value.int .u32) (wrap32_add a5 a7))) ?_
  refine KS.q (.int .u32 (u a8)) ?_
  obtain ⟨a9, e9⟩ : ∃ z, (((a5 + a7) &&& 4294967295#64) + a8) &&& 4294967295#64 = z := ⟨_, rfl⟩
  refine Canon.pure (.int .u32 (u a9)) (by kernel_rfl) (fun w => Kw.eqv (v := .int .u32 (IntKind.u32.wrap ((u ((a5 + a7) &&& 4294967295#64)) + (u a8)))) (by kernel_rfl) ((congrArg (Value.int .u32) (wrap32_add ((a5 + a7) &&& 4294967295#64) a8)).trans (congrArg (fun z => Value.int .u32 (u z)) e9))) ?_
  refine KS.q (.int .i64 (s imm)) ?_
  refine Canon.call (.int .u32 (u ((getI imm 1 4 <<< 8) &&& 4294967295#64))) 51 #[.int .i64 (s imm), .int .i64 1, .int .i64 4, .int .i64 8] (by kernel_rfl) (fun w => by kernel_rfl) (fun w hw => (bits_n imm 1 4 8 (by decide) w).mono fun r w1 ⟨he, hb⟩ => ⟨he, hw.call hb⟩) ?_
  obtain ⟨a10, e10⟩ : ∃ z, (a9 + ((getI imm 1 4 <<< 8) &&& 4294967295#64)) &&& 4294967295#64 = z := ⟨_, rfl⟩
  refine Canon.pure (.int .u32 (u a10)) (by kernel_rfl) (fun w => Kw.eqv (v := .int .u32 (IntKind.u32.wrap ((u a9) + (u ((getI imm 1 4 <<< 8) &&& 4294967295#64))))) (by kernel_rfl) ((congrArg (Value.int .u32) (wrap32_add a9 ((getI imm 1 4 <<< 8) &&& 4294967295#64))).trans (congrArg (fun z => Value.int .u32 (u z)) e10))) ?_
  refine KS.q (.int .i64 (s imm)) ?_
  refine Canon.call (.int .u32 (u ((getI imm 5 6 <<< 25) &&& 4294967295#64))) 51 #[.int .i64 (s imm), .int .i64 5, .int .i64 6, .int .i64 25] (by kernel_rfl) (fun w => by kernel_rfl) (fun w hw => (bits_n imm 5 6 25 (by decide) w).mono fun r w1 ⟨he, hb⟩ => ⟨he, hw.call hb⟩) ?_
  obtain ⟨a11, e11⟩ : ∃ z, (a10 + ((getI imm 5 6 <<< 25) &&& 4294967295#64)) &&& 4294967295#64 = z := ⟨_, rfl⟩
  refine Canon.pure (.int .u32 (u a11)) (by kernel_rfl) (fun w => Kw.eqv (v := .int .u32 (IntKind.u32.wrap ((u a10) + (u ((getI imm 5 6 <<< 25) &&& 4294967295#64))))) (by kernel_rfl) ((congrArg (Value.int .u32) (wrap32_add a10 ((getI imm 5 6 <<< 25) &&& 4294967295#64))).trans (congrArg (fun z => Value.int .u32 (u z)) e11))) ?_
  refine KS.q (.int .i64 (s imm)) ?_
  refine Canon.call (.int .u32 (u ((getI imm 11 1 <<< 7) &&& 4294967295#64))) 51 #[.int .i64 (s imm), .int .i64 11, .int .i64 1, .int .i64 7] (by kernel_rfl) (fun w => by kernel_rfl) (fun w hw => (bits_n imm 11 1 7 (by decide) w).mono fun r w1 ⟨he, hb⟩ => ⟨he, hw.call hb⟩) ?_
  obtain ⟨a12, e12⟩ : ∃ z, (a11 + ((getI imm 11 1 <<< 7) &&& 4294967295#64)) &&& 4294967295#64 = z := ⟨_, rfl⟩
  refine Canon.pure (.int .u32 (u a12)) (by kernel_rfl) (fun w => Kw.eqv (v := .int .u32 (IntKind.u32.wrap ((u a11) + (u ((getI imm 11 1 <<< 7) &&& 4294967295#64))))) (by kernel_rfl) ((congrArg (Value.int .u32) (wrap32_add a11 ((getI imm 11 1 <<< 7) &&& 4294967295#64))).trans (congrArg (fun z => Value.int .u32 (u z)) e12))) ?_
  refine KS.q (.int .i64 (s imm)) ?_
  refine Canon.call (.int .u32 (u ((getI imm 12 1 <<< 31) &&& 4294967295#64))) 51 #[.int .i64 (s imm), .int .i64 12, .int .i64 1, .int .i64 31] (by kernel_rfl) (fun w => by kernel_rfl) (fun w hw => (bits_n imm 12 1 31 (by decide) w).mono fun r w1 ⟨he, hb⟩ => ⟨he, hw.call hb⟩) ?_
  obtain ⟨a13, e13⟩ : ∃ z, (a12 + ((getI imm 12 1 <<< 31) &&& 4294967295#64)) &&& 4294967295#64 = z := ⟨_, rfl⟩
  refine Canon.pure (.int .u32 (u a13)) (by kernel_rfl) (fun w => Kw.eqv (v := .int .u32 (IntKind.u32.wrap ((u a12) + (u ((getI imm 12 1 <<< 31) &&& 4294967295#64))))) (by kernel_rfl) ((congrArg (Value.int .u32) (wrap32_add a12 ((getI imm 12 1 <<< 31) &&& 4294967295#64))).trans (congrArg (fun z => Value.int .u32 (u z)) e13))) ?_
  refine KS.q (.pointer (some ⟨B1, 2, none⟩)) ?_
  refine KS.ql 3 B1 2 (.int .i64 (s rs1)) 2 Try.underlying3 ?_
  refine Canon.call (.bool (fitsI rs1 5 false)) 50 #[.int .i64 (s rs1)] (by kernel_rfl) (fun w => by kernel_rfl) (fun w hw => (reg_c rs1 w).mono fun r w1 ⟨he, hb⟩ => ⟨he, hw.call hb⟩) ?_
  rcases Bool.eq_false_or_eq_true ((fitsI rs1 5 false)) with h14 | h14
  · skip
    refine Canon.pure (.bool true) (by kernel_rfl) (fun w => Kw.eqv (v := .bool ((fitsI rs1 5 false))) (by kernel_rfl) (congrArg Value.bool h14)) ?_
    refine KS.q (.pointer (some ⟨B1, 3, none⟩)) ?_
    refine KS.ql 3 B1 3 (.int .i64 (s rs2)) 2 Try.underlying3 ?_
    refine Canon.call (.bool (fitsI rs2 5 false)) 50 #[.int .i64 (s rs2)] (by kernel_rfl) (fun w => by kernel_rfl) (fun w hw => (reg_c rs2 w).mono fun r w1 ⟨he, hb⟩ => ⟨he, hw.call hb⟩) ?_
    refine KS.q (.bool (fitsI rs2 5 false)) ?_
    rcases Bool.eq_false_or_eq_true ((fitsI rs2 5 false)) with h15 | h15
    · skip
      refine Canon.pure (.bool true) (by kernel_rfl) (fun w => Kw.eqv (v := .bool ((fitsI rs2 5 false))) (by kernel_rfl) (congrArg Value.bool h15)) ?_
      refine KS.q (.int .i64 (s imm)) ?_
      refine Canon.call (.bool (fitsI imm 13 true)) 52 #[.int .i64 (s imm), .int .i64 13, .bool true] (by kernel_rfl) (fun w => by kernel_rfl) (fun w hw => (rfits_c imm 13 true w).mono fun r w1 ⟨he, hb⟩ => ⟨he, hw.call hb⟩) ?_
      refine KS.q (.bool (fitsI imm 13 true)) ?_
      rcases Bool.eq_false_or_eq_true ((fitsI imm 13 true)) with h16 | h16
      · skip
        refine Canon.pure (.bool true) (by kernel_rfl) (fun w => Kw.eqv (v := .bool ((fitsI imm 13 true))) (by kernel_rfl) (congrArg Value.bool h16)) ?_
        refine KS.q (.int .i64 (s imm)) ?_
        refine KS.q (.int .i64 (Int.tmod ((s imm)) (2 : Int))) ?_
        refine Canon.pure (.bool (u (imm &&& maskI 1) == 0)) (by kernel_rfl) (fun w => Kw.eqv (v := .bool ((Int.tmod ((s imm)) (2 : Int)) == (0 : Int))) (by kernel_rfl) (congrArg Value.bool (low_mod imm 1 (by omega)))) ?_
        refine KS.q (.bool (u (imm &&& maskI 1) == 0)) ?_
        refine KS.q (.int .u32 (u a13)) ?_
        refine KS.q (.bool (u (imm &&& maskI 1) == 0)) ?_
        refine Canon.fin fun w17 M17 => ?_
        refine Kw.then_normal (wp_ret (Kw.block_ret (Kw.then_ret ?_)))
        exact bodyPost_ret (v := .tuple #[.int .u32 (u a13), .bool (u (imm &&& maskI 1) == 0)]) (by kernel_rfl) (by kernel_rfl) ⟨ret2 (by subst e5 e7 e8 e9 e10 e11 e12 e13; exact sum_B k hk hs rd rs1 rs2 imm) (by simp [fitB_B, h14, h15, h16]), M17.drop⟩
      · skip
        refine Canon.pure (.bool false) (by kernel_rfl) (fun w => Kw.eqv (v := .bool ((fitsI imm 13 true))) (by kernel_rfl) (congrArg Value.bool h16)) ?_
        refine KS.qk ?_
        refine KS.qk ?_
        refine KS.qk ?_
        refine KS.q (.bool false) ?_
        refine KS.q (.int .u32 (u a13)) ?_
        refine KS.q (.bool false) ?_
        refine Canon.fin fun w18 M18 => ?_
        refine Kw.then_normal (wp_ret (Kw.block_ret (Kw.then_ret ?_)))
        exact bodyPost_ret (v := .tuple #[.int .u32 (u a13), .bool false]) (by kernel_rfl) (by kernel_rfl) ⟨ret2 (by subst e5 e7 e8 e9 e10 e11 e12 e13; exact sum_B k hk hs rd rs1 rs2 imm) (by simp [fitB_B, h14, h15, h16]), M18.drop⟩
    · skip
      refine Canon.pure (.bool false) (by kernel_rfl) (fun w => Kw.eqv (v := .bool ((fitsI rs2 5 false))) (by kernel_rfl) (congrArg Value.bool h15)) ?_
      refine KS.qk ?_
      refine KS.qk ?_
      refine KS.q (.bool false) ?_
      refine KS.q (.bool false) ?_
      refine KS.qk ?_
      refine KS.qk ?_
      refine KS.qk ?_
      refine KS.q (.bool false) ?_
      refine KS.q (.int .u32 (u a13)) ?_
      refine KS.q (.bool false) ?_
      refine Canon.fin fun w19 M19 => ?_
      refine Kw.then_normal (wp_ret (Kw.block_ret (Kw.then_ret ?_)))
      exact bodyPost_ret (v := .tuple #[.int .u32 (u a13), .bool false]) (by kernel_rfl) (by kernel_rfl) ⟨ret2 (by subst e5 e7 e8 e9 e10 e11 e12 e13; exact sum_B k hk hs rd rs1 rs2 imm) (by simp [fitB_B, h14, h15]), M19.drop⟩
  · skip
    refine Canon.pure (.bool false) (by kernel_rfl) (fun w => Kw.eqv (v := .bool ((fitsI rs1 5 false))) (by kernel_rfl) (congrArg Value.bool h14)) ?_
    refine KS.qk ?_
    refine KS.qk ?_
    refine KS.qk ?_
    refine KS.q (.bool false) ?_
    refine KS.q (.bool false) ?_
    refine KS.qk ?_
    refine KS.qk ?_
    refine KS.q (.bool false) ?_
    refine KS.q (.bool false) ?_
    refine KS.qk ?_
    refine KS.qk ?_
    refine KS.qk ?_
    refine KS.q (.bool false) ?_
    refine KS.q (.int .u32 (u a13)) ?_
    refine KS.q (.bool false) ?_
    refine Canon.fin fun w20 M20 => ?_
    refine Kw.then_normal (wp_ret (Kw.block_ret (Kw.then_ret ?_)))
    exact bodyPost_ret (v := .tuple #[.int .u32 (u a13), .bool false]) (by kernel_rfl) (by kernel_rfl) ⟨ret2 (by subst e5 e7 e8 e9 e10 e11 e12 e13; exact sum_B k hk hs rd rs1 rs2 imm) (by simp [fitB_B, h14]), M20.drop⟩
set_option maxHeartbeats 8000000 in
set_option maxRecDepth 100000 in
theorem renc_U (k : Nat) (hk : k < 69) (hs : sh k = 85) (rd rs1 rs2 imm : BitVec 64) (W : World) : Calls Try.prog 26 #[.agg #[.int .i64 ((k + 1 : Nat) : Int), .int .i64 (s rd), .int .i64 (s rs1), .int .i64 (s rs2), .int .i64 (s imm)]] W fun e W' => e = .returned (.tuple #[.int .u32 (u (word_U k rd rs1 rs2 imm &&& 4294967295#64)), .bool (fitB_U imm && fitsI rd 5 false)]) ∧ Kw.Mem [] W W' [] := by
  refine calls_of_wp Try.func26 rfl ?_
  have M0 : Kw.Mem [] W W [] := Kw.Mem.start _ _
  refine Kw.to (b := ⟨#[.agg #[.int .i64 ((k + 1 : Nat) : Int), .int .i64 (s rd), .int .i64 (s rs1), .int .i64 (s rs2), .int .i64 (s imm)], undef, undef, undef, undef, undef, undef, undef, undef, undef, undef, undef, undef, undef, undef, undef, undef, undef, undef, undef, undef, undef, undef, undef, undef, undef, undef, undef, undef, undef, undef, undef, undef, undef, undef, undef, undef, undef, undef, undef, undef, undef, undef, undef, undef, undef, undef, undef, undef, undef, undef, undef, undef, undef, undef, undef, undef, undef, undef, undef, undef, undef, undef, undef, undef, undef, undef, undef, undef, undef, undef, undef, undef, undef, undef, undef, undef, undef, undef, undef, undef, undef, undef, undef, undef, undef, undef, undef, undef, undef, undef, undef, undef, undef, undef, undef, undef, undef, undef, undef, undef, undef, undef, undef, undef, undef, undef, undef, undef, undef, undef, undef, undef, undef, undef, undef, undef, undef, undef, undef, undef, undef, undef, undef, undef, undef, undef, undef, undef, undef, undef, undef, undef, undef, undef, undef, undef, undef, undef, undef, undef, undef, undef, undef, undef, undef, undef, undef, undef, undef, undef, undef, undef, undef, undef, undef, undef, undef, undef, undef, undef, undef, undef, undef, undef, undef, undef, undef, undef, undef, undef, undef, undef, undef, undef, undef, undef, undef, undef, undef, undef, undef, undef, undef, undef, undef, undef, undef, undef, undef, undef, undef, undef, undef, undef, undef, undef, undef, undef, undef, undef, undef, undef, undef, undef, undef, undef, undef, undef, undef, undef, undef, undef, undef, undef, undef, undef, undef, undef, undef, undef, undef, undef, undef, undef, undef, undef, undef, undef, undef, undef, undef, undef, undef, undef, undef, undef, undef, undef, undef, undef, undef, undef, undef, undef, undef, undef, undef, undef, undef, undef, undef, undef, undef, undef, undef, undef, undef, undef, undef, undef, undef, undef, undef, undef, undef, undef, undef, undef], []⟩) (by kernel_rfl) ?_
  refine wp_seq (Kw.region ?_)
  refine Kw.alloc #[.int .i64 ((k + 1 : Nat) : Int), .int .i64 (s rd), .int .i64 (s rs1), .int .i64 (s rs2), .int .i64 (s imm)] 41 M0 (by kernel_rfl) (by kernel_rfl) fun w1 B1 M1 => ?_
  refine KS.p (.int .u32 0) ?_
  refine KS.p (.bool false) ?_
  refine KS.n4 ?_
  refine Held.callN (fun B => (.slice (some ⟨B, 0, none⟩) 69 69)) 49 #[] rows32 79 M1 (by kernel_rfl) (by kernel_rfl) (rows32_c w1) fun w2 B2 M2 => ?_
  refine KS.p (.slice (some ⟨B2, 0, none⟩) 69 69) ?_
  refine KS.n5 ?_
  refine KS.p (.pointer (some ⟨B1, 0, none⟩)) ?_
  refine KS.l 3 B1 0 (.int .i64 ((k + 1 : Nat) : Int)) M2 1 Try.underlying3 ?_
  refine Kw.pure (.bool false) (by kernel_rfl) (Kw.eqv (v := .bool (decide (((k + 1 : Nat) : Int) < (1 : Int)))) (by kernel_rfl) (by rw [decide_eq_false (by omega)])) ?_
  refine KS.p (.bool false) ?_
  refine KS.p (.pointer (some ⟨B1, 0, none⟩)) ?_
  refine KS.l 3 B1 0 (.int .i64 ((k + 1 : Nat) : Int)) M2 1 Try.underlying3 ?_
  refine KS.p (.slice (some ⟨B2, 0, none⟩) 69 69) ?_
  refine KS.p (.int .i64 69) ?_
  refine Kw.pure (.bool false) (by kernel_rfl) (Kw.eqv (v := .bool (decide (((k + 1 : Nat) : Int) > (69 : Int)))) (by kernel_rfl) (by rw [decide_eq_false (by omega)])) ?_
  refine KS.p (.bool false) ?_
  refine KS.n2 ?_
  refine wp_cond_false (by kernel_rfl) ?_
  refine wp_skip (Kw.then_normal (wp_seq (Kw.region ?_)))
  refine KS.p (.slice (some ⟨B2, 0, none⟩) 69 69) ?_
  refine KS.p (.pointer (some ⟨B1, 0, none⟩)) ?_
  refine KS.l 3 B1 0 (.int .i64 ((k + 1 : Nat) : Int)) M2 1 Try.underlying3 ?_
  refine Kw.pure (.int .i64 ((k : Nat) : Int)) (by kernel_rfl) (Kw.eqv (v := .int .i64 (IntKind.i64.wrap (((k + 1 : Nat) : Int) - (1 : Int)))) (by kernel_rfl) (by rw [IntWalk.i64_in _ (by omega)]; congr 1; omega)) ?_
  refine KS.s (Sl.ixaS 76 (.slice (some ⟨B2, 0, none⟩) 69 69) (.int .i64 ((k : Nat) : Int))) (.pointer (some ⟨B2, 0 + k * 5, none⟩)) (Sl.ixa Try.underlying76 (by kernel_rfl) B2 0 69 69 k hk w2) ?_
  refine KS.s (Canon.ldS 79 (.pointer (some ⟨B2, 0 + k * 5, none⟩))) (.agg #[.string (nm k), .int .u8 85, .int .u32 (u (cd k)), .int .u32 (u (ff k)), .int .u32 (u (ot k))]) (Kw.ld_mid 79 (0 + k * 5) [.string (nm k), .int .u8 85, .int .u32 (u (cd k)), .int .u32 (u (ff k)), .int .u32 (u (ot k))] (M2.get 0 rfl) (row32_s k hk hs) _ Try.underlying79 rfl (by kernel_rfl)) ?_
  refine Kw.alloc #[.string ⟨#[]⟩, .int .u8 0, .int .u32 0, .int .u32 0, .int .u32 0] 79 M2 (by kernel_rfl) (by kernel_rfl) fun w3 B3 M3 => ?_
  refine Kw.storeAll 0 79 #[.string (nm k), .int .u8 85, .int .u32 (u (cd k)), .int .u32 (u (ff k)), .int .u32 (u (ot k))] M3 rfl (by kernel_rfl) (by kernel_rfl) (Eq.trans (b := 5) (by kernel_rfl) (by kernel_rfl)) (by kernel_rfl) (by kernel_rfl) fun w4 M4 => ?_
  refine KS.n4 ?_
  refine KS.p (.pointer (some ⟨B1, 4, none⟩)) ?_
  refine KS.l 2 B1 4 (.int .i64 (s imm)) M4 2 Try.underlying2 ?_
  refine KS.p (.int .i64 (s imm)) ?_
  refine KS.n4 ?_
  refine KS.p (.pointer (some ⟨B3, 2, none⟩)) ?_
  refine KS.l 37 B3 2 (.int .u32 (u (cd k))) M4 0 Try.underlying37 ?_
  refine KS.p (.pointer (some ⟨B3, 3, none⟩)) ?_
  refine KS.l 37 B3 3 (.int .u32 (u (ff k))) M4 0 Try.underlying37 ?_
  refine Kw.pure (.int .u32 (u (((ff k) <<< 12) &&& 4294967295#64))) (by kernel_rfl) (Kw.eqv (v := .int .u32 (IntKind.u32.wrap ((u (ff k)) * 2 ^ 12))) (by kernel_rfl) (congrArg (Value.int .u32) (wrap32_shl (ff k) 12 (by omega)))) ?_
  obtain ⟨a5, e5⟩ : ∃ z, ((cd k) + (((ff k) <<< 12) &&& 4294967295#64)) &&& 4294967295#64 = z := ⟨_, rfl⟩
  refine Kw.pure (.int .u32 (u a5)) (by kernel_rfl) (Kw.eqv (v := .int .u32 (IntKind.u32.wrap ((u (cd k)) + (u (((ff k) <<< 12) &&& 4294967295#64))))) (by kernel_rfl) ((congrArg (Value.int .u32) (wrap32_add (cd k) (((ff k) <<< 12) &&& 4294967295#64))).trans (congrArg (fun z => Value.int .u32 (u z)) e5))) ?_
  refine KS.p (.int .u32 (u a5)) ?_
  refine KS.n4 ?_
  refine KS.p (.pointer (some ⟨B1, 1, none⟩)) ?_
  refine KS.l 3 B1 1 (.int .i64 (s rd)) M4 2 Try.underlying3 ?_
  refine Kw.pure (.int .i64 (s (rd &&& 31#64))) (by kernel_rfl) (Kw.eqv (v := .int .i64 (Go.bits .and .i64 ((s rd)) ((31 : Int)))) (by kernel_rfl) (congrArg (Value.int .i64) (bits_andi rd 31#64))) ?_
  refine Kw.pure (.int .u32 (u ((rd &&& 31#64) &&& 4294967295#64))) (by kernel_rfl) (Kw.eqv (v := .int .u32 (IntKind.u32.wrap (s (rd &&& 31#64)))) (by kernel_rfl) (congrArg (Value.int .u32) (wrap32_s (rd &&& 31#64)))) ?_
  obtain ⟨a6, e6⟩ : ∃ z, (((rd &&& 31#64) &&& 4294967295#64) <<< 7) &&& 4294967295#64 = z := ⟨_, rfl⟩
  refine Kw.pure (.int .u32 (u a6)) (by kernel_rfl) (Kw.eqv (v := .int .u32 (IntKind.u32.wrap ((u ((rd &&& 31#64) &&& 4294967295#64)) * 2 ^ 7))) (by kernel_rfl) ((congrArg (Value.int .u32) (wrap32_shl ((rd &&& 31#64) &&& 4294967295#64) 7 (by omega))).trans (congrArg (fun z => Value.int .u32 (u z)) e6))) ?_
  refine KS.p (.int .u32 (u a6)) ?_
  refine KS.n4 ?_
  refine KS.p (.pointer (some ⟨B1, 2, none⟩)) ?_
  refine KS.l 3 B1 2 (.int .i64 (s rs1)) M4 2 Try.underlying3 ?_
  refine Kw.pure (.int .i64 (s (rs1 &&& 31#64))) (by kernel_rfl) (Kw.eqv (v := .int .i64 (Go.bits .and .i64 ((s rs1)) ((31 : Int)))) (by kernel_rfl) (congrArg (Value.int .i64) (bits_andi rs1 31#64))) ?_
  refine Kw.pure (.int .u32 (u ((rs1 &&& 31#64) &&& 4294967295#64))) (by kernel_rfl) (Kw.eqv (v := .int .u32 (IntKind.u32.wrap (s (rs1 &&& 31#64)))) (by kernel_rfl) (congrArg (Value.int .u32) (wrap32_s (rs1 &&& 31#64)))) ?_
  obtain ⟨a7, e7⟩ : ∃ z, (((rs1 &&& 31#64) &&& 4294967295#64) <<< 15) &&& 4294967295#64 = z := ⟨_, rfl⟩
  refine Kw.pure (.int .u32 (u a7)) (by kernel_rfl) (Kw.eqv (v := .int .u32 (IntKind.u32.wrap ((u ((rs1 &&& 31#64) &&& 4294967295#64)) * 2 ^ 15))) (by kernel_rfl) ((congrArg (Value.int .u32) (wrap32_shl ((rs1 &&& 31#64) &&& 4294967295#64) 15 (by omega))).trans (congrArg (fun z => Value.int .u32 (u z)) e7))) ?_
  refine KS.p (.int .u32 (u a7)) ?_
  refine KS.n4 ?_
  refine KS.p (.pointer (some ⟨B1, 3, none⟩)) ?_
  refine KS.l 3 B1 3 (.int .i64 (s rs2)) M4 2 Try.underlying3 ?_
  refine Kw.pure (.int .i64 (s (rs2 &&& 31#64))) (by kernel_rfl) (Kw.eqv (v := .int .i64 (Go.bits .and .i64 ((s rs2)) ((31 : Int)))) (by kernel_rfl) (congrArg (Value.int .i64) (bits_andi rs2 31#64))) ?_
  refine Kw.pure (.int .u32 (u ((rs2 &&& 31#64) &&& 4294967295#64))) (by kernel_rfl) (Kw.eqv (v := .int .u32 (IntKind.u32.wrap (s (rs2 &&& 31#64)))) (by kernel_rfl) (congrArg (Value.int .u32) (wrap32_s (rs2 &&& 31#64)))) ?_
  obtain ⟨a8, e8⟩ : ∃ z, (((rs2 &&& 31#64) &&& 4294967295#64) <<< 20) &&& 4294967295#64 = z := ⟨_, rfl⟩
  refine Kw.pure (.int .u32 (u a8)) (by kernel_rfl) (Kw.eqv (v := .int .u32 (IntKind.u32.wrap ((u ((rs2 &&& 31#64) &&& 4294967295#64)) * 2 ^ 20))) (by kernel_rfl) ((congrArg (Value.int .u32) (wrap32_shl ((rs2 &&& 31#64) &&& 4294967295#64) 20 (by omega))).trans (congrArg (fun z => Value.int .u32 (u z)) e8))) ?_
  refine KS.p (.int .u32 (u a8)) ?_
  refine KS.n5 ?_
  refine KS.p (.pointer (some ⟨B3, 1, none⟩)) ?_
  refine KS.l 5 B3 1 (.int .u8 85) M4 0 Try.underlying5 ?_
  refine Kw.fin (Kw.then_normal (wp_block (wp_seq (Kw.region ?_))))
  refine KS.p (.bool false) ?_
  refine KS.p (.bool false) ?_
  refine KS.n2 ?_
  refine wp_cond_false (by kernel_rfl) ?_
  refine wp_seq (Kw.region ?_)
  refine KS.p (.bool false) ?_
  refine KS.p (.bool false) ?_
  refine KS.n2 ?_
  refine wp_cond_false (by kernel_rfl) ?_
  refine wp_seq (Kw.region ?_)
  refine KS.p (.bool false) ?_
  refine KS.p (.bool false) ?_
  refine KS.n2 ?_
  refine wp_cond_false (by kernel_rfl) ?_
  refine wp_seq (wp_seq (Kw.region ?_))
  refine KS.p (.bool false) ?_
  refine KS.p (.bool false) ?_
  refine KS.n2 ?_
  refine wp_cond_false (by kernel_rfl) ?_
  refine Kw.region ?_
  refine KS.p (.bool false) ?_
  refine KS.p (.bool false) ?_
  refine KS.n2 ?_
  refine wp_cond_false (by kernel_rfl) ?_
  refine wp_seq (Kw.region ?_)
  refine KS.p (.bool false) ?_
  refine KS.p (.bool false) ?_
  refine KS.n2 ?_
  refine wp_cond_false (by kernel_rfl) ?_
  refine wp_seq (Kw.region ?_)
  refine KS.p (.bool false) ?_
  refine KS.p (.bool false) ?_
  refine KS.n2 ?_
  refine wp_cond_false (by kernel_rfl) ?_
  refine wp_seq (Kw.region ?_)
  refine KS.p (.bool false) ?_
  refine KS.p (.bool false) ?_
  refine KS.n2 ?_
  refine wp_cond_false (by kernel_rfl) ?_
  refine wp_seq (Kw.region ?_)
  refine KS.p (.bool true) ?_
  refine KS.p (.bool true) ?_
  refine KS.n2 ?_
  refine wp_cond_true (by kernel_rfl) ?_
  refine wp_seq ?_
  refine Canon.region_canon (I := fun w => Kw.Mem [] W w [(B3, #[.string (nm k), .int .u8 85, .int .u32 (u (cd k)), .int .u32 (u (ff k)), .int .u32 (u (ot k))], 79), (B2, rows32, 79), (B1, #[.int .i64 ((k + 1 : Nat) : Int), .int .i64 (s rd), .int .i64 (s rs1), .int .i64 (s rs2), .int .i64 (s imm)], 41)]) (by kernel_rfl) (by decide +kernel) M4.drew' ?_
  refine KS.q (.pointer (some ⟨B3, 2, none⟩)) ?_
  refine KS.ql 37 B3 2 (.int .u32 (u (cd k))) 0 Try.underlying37 ?_
  refine KS.q (.int .u32 (u a6)) ?_
  refine Canon.pure (.int .u32 (u (((cd k) + a6) &&& 4294967295#64))) (by kernel_rfl) (fun w => Kw.eqv (v := .int .u32 (IntKind.u32.wrap ((u (cd k)) + (u a6)))) (by kernel_rfl) (congrArg (Value.int .u32) (wrap32_add (cd k) a6))) ?_
  refine KS.q (.int .i64 (s imm)) ?_
  refine Canon.call (.int .u32 (u ((getI imm 12 20 <<< 12) &&& 4294967295#64))) 51 #[.int .i64 (s imm), .int .i64 12, .int .i64 20, .int .i64 12] (by kernel_rfl) (fun w => by kernel_rfl) (fun w hw => (bits_n imm 12 20 12 (by decide) w).mono fun r w1 ⟨he, hb⟩ => ⟨he, hw.call hb⟩) ?_
  obtain ⟨a9, e9⟩ : ∃ z, ((((cd k) + a6) &&& 4294967295#64) + ((getI imm 12 20 <<< 12) &&& 4294967295#64)) &&& 4294967295#64 = z := ⟨_, rfl⟩
  refine Canon.pure (.int .u32 (u a9)) (by kernel_rfl) (fun w => Kw.eqv (v := .int .u32 (IntKind.u32.wrap ((u (((cd k) + a6) &&& 4294967295#64)) + (u ((getI imm 12 20 <<< 12) &&& 4294967295#64))))) (by kernel_rfl) ((congrArg (Value.int .u32) (wrap32_add (((cd k) + a6) &&& 4294967295#64) ((getI imm 12 20 <<< 12) &&& 4294967295#64))).trans (congrArg (fun z => Value.int .u32 (u z)) e9))) ?_
  refine KS.q (.pointer (some ⟨B1, 1, none⟩)) ?_
  refine KS.ql 3 B1 1 (.int .i64 (s rd)) 2 Try.underlying3 ?_
  refine Canon.call (.bool (fitsI rd 5 false)) 50 #[.int .i64 (s rd)] (by kernel_rfl) (fun w => by kernel_rfl) (fun w hw => (reg_c rd w).mono fun r w1 ⟨he, hb⟩ => ⟨he, hw.call hb⟩) ?_
  rcases Bool.eq_false_or_eq_true ((fitsI rd 5 false)) with h10 | h10
  · skip
    refine Canon.pure (.bool true) (by kernel_rfl) (fun w => Kw.eqv (v := .bool ((fitsI rd 5 false))) (by kernel_rfl) (congrArg Value.bool h10)) ?_
    refine KS.q (.int .i64 (s imm)) ?_
    refine Canon.call (.bool (fitsI imm 32 true)) 52 #[.int .i64 (s imm), .int .i64 32, .bool true] (by kernel_rfl) (fun w => by kernel_rfl) (fun w hw => (rfits_c imm 32 true w).mono fun r w1 ⟨he, hb⟩ => ⟨he, hw.call hb⟩) ?_
    refine KS.q (.bool (fitsI imm 32 true)) ?_
    rcases Bool.eq_false_or_eq_true ((fitsI imm 32 true)) with h11 | h11
    · skip
      refine Canon.pure (.bool true) (by kernel_rfl) (fun w => Kw.eqv (v := .bool ((fitsI imm 32 true))) (by kernel_rfl) (congrArg Value.bool h11)) ?_
      refine KS.q (.int .i64 (s imm)) ?_
      refine KS.q (.int .i64 (Int.tmod ((s imm)) (4096 : Int))) ?_
      refine Canon.pure (.bool (u (imm &&& maskI 12) == 0)) (by kernel_rfl) (fun w => Kw.eqv (v := .bool ((Int.tmod ((s imm)) (4096 : Int)) == (0 : Int))) (by kernel_rfl) (congrArg Value.bool (low_mod imm 12 (by omega)))) ?_
      refine KS.q (.bool (u (imm &&& maskI 12) == 0)) ?_
      refine KS.q (.int .u32 (u a9)) ?_
      refine KS.q (.bool (u (imm &&& maskI 12) == 0)) ?_
      refine Canon.fin fun w12 M12 => ?_
      refine Kw.then_normal (wp_ret (Kw.block_ret (Kw.then_ret ?_)))
      exact bodyPost_ret (v := .tuple #[.int .u32 (u a9), .bool (u (imm &&& maskI 12) == 0)]) (by kernel_rfl) (by kernel_rfl) ⟨ret2 (by subst e6 e9; exact sum_U k hk hs rd rs1 rs2 imm) (by simp [fitB_U, h10, h11]), M12.drop⟩
    · skip
      refine Canon.pure (.bool false) (by kernel_rfl) (fun w => Kw.eqv (v := .bool ((fitsI imm 32 true))) (by kernel_rfl) (congrArg Value.bool h11)) ?_
      refine KS.qk ?_
      refine KS.qk ?_
      refine KS.qk ?_
      refine KS.q (.bool false) ?_
      refine KS.q (.int .u32 (u a9)) ?_
      refine KS.q (.bool false) ?_
      refine Canon.fin fun w13 M13 => ?_
      refine Kw.then_normal (wp_ret (Kw.block_ret (Kw.then_ret ?_)))
      exact bodyPost_ret (v := .tuple #[.int .u32 (u a9), .bool false]) (by kernel_rfl) (by kernel_rfl) ⟨ret2 (by subst e6 e9; exact sum_U k hk hs rd rs1 rs2 imm) (by simp [fitB_U, h10, h11]), M13.drop⟩
  · skip
    refine Canon.pure (.bool false) (by kernel_rfl) (fun w => Kw.eqv (v := .bool ((fitsI rd 5 false))) (by kernel_rfl) (congrArg Value.bool h10)) ?_
    refine KS.qk ?_
    refine KS.qk ?_
    refine KS.q (.bool false) ?_
    refine KS.q (.bool false) ?_
    refine KS.qk ?_
    refine KS.qk ?_
    refine KS.qk ?_
    refine KS.q (.bool false) ?_
    refine KS.q (.int .u32 (u a9)) ?_
    refine KS.q (.bool false) ?_
    refine Canon.fin fun w14 M14 => ?_
    refine Kw.then_normal (wp_ret (Kw.block_ret (Kw.then_ret ?_)))
    exact bodyPost_ret (v := .tuple #[.int .u32 (u a9), .bool false]) (by kernel_rfl) (by kernel_rfl) ⟨ret2 (by subst e6 e9; exact sum_U k hk hs rd rs1 rs2 imm) (by simp [fitB_U, h10]), M14.drop⟩
set_option maxHeartbeats 8000000 in
set_option maxRecDepth 100000 in
theorem renc_J (k : Nat) (hk : k < 69) (hs : sh k = 74) (rd rs1 rs2 imm : BitVec 64) (W : World) : Calls Try.prog 26 #[.agg #[.int .i64 ((k + 1 : Nat) : Int), .int .i64 (s rd), .int .i64 (s rs1), .int .i64 (s rs2), .int .i64 (s imm)]] W fun e W' => e = .returned (.tuple #[.int .u32 (u (word_J k rd rs1 rs2 imm &&& 4294967295#64)), .bool (fitB_J imm && fitsI rd 5 false)]) ∧ Kw.Mem [] W W' [] := by
  refine calls_of_wp Try.func26 rfl ?_
  have M0 : Kw.Mem [] W W [] := Kw.Mem.start _ _
  refine Kw.to (b := ⟨#[.agg #[.int .i64 ((k + 1 : Nat) : Int), .int .i64 (s rd), .int .i64 (s rs1), .int .i64 (s rs2), .int .i64 (s imm)], undef, undef, undef, undef, undef, undef, undef, undef, undef, undef, undef, undef, undef, undef, undef, undef, undef, undef, undef, undef, undef, undef, undef, undef, undef, undef, undef, undef, undef, undef, undef, undef, undef, undef, undef, undef, undef, undef, undef, undef, undef, undef, undef, undef, undef, undef, undef, undef, undef, undef, undef, undef, undef, undef, undef, undef, undef, undef, undef, undef, undef, undef, undef, undef, undef, undef, undef, undef, undef, undef, undef, undef, undef, undef, undef, undef, undef, undef, undef, undef, undef, undef, undef, undef, undef, undef, undef, undef, undef, undef, undef, undef, undef, undef, undef, undef, undef, undef, undef, undef, undef, undef, undef, undef, undef, undef, undef, undef, undef, undef, undef, undef, undef, undef, undef, undef, undef, undef, undef, undef, undef, undef, undef, undef, undef, undef, undef, undef, undef, undef, undef, undef, undef, undef, undef, undef, undef, undef, undef, undef, undef, undef, undef, undef, undef, undef, undef, undef, undef, undef, undef, undef, undef, undef, undef, undef, undef, undef, undef, undef, undef, undef, undef, undef, undef, undef, undef, undef, undef, undef, undef, undef, undef, undef, undef, undef, undef, undef, undef, undef, undef, undef, undef, undef, undef, undef, undef, undef, undef, undef, undef, undef, undef, undef, undef, undef, undef, undef, undef, undef, undef, undef, undef, undef, undef, undef, undef, undef, undef, undef, undef, undef, undef, undef, undef, undef, undef, undef, undef, undef, undef, undef, undef, undef, undef, undef, undef, undef, undef, undef, undef, undef, undef, undef, undef, undef, undef, undef, undef, undef, undef, undef, undef, undef, undef, undef, undef, undef, undef, undef, undef, undef, undef, undef, undef, undef, undef, undef, undef, undef, undef, undef, undef, undef, undef, undef, undef, undef], []⟩) (by kernel_rfl) ?_
  refine wp_seq (Kw.region ?_)
  refine Kw.alloc #[.int .i64 ((k + 1 : Nat) : Int), .int .i64 (s rd), .int .i64 (s rs1), .int .i64 (s rs2), .int .i64 (s imm)] 41 M0 (by kernel_rfl) (by kernel_rfl) fun w1 B1 M1 => ?_
  refine KS.p (.int .u32 0) ?_
  refine KS.p (.bool false) ?_
  refine KS.n4 ?_
  refine Held.callN (fun B => (.slice (some ⟨B, 0, none⟩) 69 69)) 49 #[] rows32 79 M1 (by kernel_rfl) (by kernel_rfl) (rows32_c w1) fun w2 B2 M2 => ?_
  refine KS.p (.slice (some ⟨B2, 0, none⟩) 69 69) ?_
  refine KS.n5 ?_
  refine KS.p (.pointer (some ⟨B1, 0, none⟩)) ?_
  refine KS.l 3 B1 0 (.int .i64 ((k + 1 : Nat) : Int)) M2 1 Try.underlying3 ?_
  refine Kw.pure (.bool false) (by kernel_rfl) (Kw.eqv (v := .bool (decide (((k + 1 : Nat) : Int) < (1 : Int)))) (by kernel_rfl) (by rw [decide_eq_false (by omega)])) ?_
  refine KS.p (.bool false) ?_
  refine KS.p (.pointer (some ⟨B1, 0, none⟩)) ?_
  refine KS.l 3 B1 0 (.int .i64 ((k + 1 : Nat) : Int)) M2 1 Try.underlying3 ?_
  refine KS.p (.slice (some ⟨B2, 0, none⟩) 69 69) ?_
  refine KS.p (.int .i64 69) ?_
  refine Kw.pure (.bool false) (by kernel_rfl) (Kw.eqv (v := .bool (decide (((k + 1 : Nat) : Int) > (69 : Int)))) (by kernel_rfl) (by rw [decide_eq_false (by omega)])) ?_
  refine KS.p (.bool false) ?_
  refine KS.n2 ?_
  refine wp_cond_false (by kernel_rfl) ?_
  refine wp_skip (Kw.then_normal (wp_seq (Kw.region ?_)))
  refine KS.p (.slice (some ⟨B2, 0, none⟩) 69 69) ?_
  refine KS.p (.pointer (some ⟨B1, 0, none⟩)) ?_
  refine KS.l 3 B1 0 (.int .i64 ((k + 1 : Nat) : Int)) M2 1 Try.underlying3 ?_
  refine Kw.pure (.int .i64 ((k : Nat) : Int)) (by kernel_rfl) (Kw.eqv (v := .int .i64 (IntKind.i64.wrap (((k + 1 : Nat) : Int) - (1 : Int)))) (by kernel_rfl) (by rw [IntWalk.i64_in _ (by omega)]; congr 1; omega)) ?_
  refine KS.s (Sl.ixaS 76 (.slice (some ⟨B2, 0, none⟩) 69 69) (.int .i64 ((k : Nat) : Int))) (.pointer (some ⟨B2, 0 + k * 5, none⟩)) (Sl.ixa Try.underlying76 (by kernel_rfl) B2 0 69 69 k hk w2) ?_
  refine KS.s (Canon.ldS 79 (.pointer (some ⟨B2, 0 + k * 5, none⟩))) (.agg #[.string (nm k), .int .u8 74, .int .u32 (u (cd k)), .int .u32 (u (ff k)), .int .u32 (u (ot k))]) (Kw.ld_mid 79 (0 + k * 5) [.string (nm k), .int .u8 74, .int .u32 (u (cd k)), .int .u32 (u (ff k)), .int .u32 (u (ot k))] (M2.get 0 rfl) (row32_s k hk hs) _ Try.underlying79 rfl (by kernel_rfl)) ?_
  refine Kw.alloc #[.string ⟨#[]⟩, .int .u8 0, .int .u32 0, .int .u32 0, .int .u32 0] 79 M2 (by kernel_rfl) (by kernel_rfl) fun w3 B3 M3 => ?_
  refine Kw.storeAll 0 79 #[.string (nm k), .int .u8 74, .int .u32 (u (cd k)), .int .u32 (u (ff k)), .int .u32 (u (ot k))] M3 rfl (by kernel_rfl) (by kernel_rfl) (Eq.trans (b := 5) (by kernel_rfl) (by kernel_rfl)) (by kernel_rfl) (by kernel_rfl) fun w4 M4 => ?_
  refine KS.n4 ?_
  refine KS.p (.pointer (some ⟨B1, 4, none⟩)) ?_
  refine KS.l 2 B1 4 (.int .i64 (s imm)) M4 2 Try.underlying2 ?_
  refine KS.p (.int .i64 (s imm)) ?_
  refine KS.n4 ?_
  refine KS.p (.pointer (some ⟨B3, 2, none⟩)) ?_
  refine KS.l 37 B3 2 (.int .u32 (u (cd k))) M4 0 Try.underlying37 ?_
  refine KS.p (.pointer (some ⟨B3, 3, none⟩)) ?_
  refine KS.l 37 B3 3 (.int .u32 (u (ff k))) M4 0 Try.underlying37 ?_
  refine Kw.pure (.int .u32 (u (((ff k) <<< 12) &&& 4294967295#64))) (by kernel_rfl) (Kw.eqv (v := .int .u32 (IntKind.u32.wrap ((u (ff k)) * 2 ^ 12))) (by kernel_rfl) (congrArg (Value.int .u32) (wrap32_shl (ff k) 12 (by omega)))) ?_
  obtain ⟨a5, e5⟩ : ∃ z, ((cd k) + (((ff k) <<< 12) &&& 4294967295#64)) &&& 4294967295#64 = z := ⟨_, rfl⟩
  refine Kw.pure (.int .u32 (u a5)) (by kernel_rfl) (Kw.eqv (v := .int .u32 (IntKind.u32.wrap ((u (cd k)) + (u (((ff k) <<< 12) &&& 4294967295#64))))) (by kernel_rfl) ((congrArg (Value.int .u32) (wrap32_add (cd k) (((ff k) <<< 12) &&& 4294967295#64))).trans (congrArg (fun z => Value.int .u32 (u z)) e5))) ?_
  refine KS.p (.int .u32 (u a5)) ?_
  refine KS.n4 ?_
  refine KS.p (.pointer (some ⟨B1, 1, none⟩)) ?_
  refine KS.l 3 B1 1 (.int .i64 (s rd)) M4 2 Try.underlying3 ?_
  refine Kw.pure (.int .i64 (s (rd &&& 31#64))) (by kernel_rfl) (Kw.eqv (v := .int .i64 (Go.bits .and .i64 ((s rd)) ((31 : Int)))) (by kernel_rfl) (congrArg (Value.int .i64) (bits_andi rd 31#64))) ?_
  refine Kw.pure (.int .u32 (u ((rd &&& 31#64) &&& 4294967295#64))) (by kernel_rfl) (Kw.eqv (v := .int .u32 (IntKind.u32.wrap (s (rd &&& 31#64)))) (by kernel_rfl) (congrArg (Value.int .u32) (wrap32_s (rd &&& 31#64)))) ?_
  obtain ⟨a6, e6⟩ : ∃ z, (((rd &&& 31#64) &&& 4294967295#64) <<< 7) &&& 4294967295#64 = z := ⟨_, rfl⟩
  refine Kw.pure (.int .u32 (u a6)) (by kernel_rfl) (Kw.eqv (v := .int .u32 (IntKind.u32.wrap ((u ((rd &&& 31#64) &&& 4294967295#64)) * 2 ^ 7))) (by kernel_rfl) ((congrArg (Value.int .u32) (wrap32_shl ((rd &&& 31#64) &&& 4294967295#64) 7 (by omega))).trans (congrArg (fun z => Value.int .u32 (u z)) e6))) ?_
  refine KS.p (.int .u32 (u a6)) ?_
  refine KS.n4 ?_
  refine KS.p (.pointer (some ⟨B1, 2, none⟩)) ?_
  refine KS.l 3 B1 2 (.int .i64 (s rs1)) M4 2 Try.underlying3 ?_
  refine Kw.pure (.int .i64 (s (rs1 &&& 31#64))) (by kernel_rfl) (Kw.eqv (v := .int .i64 (Go.bits .and .i64 ((s rs1)) ((31 : Int)))) (by kernel_rfl) (congrArg (Value.int .i64) (bits_andi rs1 31#64))) ?_
  refine Kw.pure (.int .u32 (u ((rs1 &&& 31#64) &&& 4294967295#64))) (by kernel_rfl) (Kw.eqv (v := .int .u32 (IntKind.u32.wrap (s (rs1 &&& 31#64)))) (by kernel_rfl) (congrArg (Value.int .u32) (wrap32_s (rs1 &&& 31#64)))) ?_
  obtain ⟨a7, e7⟩ : ∃ z, (((rs1 &&& 31#64) &&& 4294967295#64) <<< 15) &&& 4294967295#64 = z := ⟨_, rfl⟩
  refine Kw.pure (.int .u32 (u a7)) (by kernel_rfl) (Kw.eqv (v := .int .u32 (IntKind.u32.wrap ((u ((rs1 &&& 31#64) &&& 4294967295#64)) * 2 ^ 15))) (by kernel_rfl) ((congrArg (Value.int .u32) (wrap32_shl ((rs1 &&& 31#64) &&& 4294967295#64) 15 (by omega))).trans (congrArg (fun z => Value.int .u32 (u z)) e7))) ?_
  refine KS.p (.int .u32 (u a7)) ?_
  refine KS.n4 ?_
  refine KS.p (.pointer (some ⟨B1, 3, none⟩)) ?_
  refine KS.l 3 B1 3 (.int .i64 (s rs2)) M4 2 Try.underlying3 ?_
  refine Kw.pure (.int .i64 (s (rs2 &&& 31#64))) (by kernel_rfl) (Kw.eqv (v := .int .i64 (Go.bits .and .i64 ((s rs2)) ((31 : Int)))) (by kernel_rfl) (congrArg (Value.int .i64) (bits_andi rs2 31#64))) ?_
  refine Kw.pure (.int .u32 (u ((rs2 &&& 31#64) &&& 4294967295#64))) (by kernel_rfl) (Kw.eqv (v := .int .u32 (IntKind.u32.wrap (s (rs2 &&& 31#64)))) (by kernel_rfl) (congrArg (Value.int .u32) (wrap32_s (rs2 &&& 31#64)))) ?_
  obtain ⟨a8, e8⟩ : ∃ z, (((rs2 &&& 31#64) &&& 4294967295#64) <<< 20) &&& 4294967295#64 = z := ⟨_, rfl⟩
  refine Kw.pure (.int .u32 (u a8)) (by kernel_rfl) (Kw.eqv (v := .int .u32 (IntKind.u32.wrap ((u ((rs2 &&& 31#64) &&& 4294967295#64)) * 2 ^ 20))) (by kernel_rfl) ((congrArg (Value.int .u32) (wrap32_shl ((rs2 &&& 31#64) &&& 4294967295#64) 20 (by omega))).trans (congrArg (fun z => Value.int .u32 (u z)) e8))) ?_
  refine KS.p (.int .u32 (u a8)) ?_
  refine KS.n5 ?_
  refine KS.p (.pointer (some ⟨B3, 1, none⟩)) ?_
  refine KS.l 5 B3 1 (.int .u8 74) M4 0 Try.underlying5 ?_
  refine Kw.fin (Kw.then_normal (wp_block (wp_seq (Kw.region ?_))))
  refine KS.p (.bool false) ?_
  refine KS.p (.bool false) ?_
  refine KS.n2 ?_
  refine wp_cond_false (by kernel_rfl) ?_
  refine wp_seq (Kw.region ?_)
  refine KS.p (.bool false) ?_
  refine KS.p (.bool false) ?_
  refine KS.n2 ?_
  refine wp_cond_false (by kernel_rfl) ?_
  refine wp_seq (Kw.region ?_)
  refine KS.p (.bool false) ?_
  refine KS.p (.bool false) ?_
  refine KS.n2 ?_
  refine wp_cond_false (by kernel_rfl) ?_
  refine wp_seq (wp_seq (Kw.region ?_))
  refine KS.p (.bool false) ?_
  refine KS.p (.bool false) ?_
  refine KS.n2 ?_
  refine wp_cond_false (by kernel_rfl) ?_
  refine Kw.region ?_
  refine KS.p (.bool false) ?_
  refine KS.p (.bool false) ?_
  refine KS.n2 ?_
  refine wp_cond_false (by kernel_rfl) ?_
  refine wp_seq (Kw.region ?_)
  refine KS.p (.bool false) ?_
  refine KS.p (.bool false) ?_
  refine KS.n2 ?_
  refine wp_cond_false (by kernel_rfl) ?_
  refine wp_seq (Kw.region ?_)
  refine KS.p (.bool false) ?_
  refine KS.p (.bool false) ?_
  refine KS.n2 ?_
  refine wp_cond_false (by kernel_rfl) ?_
  refine wp_seq (Kw.region ?_)
  refine KS.p (.bool false) ?_
  refine KS.p (.bool false) ?_
  refine KS.n2 ?_
  refine wp_cond_false (by kernel_rfl) ?_
  refine wp_seq (Kw.region ?_)
  refine KS.p (.bool false) ?_
  refine KS.p (.bool false) ?_
  refine KS.n2 ?_
  refine wp_cond_false (by kernel_rfl) ?_
  refine wp_skip (Kw.block_normal (Kw.then_normal (wp_seq ?_)))
  refine Canon.region_canon (I := fun w => Kw.Mem [] W w [(B3, #[.string (nm k), .int .u8 74, .int .u32 (u (cd k)), .int .u32 (u (ff k)), .int .u32 (u (ot k))], 79), (B2, rows32, 79), (B1, #[.int .i64 ((k + 1 : Nat) : Int), .int .i64 (s rd), .int .i64 (s rs1), .int .i64 (s rs2), .int .i64 (s imm)], 41)]) (by kernel_rfl) (by decide +kernel) M4.drew' ?_
  refine KS.q (.pointer (some ⟨B3, 2, none⟩)) ?_
  refine KS.ql 37 B3 2 (.int .u32 (u (cd k))) 0 Try.underlying37 ?_
  refine KS.q (.int .u32 (u a6)) ?_
  refine Canon.pure (.int .u32 (u (((cd k) + a6) &&& 4294967295#64))) (by kernel_rfl) (fun w => Kw.eqv (v := .int .u32 (IntKind.u32.wrap ((u (cd k)) + (u a6)))) (by kernel_rfl) (congrArg (Value.int .u32) (wrap32_add (cd k) a6))) ?_
  refine KS.q (.int .i64 (s imm)) ?_
  refine Canon.call (.int .u32 (u ((getI imm 12 8 <<< 12) &&& 4294967295#64))) 51 #[.int .i64 (s imm), .int .i64 12, .int .i64 8, .int .i64 12] (by kernel_rfl) (fun w => by kernel_rfl) (fun w hw => (bits_n imm 12 8 12 (by decide) w).mono fun r w1 ⟨he, hb⟩ => ⟨he, hw.call hb⟩) ?_
  obtain ⟨a9, e9⟩ : ∃ z, ((((cd k) + a6) &&& 4294967295#64) + ((getI imm 12 8 <<< 12) &&& 4294967295#64)) &&& 4294967295#64 = z := ⟨_, rfl⟩
  refine Canon.pure (.int .u32 (u a9)) (by kernel_rfl) (fun w => Kw.eqv (v := .int .u32 (IntKind.u32.wrap ((u (((cd k) + a6) &&& 4294967295#64)) + (u ((getI imm 12 8 <<< 12) &&& 4294967295#64))))) (by kernel_rfl) ((congrArg (Value.int .u32) (wrap32_add (((cd k) + a6) &&& 4294967295#64) ((getI imm 12 8 <<< 12) &&& 4294967295#64))).trans (congrArg (fun z => Value.int .u32 (u z)) e9))) ?_
  refine KS.q (.int .i64 (s imm)) ?_
  refine Canon.call (.int .u32 (u ((getI imm 11 1 <<< 20) &&& 4294967295#64))) 51 #[.int .i64 (s imm), .int .i64 11, .int .i64 1, .int .i64 20] (by kernel_rfl) (fun w => by kernel_rfl) (fun w hw => (bits_n imm 11 1 20 (by decide) w).mono fun r w1 ⟨he, hb⟩ => ⟨he, hw.call hb⟩) ?_
  obtain ⟨a10, e10⟩ : ∃ z, (a9 + ((getI imm 11 1 <<< 20) &&& 4294967295#64)) &&& 4294967295#64 = z := ⟨_, rfl⟩
  refine Canon.pure (.int .u32 (u a10)) (by kernel_rfl) (fun w => Kw.eqv (v := .int .u32 (IntKind.u32.wrap ((u a9) + (u ((getI imm 11 1 <<< 20) &&& 4294967295#64))))) (by kernel_rfl) ((congrArg (Value.int .u32) (wrap32_add a9 ((getI imm 11 1 <<< 20) &&& 4294967295#64))).trans (congrArg (fun z => Value.int .u32 (u z)) e10))) ?_
  refine KS.q (.int .i64 (s imm)) ?_
  refine Canon.call (.int .u32 (u ((getI imm 1 10 <<< 21) &&& 4294967295#64))) 51 #[.int .i64 (s imm), .int .i64 1, .int .i64 10, .int .i64 21] (by kernel_rfl) (fun w => by kernel_rfl) (fun w hw => (bits_n imm 1 10 21 (by decide) w).mono fun r w1 ⟨he, hb⟩ => ⟨he, hw.call hb⟩) ?_
  obtain ⟨a11, e11⟩ : ∃ z, (a10 + ((getI imm 1 10 <<< 21) &&& 4294967295#64)) &&& 4294967295#64 = z := ⟨_, rfl⟩
  refine Canon.pure (.int .u32 (u a11)) (by kernel_rfl) (fun w => Kw.eqv (v := .int .u32 (IntKind.u32.wrap ((u a10) + (u ((getI imm 1 10 <<< 21) &&& 4294967295#64))))) (by kernel_rfl) ((congrArg (Value.int .u32) (wrap32_add a10 ((getI imm 1 10 <<< 21) &&& 4294967295#64))).trans (congrArg (fun z => Value.int .u32 (u z)) e11))) ?_
  refine KS.q (.int .i64 (s imm)) ?_
  refine Canon.call (.int .u32 (u ((getI imm 20 1 <<< 31) &&& 4294967295#64))) 51 #[.int .i64 (s imm), .int .i64 20, .int .i64 1, .int .i64 31] (by kernel_rfl) (fun w => by kernel_rfl) (fun w hw => (bits_n imm 20 1 31 (by decide) w).mono fun r w1 ⟨he, hb⟩ => ⟨he, hw.call hb⟩) ?_
  obtain ⟨a12, e12⟩ : ∃ z, (a11 + ((getI imm 20 1 <<< 31) &&& 4294967295#64)) &&& 4294967295#64 = z := ⟨_, rfl⟩
  refine Canon.pure (.int .u32 (u a12)) (by kernel_rfl) (fun w => Kw.eqv (v := .int .u32 (IntKind.u32.wrap ((u a11) + (u ((getI imm 20 1 <<< 31) &&& 4294967295#64))))) (by kernel_rfl) ((congrArg (Value.int .u32) (wrap32_add a11 ((getI imm 20 1 <<< 31) &&& 4294967295#64))).trans (congrArg (fun z => Value.int .u32 (u z)) e12))) ?_
  refine KS.q (.pointer (some ⟨B1, 1, none⟩)) ?_
  refine KS.ql 3 B1 1 (.int .i64 (s rd)) 2 Try.underlying3 ?_
  refine Canon.call (.bool (fitsI rd 5 false)) 50 #[.int .i64 (s rd)] (by kernel_rfl) (fun w => by kernel_rfl) (fun w hw => (reg_c rd w).mono fun r w1 ⟨he, hb⟩ => ⟨he, hw.call hb⟩) ?_
  rcases Bool.eq_false_or_eq_true ((fitsI rd 5 false)) with h13 | h13
  · skip
    refine Canon.pure (.bool true) (by kernel_rfl) (fun w => Kw.eqv (v := .bool ((fitsI rd 5 false))) (by kernel_rfl) (congrArg Value.bool h13)) ?_
    refine KS.q (.int .i64 (s imm)) ?_
    refine Canon.call (.bool (fitsI imm 21 true)) 52 #[.int .i64 (s imm), .int .i64 21, .bool true] (by kernel_rfl) (fun w => by kernel_rfl) (fun w hw => (rfits_c imm 21 true w).mono fun r w1 ⟨he, hb⟩ => ⟨he, hw.call hb⟩) ?_
    refine KS.q (.bool (fitsI imm 21 true)) ?_
    rcases Bool.eq_false_or_eq_true ((fitsI imm 21 true)) with h14 | h14
    · skip
      refine Canon.pure (.bool true) (by kernel_rfl) (fun w => Kw.eqv (v := .bool ((fitsI imm 21 true))) (by kernel_rfl) (congrArg Value.bool h14)) ?_
      refine KS.q (.int .i64 (s imm)) ?_
      refine KS.q (.int .i64 (Int.tmod ((s imm)) (2 : Int))) ?_
      refine Canon.pure (.bool (u (imm &&& maskI 1) == 0)) (by kernel_rfl) (fun w => Kw.eqv (v := .bool ((Int.tmod ((s imm)) (2 : Int)) == (0 : Int))) (by kernel_rfl) (congrArg Value.bool (low_mod imm 1 (by omega)))) ?_
      refine KS.q (.bool (u (imm &&& maskI 1) == 0)) ?_
      refine KS.q (.int .u32 (u a12)) ?_
      refine KS.q (.bool (u (imm &&& maskI 1) == 0)) ?_
      refine Canon.fin fun w15 M15 => ?_
      refine Kw.then_normal (wp_ret ?_)
      exact bodyPost_ret (v := .tuple #[.int .u32 (u a12), .bool (u (imm &&& maskI 1) == 0)]) (by kernel_rfl) (by kernel_rfl) ⟨ret2 (by subst e6 e9 e10 e11 e12; exact sum_J k hk hs rd rs1 rs2 imm) (by simp [fitB_J, h13, h14]), M15.drop⟩
    · skip
      refine Canon.pure (.bool false) (by kernel_rfl) (fun w => Kw.eqv (v := .bool ((fitsI imm 21 true))) (by kernel_rfl) (congrArg Value.bool h14)) ?_
      refine KS.qk ?_
      refine KS.qk ?_
      refine KS.qk ?_
      refine KS.q (.bool false) ?_
      refine KS.q (.int .u32 (u a12)) ?_
      refine KS.q (.bool false) ?_
      refine Canon.fin fun w16 M16 => ?_
      refine Kw.then_normal (wp_ret ?_)
      exact bodyPost_ret (v := .tuple #[.int .u32 (u a12), .bool false]) (by kernel_rfl) (by kernel_rfl) ⟨ret2 (by subst e6 e9 e10 e11 e12; exact sum_J k hk hs rd rs1 rs2 imm) (by simp [fitB_J, h13, h14]), M16.drop⟩
  · skip
    refine Canon.pure (.bool false) (by kernel_rfl) (fun w => Kw.eqv (v := .bool ((fitsI rd 5 false))) (by kernel_rfl) (congrArg Value.bool h13)) ?_
    refine KS.qk ?_
    refine KS.qk ?_
    refine KS.q (.bool false) ?_
    refine KS.q (.bool false) ?_
    refine KS.qk ?_
    refine KS.qk ?_
    refine KS.qk ?_
    refine KS.q (.bool false) ?_
    refine KS.q (.int .u32 (u a12)) ?_
    refine KS.q (.bool false) ?_
    refine Canon.fin fun w17 M17 => ?_
    refine Kw.then_normal (wp_ret ?_)
    exact bodyPost_ret (v := .tuple #[.int .u32 (u a12), .bool false]) (by kernel_rfl) (by kernel_rfl) ⟨ret2 (by subst e6 e9 e10 e11 e12; exact sum_J k hk hs rd rs1 rs2 imm) (by simp [fitB_J, h13]), M17.drop⟩
set_option maxHeartbeats 8000000 in
set_option maxRecDepth 100000 in
theorem renc_N (k : Nat) (hk : k < 69) (hs : sh k = 78) (rd rs1 rs2 imm : BitVec 64) (W : World) : Calls Try.prog 26 #[.agg #[.int .i64 ((k + 1 : Nat) : Int), .int .i64 (s rd), .int .i64 (s rs1), .int .i64 (s rs2), .int .i64 (s imm)]] W fun e W' => e = .returned (.tuple #[.int .u32 (u (word_N k rd rs1 rs2 imm &&& 4294967295#64)), .bool (true)]) ∧ Kw.Mem [] W W' [] := by
  refine calls_of_wp Try.func26 rfl ?_
  have M0 : Kw.Mem [] W W [] := Kw.Mem.start _ _
  refine Kw.to (b := ⟨#[.agg #[.int .i64 ((k + 1 : Nat) : Int), .int .i64 (s rd), .int .i64 (s rs1), .int .i64 (s rs2), .int .i64 (s imm)], undef, undef, undef, undef, undef, undef, undef, undef, undef, undef, undef, undef, undef, undef, undef, undef, undef, undef, undef, undef, undef, undef, undef, undef, undef, undef, undef, undef, undef, undef, undef, undef, undef, undef, undef, undef, undef, undef, undef, undef, undef, undef, undef, undef, undef, undef, undef, undef, undef, undef, undef, undef, undef, undef, undef, undef, undef, undef, undef, undef, undef, undef, undef, undef, undef, undef, undef, undef, undef, undef, undef, undef, undef, undef, undef, undef, undef, undef, undef, undef, undef, undef, undef, undef, undef, undef, undef, undef, undef, undef, undef, undef, undef, undef, undef, undef, undef, undef, undef, undef, undef, undef, undef, undef, undef, undef, undef, undef, undef, undef, undef, undef, undef, undef, undef, undef, undef, undef, undef, undef, undef, undef, undef, undef, undef, undef, undef, undef, undef, undef, undef, undef, undef, undef, undef, undef, undef, undef, undef, undef, undef, undef, undef, undef, undef, undef, undef, undef, undef, undef, undef, undef, undef, undef, undef, undef, undef, undef, undef, undef, undef, undef, undef, undef, undef, undef, undef, undef, undef, undef, undef, undef, undef, undef, undef, undef, undef, undef, undef, undef, undef, undef, undef, undef, undef, undef, undef, undef, undef, undef, undef, undef, undef, undef, undef, undef, undef, undef, undef, undef, undef, undef, undef, undef, undef, undef, undef, undef, undef, undef, undef, undef, undef, undef, undef, undef, undef, undef, undef, undef, undef, undef, undef, undef, undef, undef, undef, undef, undef, undef, undef, undef, undef, undef, undef, undef, undef, undef, undef, undef, undef, undef, undef, undef, undef, undef, undef, undef, undef, undef, undef, undef, undef, undef, undef, undef, undef, undef, undef, undef, undef, undef, undef, undef, undef, undef, undef, undef], []⟩) (by kernel_rfl) ?_
  refine wp_seq (Kw.region ?_)
  refine Kw.alloc #[.int .i64 ((k + 1 : Nat) : Int), .int .i64 (s rd), .int .i64 (s rs1), .int .i64 (s rs2), .int .i64 (s imm)] 41 M0 (by kernel_rfl) (by kernel_rfl) fun w1 B1 M1 => ?_
  refine KS.p (.int .u32 0) ?_
  refine KS.p (.bool false) ?_
  refine KS.n4 ?_
  refine Held.callN (fun B => (.slice (some ⟨B, 0, none⟩) 69 69)) 49 #[] rows32 79 M1 (by kernel_rfl) (by kernel_rfl) (rows32_c w1) fun w2 B2 M2 => ?_
  refine KS.p (.slice (some ⟨B2, 0, none⟩) 69 69) ?_
  refine KS.n5 ?_
  refine KS.p (.pointer (some ⟨B1, 0, none⟩)) ?_
  refine KS.l 3 B1 0 (.int .i64 ((k + 1 : Nat) : Int)) M2 1 Try.underlying3 ?_
  refine Kw.pure (.bool false) (by kernel_rfl) (Kw.eqv (v := .bool (decide (((k + 1 : Nat) : Int) < (1 : Int)))) (by kernel_rfl) (by rw [decide_eq_false (by omega)])) ?_
  refine KS.p (.bool false) ?_
  refine KS.p (.pointer (some ⟨B1, 0, none⟩)) ?_
  refine KS.l 3 B1 0 (.int .i64 ((k + 1 : Nat) : Int)) M2 1 Try.underlying3 ?_
  refine KS.p (.slice (some ⟨B2, 0, none⟩) 69 69) ?_
  refine KS.p (.int .i64 69) ?_
  refine Kw.pure (.bool false) (by kernel_rfl) (Kw.eqv (v := .bool (decide (((k + 1 : Nat) : Int) > (69 : Int)))) (by kernel_rfl) (by rw [decide_eq_false (by omega)])) ?_
  refine KS.p (.bool false) ?_
  refine KS.n2 ?_
  refine wp_cond_false (by kernel_rfl) ?_
  refine wp_skip (Kw.then_normal (wp_seq (Kw.region ?_)))
  refine KS.p (.slice (some ⟨B2, 0, none⟩) 69 69) ?_
  refine KS.p (.pointer (some ⟨B1, 0, none⟩)) ?_
  refine KS.l 3 B1 0 (.int .i64 ((k + 1 : Nat) : Int)) M2 1 Try.underlying3 ?_
  refine Kw.pure (.int .i64 ((k : Nat) : Int)) (by kernel_rfl) (Kw.eqv (v := .int .i64 (IntKind.i64.wrap (((k + 1 : Nat) : Int) - (1 : Int)))) (by kernel_rfl) (by rw [IntWalk.i64_in _ (by omega)]; congr 1; omega)) ?_
  refine KS.s (Sl.ixaS 76 (.slice (some ⟨B2, 0, none⟩) 69 69) (.int .i64 ((k : Nat) : Int))) (.pointer (some ⟨B2, 0 + k * 5, none⟩)) (Sl.ixa Try.underlying76 (by kernel_rfl) B2 0 69 69 k hk w2) ?_
  refine KS.s (Canon.ldS 79 (.pointer (some ⟨B2, 0 + k * 5, none⟩))) (.agg #[.string (nm k), .int .u8 78, .int .u32 (u (cd k)), .int .u32 (u (ff k)), .int .u32 (u (ot k))]) (Kw.ld_mid 79 (0 + k * 5) [.string (nm k), .int .u8 78, .int .u32 (u (cd k)), .int .u32 (u (ff k)), .int .u32 (u (ot k))] (M2.get 0 rfl) (row32_s k hk hs) _ Try.underlying79 rfl (by kernel_rfl)) ?_
  refine Kw.alloc #[.string ⟨#[]⟩, .int .u8 0, .int .u32 0, .int .u32 0, .int .u32 0] 79 M2 (by kernel_rfl) (by kernel_rfl) fun w3 B3 M3 => ?_
  refine Kw.storeAll 0 79 #[.string (nm k), .int .u8 78, .int .u32 (u (cd k)), .int .u32 (u (ff k)), .int .u32 (u (ot k))] M3 rfl (by kernel_rfl) (by kernel_rfl) (Eq.trans (b := 5) (by kernel_rfl) (by kernel_rfl)) (by kernel_rfl) (by kernel_rfl) fun w4 M4 => ?_
  refine KS.n4 ?_
  refine KS.p (.pointer (some ⟨B1, 4, none⟩)) ?_
  refine KS.l 2 B1 4 (.int .i64 (s imm)) M4 2 Try.underlying2 ?_
  refine KS.p (.int .i64 (s imm)) ?_
  refine KS.n4 ?_
  refine KS.p (.pointer (some ⟨B3, 2, none⟩)) ?_
  refine KS.l 37 B3 2 (.int .u32 (u (cd k))) M4 0 Try.underlying37 ?_
  refine KS.p (.pointer (some ⟨B3, 3, none⟩)) ?_
  refine KS.l 37 B3 3 (.int .u32 (u (ff k))) M4 0 Try.underlying37 ?_
  refine Kw.pure (.int .u32 (u (((ff k) <<< 12) &&& 4294967295#64))) (by kernel_rfl) (Kw.eqv (v := .int .u32 (IntKind.u32.wrap ((u (ff k)) * 2 ^ 12))) (by kernel_rfl) (congrArg (Value.int .u32) (wrap32_shl (ff k) 12 (by omega)))) ?_
  obtain ⟨a5, e5⟩ : ∃ z, ((cd k) + (((ff k) <<< 12) &&& 4294967295#64)) &&& 4294967295#64 = z := ⟨_, rfl⟩
  refine Kw.pure (.int .u32 (u a5)) (by kernel_rfl) (Kw.eqv (v := .int .u32 (IntKind.u32.wrap ((u (cd k)) + (u (((ff k) <<< 12) &&& 4294967295#64))))) (by kernel_rfl) ((congrArg (Value.int .u32) (wrap32_add (cd k) (((ff k) <<< 12) &&& 4294967295#64))).trans (congrArg (fun z => Value.int .u32 (u z)) e5))) ?_
  refine KS.p (.int .u32 (u a5)) ?_
  refine KS.n4 ?_
  refine KS.p (.pointer (some ⟨B1, 1, none⟩)) ?_
  refine KS.l 3 B1 1 (.int .i64 (s rd)) M4 2 Try.underlying3 ?_
  refine Kw.pure (.int .i64 (s (rd &&& 31#64))) (by kernel_rfl) (Kw.eqv (v := .int .i64 (Go.bits .and .i64 ((s rd)) ((31 : Int)))) (by kernel_rfl) (congrArg (Value.int .i64) (bits_andi rd 31#64))) ?_
  refine Kw.pure (.int .u32 (u ((rd &&& 31#64) &&& 4294967295#64))) (by kernel_rfl) (Kw.eqv (v := .int .u32 (IntKind.u32.wrap (s (rd &&& 31#64)))) (by kernel_rfl) (congrArg (Value.int .u32) (wrap32_s (rd &&& 31#64)))) ?_
  obtain ⟨a6, e6⟩ : ∃ z, (((rd &&& 31#64) &&& 4294967295#64) <<< 7) &&& 4294967295#64 = z := ⟨_, rfl⟩
  refine Kw.pure (.int .u32 (u a6)) (by kernel_rfl) (Kw.eqv (v := .int .u32 (IntKind.u32.wrap ((u ((rd &&& 31#64) &&& 4294967295#64)) * 2 ^ 7))) (by kernel_rfl) ((congrArg (Value.int .u32) (wrap32_shl ((rd &&& 31#64) &&& 4294967295#64) 7 (by omega))).trans (congrArg (fun z => Value.int .u32 (u z)) e6))) ?_
  refine KS.p (.int .u32 (u a6)) ?_
  refine KS.n4 ?_
  refine KS.p (.pointer (some ⟨B1, 2, none⟩)) ?_
  refine KS.l 3 B1 2 (.int .i64 (s rs1)) M4 2 Try.underlying3 ?_
  refine Kw.pure (.int .i64 (s (rs1 &&& 31#64))) (by kernel_rfl) (Kw.eqv (v := .int .i64 (Go.bits .and .i64 ((s rs1)) ((31 : Int)))) (by kernel_rfl) (congrArg (Value.int .i64) (bits_andi rs1 31#64))) ?_
  refine Kw.pure (.int .u32 (u ((rs1 &&& 31#64) &&& 4294967295#64))) (by kernel_rfl) (Kw.eqv (v := .int .u32 (IntKind.u32.wrap (s (rs1 &&& 31#64)))) (by kernel_rfl) (congrArg (Value.int .u32) (wrap32_s (rs1 &&& 31#64)))) ?_
  obtain ⟨a7, e7⟩ : ∃ z, (((rs1 &&& 31#64) &&& 4294967295#64) <<< 15) &&& 4294967295#64 = z := ⟨_, rfl⟩
  refine Kw.pure (.int .u32 (u a7)) (by kernel_rfl) (Kw.eqv (v := .int .u32 (IntKind.u32.wrap ((u ((rs1 &&& 31#64) &&& 4294967295#64)) * 2 ^ 15))) (by kernel_rfl) ((congrArg (Value.int .u32) (wrap32_shl ((rs1 &&& 31#64) &&& 4294967295#64) 15 (by omega))).trans (congrArg (fun z => Value.int .u32 (u z)) e7))) ?_
  refine KS.p (.int .u32 (u a7)) ?_
  refine KS.n4 ?_
  refine KS.p (.pointer (some ⟨B1, 3, none⟩)) ?_
  refine KS.l 3 B1 3 (.int .i64 (s rs2)) M4 2 Try.underlying3 ?_
  refine Kw.pure (.int .i64 (s (rs2 &&& 31#64))) (by kernel_rfl) (Kw.eqv (v := .int .i64 (Go.bits .and .i64 ((s rs2)) ((31 : Int)))) (by kernel_rfl) (congrArg (Value.int .i64) (bits_andi rs2 31#64))) ?_
  refine Kw.pure (.int .u32 (u ((rs2 &&& 31#64) &&& 4294967295#64))) (by kernel_rfl) (Kw.eqv (v := .int .u32 (IntKind.u32.wrap (s (rs2 &&& 31#64)))) (by kernel_rfl) (congrArg (Value.int .u32) (wrap32_s (rs2 &&& 31#64)))) ?_
  obtain ⟨a8, e8⟩ : ∃ z, (((rs2 &&& 31#64) &&& 4294967295#64) <<< 20) &&& 4294967295#64 = z := ⟨_, rfl⟩
  refine Kw.pure (.int .u32 (u a8)) (by kernel_rfl) (Kw.eqv (v := .int .u32 (IntKind.u32.wrap ((u ((rs2 &&& 31#64) &&& 4294967295#64)) * 2 ^ 20))) (by kernel_rfl) ((congrArg (Value.int .u32) (wrap32_shl ((rs2 &&& 31#64) &&& 4294967295#64) 20 (by omega))).trans (congrArg (fun z => Value.int .u32 (u z)) e8))) ?_
  refine KS.p (.int .u32 (u a8)) ?_
  refine KS.n5 ?_
  refine KS.p (.pointer (some ⟨B3, 1, none⟩)) ?_
  refine KS.l 5 B3 1 (.int .u8 78) M4 0 Try.underlying5 ?_
  refine Kw.fin (Kw.then_normal (wp_block (wp_seq (Kw.region ?_))))
  refine KS.p (.bool false) ?_
  refine KS.p (.bool false) ?_
  refine KS.n2 ?_
  refine wp_cond_false (by kernel_rfl) ?_
  refine wp_seq (Kw.region ?_)
  refine KS.p (.bool false) ?_
  refine KS.p (.bool false) ?_
  refine KS.n2 ?_
  refine wp_cond_false (by kernel_rfl) ?_
  refine wp_seq (Kw.region ?_)
  refine KS.p (.bool true) ?_
  refine KS.p (.bool true) ?_
  refine KS.n2 ?_
  refine wp_cond_true (by kernel_rfl) ?_
  refine wp_seq (Kw.region ?_)
  refine KS.p (.pointer (some ⟨B3, 2, none⟩)) ?_
  refine KS.l 37 B3 2 (.int .u32 (u (cd k))) M4 0 Try.underlying37 ?_
  refine KS.p (.pointer (some ⟨B3, 4, none⟩)) ?_
  refine KS.l 37 B3 4 (.int .u32 (u (ot k))) M4 0 Try.underlying37 ?_
  refine Kw.pure (.int .u32 (u (((ot k) <<< 20) &&& 4294967295#64))) (by kernel_rfl) (Kw.eqv (v := .int .u32 (IntKind.u32.wrap ((u (ot k)) * 2 ^ 20))) (by kernel_rfl) (congrArg (Value.int .u32) (wrap32_shl (ot k) 20 (by omega)))) ?_
  obtain ⟨a9, e9⟩ : ∃ z, ((cd k) + (((ot k) <<< 20) &&& 4294967295#64)) &&& 4294967295#64 = z := ⟨_, rfl⟩
  refine Kw.pure (.int .u32 (u a9)) (by kernel_rfl) (Kw.eqv (v := .int .u32 (IntKind.u32.wrap ((u (cd k)) + (u (((ot k) <<< 20) &&& 4294967295#64))))) (by kernel_rfl) ((congrArg (Value.int .u32) (wrap32_add (cd k) (((ot k) <<< 20) &&& 4294967295#64))).trans (congrArg (fun z => Value.int .u32 (u z)) e9))) ?_
  refine KS.p (.int .u32 (u a9)) ?_
  refine KS.p (.bool true) ?_
  refine Kw.fin (Kw.then_normal (wp_ret (Kw.block_ret (Kw.then_ret ?_))))
  exact bodyPost_ret (v := .tuple #[.int .u32 (u a9), .bool true]) (by kernel_rfl) (by kernel_rfl) ⟨ret2 (by subst e9; exact sum_N k hk hs rd rs1 rs2 imm) (by rfl), M4.drop⟩
end Go.Proofs.Ytpmpibcfmejbfaa.Inst
