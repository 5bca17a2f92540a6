/- The instruction of a word of an instruction is it: the walk. No condition. -/
import Derived.Test.YtpmpibcfmejbfaaInstEncT
namespace Go.Proofs.Ytpmpibcfmejbfaa.Inst
open Go.RowKit Go.Proofs.Ytpmpibcfmejbfaa.Bits
attribute [local irreducible] Go.wpList
set_option linter.unusedVariables false
theorem ne_R (k : Nat) (hs : (sh k == 82) = true) (rd rs1 rs2 imm : BitVec 64) (X Y : Operand) (w : World) : (Canon.opS .neq 36 X Y (.agg #[.int .i64 ((k + 1 : Nat) : Int), .int .i64 (s (rdH k rd)), .int .i64 (s (rs1H k rs1)), .int .i64 (s (rs2H k rs2)), .int .i64 (s (immH k imm))]) (.agg #[.int .i64 ((k + 1 : Nat) : Int), .int .i64 (s rd), .int .i64 (s rs1), .int .i64 (s rs2), .int .i64 0])).run Try.prog w = .ok (.value (.bool false)) w := by
  have hs := eq_of_beq hs
  refine Kw.eqv (agg_neq X Y w _ _ _ _ _ _ _ _ _ _) ?_
  rw [rdH_R k hs, rs1H_R k hs, rs2H_R k hs, immH_R k hs]
  have z : s 0#64 = 0 := rfl
  simp [sameB, z]
theorem ne_I (k : Nat) (hs : (sh k == 73) = true) (rd rs1 rs2 imm : BitVec 64) (X Y : Operand) (w : World) : (Canon.opS .neq 36 X Y (.agg #[.int .i64 ((k + 1 : Nat) : Int), .int .i64 (s (rdH k rd)), .int .i64 (s (rs1H k rs1)), .int .i64 (s (rs2H k rs2)), .int .i64 (s (immH k imm))]) (.agg #[.int .i64 ((k + 1 : Nat) : Int), .int .i64 (s rd), .int .i64 (s rs1), .int .i64 0, .int .i64 (s imm)])).run Try.prog w = .ok (.value (.bool false)) w := by
  have hs := eq_of_beq hs
  refine Kw.eqv (agg_neq X Y w _ _ _ _ _ _ _ _ _ _) ?_
  rw [rdH_I k hs, rs1H_I k hs, rs2H_I k hs, immH_I k hs]
  have z : s 0#64 = 0 := rfl
  simp [sameB, z]
theorem ne_B (k : Nat) (hs : (sh k == 66) = true) (rd rs1 rs2 imm : BitVec 64) (X Y : Operand) (w : World) : (Canon.opS .neq 36 X Y (.agg #[.int .i64 ((k + 1 : Nat) : Int), .int .i64 (s (rdH k rd)), .int .i64 (s (rs1H k rs1)), .int .i64 (s (rs2H k rs2)), .int .i64 (s (immH k imm))]) (.agg #[.int .i64 ((k + 1 : Nat) : Int), .int .i64 0, .int .i64 (s rs1), .int .i64 (s rs2), .int .i64 (s imm)])).run Try.prog w = .ok (.value (.bool false)) w := by
  have hs := eq_of_beq hs
  refine Kw.eqv (agg_neq X Y w _ _ _ _ _ _ _ _ _ _) ?_
  rw [rdH_B k hs, rs1H_B k hs, rs2H_B k hs, immH_B k hs]
  have z : s 0#64 = 0 := rfl
  simp [sameB, z]
set_option maxRecDepth 100000 in
theorem back_in (k : Nat) (hk : k < 69) (rd rs1 rs2 imm x : BitVec 64) (xx : ∀ i, 32 ≤ i → i < 64 → x.getLsbD i = false) (W : World) : Calls Try.prog 11 #[.agg #[.int .i64 ((k + 1 : Nat) : Int), .int .i64 (s rd), .int .i64 (s rs1), .int .i64 (s rs2), .int .i64 (s imm)], .int .u32 (u x)] W fun e W' => e = .returned (.bool true) ∧ Kw.Mem [] W W' [] := by
  refine calls_of_wp Try.func11 rfl ?_
  have M0 : Kw.Mem [] W W [] := Kw.Mem.start _ _
  refine Kw.to (b := ⟨#[.agg #[.int .i64 ((k + 1 : Nat) : Int), .int .i64 (s rd), .int .i64 (s rs1), .int .i64 (s rs2), .int .i64 (s imm)], .int .u32 (u x), undef, undef, undef, undef, undef, undef, undef, undef, undef, undef, undef, undef, undef, undef, undef, undef, undef, undef, undef, undef, undef, undef, undef, undef, undef, undef, undef, undef, undef, undef, undef, undef, undef, undef, undef, undef, undef, undef, undef, undef, undef, undef, undef, undef, undef, undef, undef, undef, undef, undef, undef, undef, undef, undef, undef, undef, undef, undef, undef, undef, undef, undef, undef, undef, undef, undef, undef, undef, undef, undef, undef, undef, undef, undef, undef, undef, undef, undef, undef, undef, undef, undef, undef, undef, undef, undef, undef, undef, undef, undef, undef, undef, undef, undef, undef, undef, undef, undef, undef, undef, undef, undef, undef, undef, undef, undef, undef, undef, undef, undef, undef, undef, undef, undef, undef, undef, undef, undef, undef, undef, undef, undef, undef, undef, undef, undef, undef, undef, undef, undef, undef], []⟩) (by kernel_rfl) ?_
  refine wp_seq ?_
  refine Kw.region ?_
  refine Kw.alloc #[.int .i64 ((k + 1 : Nat) : Int), .int .i64 (s rd), .int .i64 (s rs1), .int .i64 (s rs2), .int .i64 (s imm)] 36 M0 (by kernel_rfl) (by kernel_rfl) fun w1 B1 M1 => ?_
  refine Kw.pure (.bool false) (by kernel_rfl) (by kernel_rfl) ?_
  refine Kw.fin ?_
  refine Kw.then_normal ?_
  refine wp_seq ?_
  refine Kw.region ?_
  refine Kw.pureS (Canon.ldS 36 (.pointer (some ⟨B1, 0, none⟩))) (.agg #[.int .i64 ((k + 1 : Nat) : Int), .int .i64 (s rd), .int .i64 (s rs1), .int .i64 (s rs2), .int .i64 (s imm)]) (by kernel_rfl) (by kernel_rfl) (Kw.ld_all 36 (M1.get 0 rfl) _ Try.underlying36 rfl (by kernel_rfl)) ?_
  refine Kw.call (.tuple #[.int .u32 (encN k rd rs1 rs2 imm), .bool (okB k rd rs1 rs2 imm)]) 25 #[.agg #[.int .i64 ((k + 1 : Nat) : Int), .int .i64 (s rd), .int .i64 (s rs1), .int .i64 (s rs2), .int .i64 (s imm)]] M1 (by kernel_rfl) (by kernel_rfl) (encode_t k hk rd rs1 rs2 imm w1) fun w2 M2 => ?_
  refine Kw.pure (.tuple #[.int .u32 (encN k rd rs1 rs2 imm), .bool (okB k rd rs1 rs2 imm)]) (by kernel_rfl) (by kernel_rfl) ?_
  refine Kw.pure (.int .u32 (encN k rd rs1 rs2 imm)) (by kernel_rfl) (by kernel_rfl) ?_
  refine Kw.pure (.bool (okB k rd rs1 rs2 imm)) (by kernel_rfl) (by kernel_rfl) ?_
  refine Kw.pure (.int .u32 (encN k rd rs1 rs2 imm)) (by kernel_rfl) (by kernel_rfl) ?_
  refine Kw.pure (.bool (okB k rd rs1 rs2 imm)) (by kernel_rfl) (by kernel_rfl) ?_
  refine Kw.fin ?_
  refine Kw.then_normal ?_
  refine wp_seq ?_
  refine KwJ.cutS (fun a w => ∃ y3 : Nat → Value, a = ⟨#[.agg #[.int .i64 ((k + 1 : Nat) : Int), .int .i64 (s rd), .int .i64 (s rs1), .int .i64 (s rs2), .int .i64 (s imm)], .int .u32 (u x), .pointer (some ⟨B1, 0, none⟩), undef, y3 86, .int .u32 (encN k rd rs1 rs2 imm), .bool (okB k rd rs1 rs2 imm), y3 0, y3 1, y3 2, y3 3, y3 4, undef, undef, undef, undef, .tuple #[.int .u32 (encN k rd rs1 rs2 imm), .bool (okB k rd rs1 rs2 imm)], .agg #[.int .i64 ((k + 1 : Nat) : Int), .int .i64 (s rd), .int .i64 (s rs1), .int .i64 (s rs2), .int .i64 (s imm)], .tuple #[.int .u32 (encN k rd rs1 rs2 imm), .bool (okB k rd rs1 rs2 imm)], .int .u32 (encN k rd rs1 rs2 imm), .bool (okB k rd rs1 rs2 imm), y3 5, y3 6, y3 7, y3 8, y3 9, y3 10, y3 11, y3 12, y3 13, y3 14, y3 15, y3 16, y3 17, y3 18, y3 19, y3 20, y3 21, y3 22, y3 23, y3 24, y3 25, y3 26, y3 27, y3 28, y3 29, y3 30, y3 31, y3 32, y3 33, y3 34, y3 35, y3 36, y3 37, y3 38, y3 39, y3 40, y3 41, y3 42, y3 43, y3 44, y3 45, y3 46, y3 47, y3 48, y3 49, y3 50, y3 51, y3 52, y3 53, y3 54, y3 55, y3 56, y3 57, y3 58, y3 59, y3 60, y3 61, y3 62, y3 63, y3 64, y3 65, y3 66, y3 67, y3 68, y3 69, y3 70, y3 71, y3 72, y3 73, y3 74, y3 75, y3 76, y3 77, y3 78, y3 79, y3 80, y3 81, y3 82, y3 83, y3 84, y3 85, undef, undef, undef, undef, undef, undef, undef, undef, undef, undef, undef, undef, undef, undef, undef, undef, undef, undef, undef, undef, undef, undef, undef, undef, undef, undef, undef, undef, undef, undef, undef], []⟩ ∧ Kw.Mem [] W w [(B1, #[.int .i64 ((k + 1 : Nat) : Int), .int .i64 (s rd), .int .i64 (s rs1), .int .i64 (s rs2), .int .i64 (s imm)], 36)]) ?_ (fun a w3 hI => ?_)
  · skip
    refine wp_seq ?_
    refine Kw.region ?_
    refine Kw.pure (.bool (okB k rd rs1 rs2 imm)) (by kernel_rfl) (by kernel_rfl) ?_
    refine Kw.fin ?_
    refine Kw.then_normal ?_
    refine wp_cond_split (t := (okB k rd rs1 rs2 imm)) (by kernel_rfl) (fun h4 => ?_) (fun h4 => ?_)
    · skip
      refine wp_seq ?_
      refine Kw.region ?_
      refine Kw.pure (.int .u32 (encN k rd rs1 rs2 imm)) (by kernel_rfl) (by kernel_rfl) ?_
      refine Kw.call (.tuple #[.agg #[.int .i64 ((k + 1 : Nat) : Int), .int .i64 (s (rdH k rd)), .int .i64 (s (rs1H k rs1)), .int .i64 (s (rs2H k rs2)), .int .i64 (s (immH k imm))], .bool true]) 27 #[.int .u32 (encN k rd rs1 rs2 imm)] M2 (by kernel_rfl) (by kernel_rfl) (decode_h k hk rd rs1 rs2 imm h4 w2) fun w5 M5 => ?_
      refine Kw.pure (.tuple #[.agg #[.int .i64 ((k + 1 : Nat) : Int), .int .i64 (s (rdH k rd)), .int .i64 (s (rs1H k rs1)), .int .i64 (s (rs2H k rs2)), .int .i64 (s (immH k imm))], .bool true]) (by kernel_rfl) (by kernel_rfl) ?_
      refine Kw.pure (.agg #[.int .i64 ((k + 1 : Nat) : Int), .int .i64 (s (rdH k rd)), .int .i64 (s (rs1H k rs1)), .int .i64 (s (rs2H k rs2)), .int .i64 (s (immH k imm))]) (by kernel_rfl) (by kernel_rfl) ?_
      refine Kw.pure (.bool true) (by kernel_rfl) (by kernel_rfl) ?_
      refine Kw.alloc #[.int .i64 0, .int .i64 0, .int .i64 0, .int .i64 0, .int .i64 0] 36 M5 (by kernel_rfl) (by kernel_rfl) fun w6 B6 M6 => ?_
      refine Kw.storeAll 0 36 #[.int .i64 ((k + 1 : Nat) : Int), .int .i64 (s (rdH k rd)), .int .i64 (s (rs1H k rs1)), .int .i64 (s (rs2H k rs2)), .int .i64 (s (immH k imm))] M6 rfl (by kernel_rfl) (by kernel_rfl) (Eq.trans (b := 5) (by kernel_rfl) (by kernel_rfl)) (by kernel_rfl) (by kernel_rfl) fun w7 M7 => ?_
      refine Kw.pure (.bool true) (by kernel_rfl) (by kernel_rfl) ?_
      refine Kw.fin ?_
      refine Kw.then_normal ?_
      refine wp_seq ?_
      refine Kw.region ?_
      refine Kw.pureS (Canon.ldS 36 (.pointer (some ⟨B6, 0, none⟩))) (.agg #[.int .i64 ((k + 1 : Nat) : Int), .int .i64 (s (rdH k rd)), .int .i64 (s (rs1H k rs1)), .int .i64 (s (rs2H k rs2)), .int .i64 (s (immH k imm))]) (by kernel_rfl) (by kernel_rfl) (Kw.ld_all 36 (M7.get 0 rfl) _ Try.underlying36 rfl (by kernel_rfl)) ?_
      refine Kw.call (.tuple #[.int .u32 (encN k rd rs1 rs2 imm), .bool true]) 25 #[.agg #[.int .i64 ((k + 1 : Nat) : Int), .int .i64 (s (rdH k rd)), .int .i64 (s (rs1H k rs1)), .int .i64 (s (rs2H k rs2)), .int .i64 (s (immH k imm))]] M7 (by kernel_rfl) (by kernel_rfl) (encode_h k hk rd rs1 rs2 imm h4 w7) fun w8 M8 => ?_
      refine Kw.pure (.tuple #[.int .u32 (encN k rd rs1 rs2 imm), .bool true]) (by kernel_rfl) (by kernel_rfl) ?_
      refine Kw.pure (.int .u32 (encN k rd rs1 rs2 imm)) (by kernel_rfl) (by kernel_rfl) ?_
      refine Kw.pure (.bool true) (by kernel_rfl) (by kernel_rfl) ?_
      refine Kw.pure (.int .u32 (encN k rd rs1 rs2 imm)) (by kernel_rfl) (by kernel_rfl) ?_
      refine Kw.pure (.bool true) (by kernel_rfl) (by kernel_rfl) ?_
      refine Kw.fin ?_
      refine Kw.then_normal ?_
      refine wp_seq ?_
      refine wp_seq ?_
      refine Kw.region ?_
      refine Kw.pure (.bool true) (by kernel_rfl) (by kernel_rfl) ?_
      refine Kw.pure (.bool false) (by kernel_rfl) (by kernel_rfl) ?_
      refine Kw.pure (.bool false) (by kernel_rfl) (by kernel_rfl) ?_
      refine Kw.pure (.pointer (some ⟨B6, 0, none⟩)) (by kernel_rfl) (by kernel_rfl) ?_
      refine Kw.pureS (Canon.ldS 3 (.pointer (some ⟨B6, 0, none⟩))) (.int .i64 ((k + 1 : Nat) : Int)) (by kernel_rfl) (by kernel_rfl) (Kw.ld_cell 3 0 (.int .i64 ((k + 1 : Nat) : Int)) (M8.get 0 rfl) (by kernel_rfl) _ Try.underlying3 rfl) ?_
      refine Kw.pure (.pointer (some ⟨B1, 0, none⟩)) (by kernel_rfl) (by kernel_rfl) ?_
      refine Kw.pureS (Canon.ldS 3 (.pointer (some ⟨B1, 0, none⟩))) (.int .i64 ((k + 1 : Nat) : Int)) (by kernel_rfl) (by kernel_rfl) (Kw.ld_cell 3 0 (.int .i64 ((k + 1 : Nat) : Int)) (M8.get 1 rfl) (by kernel_rfl) _ Try.underlying3 rfl) ?_
      refine Kw.pureS (Canon.opS .neq 3 (.tmp 36) (.tmp 38) (.int .i64 ((k + 1 : Nat) : Int)) (.int .i64 ((k + 1 : Nat) : Int))) (.bool false) (by kernel_rfl) (by kernel_rfl) (Kw.eqv (v := .bool (((k + 1 : Nat) : Int) != ((k + 1 : Nat) : Int))) (by kernel_rfl) (congrArg Value.bool (bne_self_eq_false _))) ?_
      refine Kw.pure (.bool false) (by kernel_rfl) (by kernel_rfl) ?_
      refine Kw.pure (.bool false) (by kernel_rfl) (by kernel_rfl) ?_
      refine Kw.pure (.bool true) (by kernel_rfl) (by kernel_rfl) ?_
      refine Kw.pure (.bool false) (by kernel_rfl) (by kernel_rfl) ?_
      refine Kw.pure (.bool false) (by kernel_rfl) (by kernel_rfl) ?_
      refine Kw.pure (.bool false) (by kernel_rfl) (by kernel_rfl) ?_
      refine Kw.pure (.int .u32 (encN k rd rs1 rs2 imm)) (by kernel_rfl) (by kernel_rfl) ?_
      refine Kw.pure (.int .u32 (encN k rd rs1 rs2 imm)) (by kernel_rfl) (by kernel_rfl) ?_
      refine Kw.pureS (Canon.opS .neq 37 (.tmp 46) (.tmp 47) (.int .u32 (encN k rd rs1 rs2 imm)) (.int .u32 (encN k rd rs1 rs2 imm))) (.bool false) (by kernel_rfl) (by kernel_rfl) (Kw.eqv (v := .bool ((encN k rd rs1 rs2 imm) != (encN k rd rs1 rs2 imm))) (by kernel_rfl) (congrArg Value.bool (bne_self_eq_false _))) ?_
      refine Kw.pure (.bool false) (by kernel_rfl) (by kernel_rfl) ?_
      refine Kw.fin ?_
      refine Kw.then_normal ?_
      refine wp_cond_false (by kernel_rfl) ?_
      refine wp_skip ?_
      refine Kw.then_normal ?_
      refine wp_seq ?_
      refine Kw.region ?_
      refine Kw.pure (.pointer (some ⟨B1, 0, none⟩)) (by kernel_rfl) (by kernel_rfl) ?_
      refine Kw.pureS (Canon.ldS 3 (.pointer (some ⟨B1, 0, none⟩))) (.int .i64 ((k + 1 : Nat) : Int)) (by kernel_rfl) (by kernel_rfl) (Kw.ld_cell 3 0 (.int .i64 ((k + 1 : Nat) : Int)) (M8.get 1 rfl) (by kernel_rfl) _ Try.underlying3 rfl) ?_
      refine Kw.call (.int .u8 (sh k)) 30 #[.int .i64 ((k + 1 : Nat) : Int)] M8 (by kernel_rfl) (by kernel_rfl) (shape_in k hk w8) fun w9 M9 => ?_
      refine Kw.pure (.int .u8 (sh k)) (by kernel_rfl) (by kernel_rfl) ?_
      refine Kw.fin ?_
      refine Kw.then_normal ?_
      refine wp_seq ?_
      refine Kw.region ?_
      refine Kw.pure (.int .u8 (sh k)) (by kernel_rfl) (by kernel_rfl) ?_
      refine Kw.pureS (Canon.opS .eql 5 (.tmp 53) (.const (.int .u8 82)) (.int .u8 (sh k)) (.int .u8 82)) (.bool ((sh k) == (82 : Int))) (by kernel_rfl) (by kernel_rfl) (by kernel_rfl) ?_
      rcases Bool.eq_false_or_eq_true (((sh k) == (82 : Int))) with h10 | h10
      · skip
        refine Kw.pure (.bool true) (by kernel_rfl) (Kw.eqv (v := .bool (((sh k) == (82 : Int)))) (by kernel_rfl) (congrArg Value.bool h10)) ?_
        refine Kw.pureS (Canon.ldS 36 (.pointer (some ⟨B6, 0, none⟩))) (.agg #[.int .i64 ((k + 1 : Nat) : Int), .int .i64 (s (rdH k rd)), .int .i64 (s (rs1H k rs1)), .int .i64 (s (rs2H k rs2)), .int .i64 (s (immH k imm))]) (by kernel_rfl) (by kernel_rfl) (Kw.ld_all 36 (M9.get 0 rfl) _ Try.underlying36 rfl (by kernel_rfl)) ?_
        refine Kw.pure (.pointer (some ⟨B1, 0, none⟩)) (by kernel_rfl) (by kernel_rfl) ?_
        refine Kw.pureS (Canon.ldS 3 (.pointer (some ⟨B1, 0, none⟩))) (.int .i64 ((k + 1 : Nat) : Int)) (by kernel_rfl) (by kernel_rfl) (Kw.ld_cell 3 0 (.int .i64 ((k + 1 : Nat) : Int)) (M9.get 1 rfl) (by kernel_rfl) _ Try.underlying3 rfl) ?_
        refine Kw.pure (.pointer (some ⟨B1, 1, none⟩)) (by kernel_rfl) (by kernel_rfl) ?_
        refine Kw.pureS (Canon.ldS 3 (.pointer (some ⟨B1, 1, none⟩))) (.int .i64 (s rd)) (by kernel_rfl) (by kernel_rfl) (Kw.ld_cell 3 1 (.int .i64 (s rd)) (M9.get 1 rfl) (by kernel_rfl) _ Try.underlying3 rfl) ?_
        refine Kw.pure (.pointer (some ⟨B1, 2, none⟩)) (by kernel_rfl) (by kernel_rfl) ?_
        refine Kw.pureS (Canon.ldS 3 (.pointer (some ⟨B1, 2, none⟩))) (.int .i64 (s rs1)) (by kernel_rfl) (by kernel_rfl) (Kw.ld_cell 3 2 (.int .i64 (s rs1)) (M9.get 1 rfl) (by kernel_rfl) _ Try.underlying3 rfl) ?_
        refine Kw.pure (.pointer (some ⟨B1, 3, none⟩)) (by kernel_rfl) (by kernel_rfl) ?_
        refine Kw.pureS (Canon.ldS 3 (.pointer (some ⟨B1, 3, none⟩))) (.int .i64 (s rs2)) (by kernel_rfl) (by kernel_rfl) (Kw.ld_cell 3 3 (.int .i64 (s rs2)) (M9.get 1 rfl) (by kernel_rfl) _ Try.underlying3 rfl) ?_
        refine Kw.pure (.agg #[.int .i64 ((k + 1 : Nat) : Int), .int .i64 (s rd), .int .i64 (s rs1), .int .i64 (s rs2), .int .i64 0]) (by kernel_rfl) (by kernel_rfl) ?_
        refine Kw.pureS (Canon.opS .neq 36 (.tmp 56) (.tmp 65) (.agg #[.int .i64 ((k + 1 : Nat) : Int), .int .i64 (s (rdH k rd)), .int .i64 (s (rs1H k rs1)), .int .i64 (s (rs2H k rs2)), .int .i64 (s (immH k imm))]) (.agg #[.int .i64 ((k + 1 : Nat) : Int), .int .i64 (s rd), .int .i64 (s rs1), .int .i64 (s rs2), .int .i64 0])) (.bool false) (by kernel_rfl) (by kernel_rfl) (ne_R k h10 rd rs1 rs2 imm _ _ w9) ?_
        refine Kw.pure (.bool false) (by kernel_rfl) (by kernel_rfl) ?_
        refine Kw.pure (.bool false) (by kernel_rfl) (by kernel_rfl) ?_
        refine Kw.pure (.int .u8 (sh k)) (by kernel_rfl) (by kernel_rfl) ?_
        refine Kw.pureS (Canon.opS .eql 5 (.tmp 69) (.const (.int .u8 73)) (.int .u8 (sh k)) (.int .u8 73)) (.bool ((sh k) == (73 : Int))) (by kernel_rfl) (by kernel_rfl) (by kernel_rfl) ?_
        rcases Bool.eq_false_or_eq_true (((sh k) == (73 : Int))) with h11 | h11
        · skip
          refine Kw.pure (.bool true) (by kernel_rfl) (Kw.eqv (v := .bool (((sh k) == (73 : Int)))) (by kernel_rfl) (congrArg Value.bool h11)) ?_
          refine Kw.pureS (Canon.ldS 36 (.pointer (some ⟨B6, 0, none⟩))) (.agg #[.int .i64 ((k + 1 : Nat) : Int), .int .i64 (s (rdH k rd)), .int .i64 (s (rs1H k rs1)), .int .i64 (s (rs2H k rs2)), .int .i64 (s (immH k imm))]) (by kernel_rfl) (by kernel_rfl) (Kw.ld_all 36 (M9.get 0 rfl) _ Try.underlying36 rfl (by kernel_rfl)) ?_
          refine Kw.pure (.pointer (some ⟨B1, 0, none⟩)) (by kernel_rfl) (by kernel_rfl) ?_
          refine Kw.pureS (Canon.ldS 3 (.pointer (some ⟨B1, 0, none⟩))) (.int .i64 ((k + 1 : Nat) : Int)) (by kernel_rfl) (by kernel_rfl) (Kw.ld_cell 3 0 (.int .i64 ((k + 1 : Nat) : Int)) (M9.get 1 rfl) (by kernel_rfl) _ Try.underlying3 rfl) ?_
          refine Kw.pure (.pointer (some ⟨B1, 1, none⟩)) (by kernel_rfl) (by kernel_rfl) ?_
          refine Kw.pureS (Canon.ldS 3 (.pointer (some ⟨B1, 1, none⟩))) (.int .i64 (s rd)) (by kernel_rfl) (by kernel_rfl) (Kw.ld_cell 3 1 (.int .i64 (s rd)) (M9.get 1 rfl) (by kernel_rfl) _ Try.underlying3 rfl) ?_
          refine Kw.pure (.pointer (some ⟨B1, 2, none⟩)) (by kernel_rfl) (by kernel_rfl) ?_
          refine Kw.pureS (Canon.ldS 3 (.pointer (some ⟨B1, 2, none⟩))) (.int .i64 (s rs1)) (by kernel_rfl) (by kernel_rfl) (Kw.ld_cell 3 2 (.int .i64 (s rs1)) (M9.get 1 rfl) (by kernel_rfl) _ Try.underlying3 rfl) ?_
          refine Kw.pure (.pointer (some ⟨B1, 4, none⟩)) (by kernel_rfl) (by kernel_rfl) ?_
          refine Kw.pureS (Canon.ldS 2 (.pointer (some ⟨B1, 4, none⟩))) (.int .i64 (s imm)) (by kernel_rfl) (by kernel_rfl) (Kw.ld_cell 2 4 (.int .i64 (s imm)) (M9.get 1 rfl) (by kernel_rfl) _ Try.underlying2 rfl) ?_
          refine Kw.pure (.agg #[.int .i64 ((k + 1 : Nat) : Int), .int .i64 (s rd), .int .i64 (s rs1), .int .i64 0, .int .i64 (s imm)]) (by kernel_rfl) (by kernel_rfl) ?_
          refine Kw.pureS (Canon.opS .neq 36 (.tmp 72) (.tmp 81) (.agg #[.int .i64 ((k + 1 : Nat) : Int), .int .i64 (s (rdH k rd)), .int .i64 (s (rs1H k rs1)), .int .i64 (s (rs2H k rs2)), .int .i64 (s (immH k imm))]) (.agg #[.int .i64 ((k + 1 : Nat) : Int), .int .i64 (s rd), .int .i64 (s rs1), .int .i64 0, .int .i64 (s imm)])) (.bool false) (by kernel_rfl) (by kernel_rfl) (ne_I k h11 rd rs1 rs2 imm _ _ w9) ?_
          refine Kw.pure (.bool false) (by kernel_rfl) (by kernel_rfl) ?_
          refine Kw.pure (.bool false) (by kernel_rfl) (by kernel_rfl) ?_
          refine Kw.pure (.bool false) (by kernel_rfl) (by kernel_rfl) ?_
          refine Kw.pure (.int .u8 (sh k)) (by kernel_rfl) (by kernel_rfl) ?_
          refine Kw.pureS (Canon.opS .eql 5 (.tmp 86) (.const (.int .u8 66)) (.int .u8 (sh k)) (.int .u8 66)) (.bool ((sh k) == (66 : Int))) (by kernel_rfl) (by kernel_rfl) (by kernel_rfl) ?_
          rcases Bool.eq_false_or_eq_true (((sh k) == (66 : Int))) with h12 | h12
          · skip
            refine Kw.pure (.bool true) (by kernel_rfl) (Kw.eqv (v := .bool (((sh k) == (66 : Int)))) (by kernel_rfl) (congrArg Value.bool h12)) ?_
            refine Kw.pureS (Canon.ldS 36 (.pointer (some ⟨B6, 0, none⟩))) (.agg #[.int .i64 ((k + 1 : Nat) : Int), .int .i64 (s (rdH k rd)), .int .i64 (s (rs1H k rs1)), .int .i64 (s (rs2H k rs2)), .int .i64 (s (immH k imm))]) (by kernel_rfl) (by kernel_rfl) (Kw.ld_all 36 (M9.get 0 rfl) _ Try.underlying36 rfl (by kernel_rfl)) ?_
            refine Kw.pure (.pointer (some ⟨B1, 0, none⟩)) (by kernel_rfl) (by kernel_rfl) ?_
            refine Kw.pureS (Canon.ldS 3 (.pointer (some ⟨B1, 0, none⟩))) (.int .i64 ((k + 1 : Nat) : Int)) (by kernel_rfl) (by kernel_rfl) (Kw.ld_cell 3 0 (.int .i64 ((k + 1 : Nat) : Int)) (M9.get 1 rfl) (by kernel_rfl) _ Try.underlying3 rfl) ?_
            refine Kw.pure (.pointer (some ⟨B1, 2, none⟩)) (by kernel_rfl) (by kernel_rfl) ?_
            refine Kw.pureS (Canon.ldS 3 (.pointer (some ⟨B1, 2, none⟩))) (.int .i64 (s rs1)) (by kernel_rfl) (by kernel_rfl) (Kw.ld_cell 3 2 (.int .i64 (s rs1)) (M9.get 1 rfl) (by kernel_rfl) _ Try.underlying3 rfl) ?_
            refine Kw.pure (.pointer (some ⟨B1, 3, none⟩)) (by kernel_rfl) (by kernel_rfl) ?_
            refine Kw.pureS (Canon.ldS 3 (.pointer (some ⟨B1, 3, none⟩))) (.int .i64 (s rs2)) (by kernel_rfl) (by kernel_rfl) (Kw.ld_cell 3 3 (.int .i64 (s rs2)) (M9.get 1 rfl) (by kernel_rfl) _ Try.underlying3 rfl) ?_
            refine Kw.pure (.pointer (some ⟨B1, 4, none⟩)) (by kernel_rfl) (by kernel_rfl) ?_
            refine Kw.pureS (Canon.ldS 2 (.pointer (some ⟨B1, 4, none⟩))) (.int .i64 (s imm)) (by kernel_rfl) (by kernel_rfl) (Kw.ld_cell 2 4 (.int .i64 (s imm)) (M9.get 1 rfl) (by kernel_rfl) _ Try.underlying2 rfl) ?_
            refine Kw.pure (.agg #[.int .i64 ((k + 1 : Nat) : Int), .int .i64 0, .int .i64 (s rs1), .int .i64 (s rs2), .int .i64 (s imm)]) (by kernel_rfl) (by kernel_rfl) ?_
            refine Kw.pureS (Canon.opS .neq 36 (.tmp 89) (.tmp 98) (.agg #[.int .i64 ((k + 1 : Nat) : Int), .int .i64 (s (rdH k rd)), .int .i64 (s (rs1H k rs1)), .int .i64 (s (rs2H k rs2)), .int .i64 (s (immH k imm))]) (.agg #[.int .i64 ((k + 1 : Nat) : Int), .int .i64 0, .int .i64 (s rs1), .int .i64 (s rs2), .int .i64 (s imm)])) (.bool false) (by kernel_rfl) (by kernel_rfl) (ne_B k h12 rd rs1 rs2 imm _ _ w9) ?_
            refine Kw.pure (.bool false) (by kernel_rfl) (by kernel_rfl) ?_
            refine Kw.pure (.bool false) (by kernel_rfl) (by kernel_rfl) ?_
            refine Kw.fin ?_
            refine Kw.then_normal ?_
            refine wp_cond_false (by kernel_rfl) ?_
            refine wp_skip ?_
            refine Kw.then_normal ?_
            exact ⟨fun i => (#[.pointer (some ⟨B6, 0, none⟩), .bool true, .int .u32 (encN k rd rs1 rs2 imm), .bool true, .int .u8 (sh k), .bool (okB k rd rs1 rs2 imm), .tuple #[.agg #[.int .i64 ((k + 1 : Nat) : Int), .int .i64 (s (rdH k rd)), .int .i64 (s (rs1H k rs1)), .int .i64 (s (rs2H k rs2)), .int .i64 (s (immH k imm))], .bool true], .int .u32 (encN k rd rs1 rs2 imm), .tuple #[.agg #[.int .i64 ((k + 1 : Nat) : Int), .int .i64 (s (rdH k rd)), .int .i64 (s (rs1H k rs1)), .int .i64 (s (rs2H k rs2)), .int .i64 (s (immH k imm))], .bool true], .agg #[.int .i64 ((k + 1 : Nat) : Int), .int .i64 (s (rdH k rd)), .int .i64 (s (rs1H k rs1)), .int .i64 (s (rs2H k rs2)), .int .i64 (s (immH k imm))], .bool true, .tuple #[.int .u32 (encN k rd rs1 rs2 imm), .bool true], .agg #[.int .i64 ((k + 1 : Nat) : Int), .int .i64 (s (rdH k rd)), .int .i64 (s (rs1H k rs1)), .int .i64 (s (rs2H k rs2)), .int .i64 (s (immH k imm))], .tuple #[.int .u32 (encN k rd rs1 rs2 imm), .bool true], .int .u32 (encN k rd rs1 rs2 imm), .bool true, .bool true, .bool false, .bool false, .pointer (some ⟨B6, 0, none⟩), .int .i64 ((k + 1 : Nat) : Int), .pointer (some ⟨B1, 0, none⟩), .int .i64 ((k + 1 : Nat) : Int), .bool false, .bool false, .bool false, .bool true, .bool false, .bool false, .bool false, .int .u32 (encN k rd rs1 rs2 imm), .int .u32 (encN k rd rs1 rs2 imm), .bool false, .bool false, .pointer (some ⟨B1, 0, none⟩), .int .i64 ((k + 1 : Nat) : Int), .int .u8 (sh k), .int .u8 (sh k), .bool ((sh k) == (82 : Int)), .bool true, .agg #[.int .i64 ((k + 1 : Nat) : Int), .int .i64 (s (rdH k rd)), .int .i64 (s (rs1H k rs1)), .int .i64 (s (rs2H k rs2)), .int .i64 (s (immH k imm))], .pointer (some ⟨B1, 0, none⟩), .int .i64 ((k + 1 : Nat) : Int), .pointer (some ⟨B1, 1, none⟩), .int .i64 (s rd), .pointer (some ⟨B1, 2, none⟩), .int .i64 (s rs1), .pointer (some ⟨B1, 3, none⟩), .int .i64 (s rs2), .agg #[.int .i64 ((k + 1 : Nat) : Int), .int .i64 (s rd), .int .i64 (s rs1), .int .i64 (s rs2), .int .i64 0], .bool false, .bool false, .bool false, .int .u8 (sh k), .bool ((sh k) == (73 : Int)), .bool true, .agg #[.int .i64 ((k + 1 : Nat) : Int), .int .i64 (s (rdH k rd)), .int .i64 (s (rs1H k rs1)), .int .i64 (s (rs2H k rs2)), .int .i64 (s (immH k imm))], .pointer (some ⟨B1, 0, none⟩), .int .i64 ((k + 1 : Nat) : Int), .pointer (some ⟨B1, 1, none⟩), .int .i64 (s rd), .pointer (some ⟨B1, 2, none⟩), .int .i64 (s rs1), .pointer (some ⟨B1, 4, none⟩), .int .i64 (s imm), .agg #[.int .i64 ((k + 1 : Nat) : Int), .int .i64 (s rd), .int .i64 (s rs1), .int .i64 0, .int .i64 (s imm)], .bool false, .bool false, .bool false, .bool false, .int .u8 (sh k), .bool ((sh k) == (66 : Int)), .bool true, .agg #[.int .i64 ((k + 1 : Nat) : Int), .int .i64 (s (rdH k rd)), .int .i64 (s (rs1H k rs1)), .int .i64 (s (rs2H k rs2)), .int .i64 (s (immH k imm))], .pointer (some ⟨B1, 0, none⟩), .int .i64 ((k + 1 : Nat) : Int), .pointer (some ⟨B1, 2, none⟩), .int .i64 (s rs1), .pointer (some ⟨B1, 3, none⟩), .int .i64 (s rs2), .pointer (some ⟨B1, 4, none⟩), .int .i64 (s imm), .agg #[.int .i64 ((k + 1 : Nat) : Int), .int .i64 0, .int .i64 (s rs1), .int .i64 (s rs2), .int .i64 (s imm)], .bool false, .bool false, .bool false, .bool false] : Array Value).getD i undef, by kernel_rfl, (Held.mem_tail M9)⟩
          · skip
            refine Kw.pure (.bool false) (by kernel_rfl) (Kw.eqv (v := .bool (((sh k) == (66 : Int)))) (by kernel_rfl) (congrArg Value.bool h12)) ?_
            refine Kw.skip (by kernel_rfl) ?_
            refine Kw.skip (by kernel_rfl) ?_
            refine Kw.skip (by kernel_rfl) ?_
            refine Kw.skip (by kernel_rfl) ?_
            refine Kw.skip (by kernel_rfl) ?_
            refine Kw.skip (by kernel_rfl) ?_
            refine Kw.skip (by kernel_rfl) ?_
            refine Kw.skip (by kernel_rfl) ?_
            refine Kw.skip (by kernel_rfl) ?_
            refine Kw.skip (by kernel_rfl) ?_
            refine Kw.skip (by kernel_rfl) ?_
            refine Kw.pure (.bool false) (by kernel_rfl) (by kernel_rfl) ?_
            refine Kw.pure (.bool false) (by kernel_rfl) (by kernel_rfl) ?_
            refine Kw.fin ?_
            refine Kw.then_normal ?_
            refine wp_cond_false (by kernel_rfl) ?_
            refine wp_skip ?_
            refine Kw.then_normal ?_
            exact ⟨fun i => (#[.pointer (some ⟨B6, 0, none⟩), .bool true, .int .u32 (encN k rd rs1 rs2 imm), .bool true, .int .u8 (sh k), .bool (okB k rd rs1 rs2 imm), .tuple #[.agg #[.int .i64 ((k + 1 : Nat) : Int), .int .i64 (s (rdH k rd)), .int .i64 (s (rs1H k rs1)), .int .i64 (s (rs2H k rs2)), .int .i64 (s (immH k imm))], .bool true], .int .u32 (encN k rd rs1 rs2 imm), .tuple #[.agg #[.int .i64 ((k + 1 : Nat) : Int), .int .i64 (s (rdH k rd)), .int .i64 (s (rs1H k rs1)), .int .i64 (s (rs2H k rs2)), .int .i64 (s (immH k imm))], .bool true], .agg #[.int .i64 ((k + 1 : Nat) : Int), .int .i64 (s (rdH k rd)), .int .i64 (s (rs1H k rs1)), .int .i64 (s (rs2H k rs2)), .int .i64 (s (immH k imm))], .bool true, .tuple #[.int .u32 (encN k rd rs1 rs2 imm), .bool true], .agg #[.int .i64 ((k + 1 : Nat) : Int), .int .i64 (s (rdH k rd)), .int .i64 (s (rs1H k rs1)), .int .i64 (s (rs2H k rs2)), .int .i64 (s (immH k imm))], .tuple #[.int .u32 (encN k rd rs1 rs2 imm), .bool true], .int .u32 (encN k rd rs1 rs2 imm), .bool true, .bool true, .bool false, .bool false, .pointer (some ⟨B6, 0, none⟩), .int .i64 ((k + 1 : Nat) : Int), .pointer (some ⟨B1, 0, none⟩), .int .i64 ((k + 1 : Nat) : Int), .bool false, .bool false, .bool false, .bool true, .bool false, .bool false, .bool false, .int .u32 (encN k rd rs1 rs2 imm), .int .u32 (encN k rd rs1 rs2 imm), .bool false, .bool false, .pointer (some ⟨B1, 0, none⟩), .int .i64 ((k + 1 : Nat) : Int), .int .u8 (sh k), .int .u8 (sh k), .bool ((sh k) == (82 : Int)), .bool true, .agg #[.int .i64 ((k + 1 : Nat) : Int), .int .i64 (s (rdH k rd)), .int .i64 (s (rs1H k rs1)), .int .i64 (s (rs2H k rs2)), .int .i64 (s (immH k imm))], .pointer (some ⟨B1, 0, none⟩), .int .i64 ((k + 1 : Nat) : Int), .pointer (some ⟨B1, 1, none⟩), .int .i64 (s rd), .pointer (some ⟨B1, 2, none⟩), .int .i64 (s rs1), .pointer (some ⟨B1, 3, none⟩), .int .i64 (s rs2), .agg #[.int .i64 ((k + 1 : Nat) : Int), .int .i64 (s rd), .int .i64 (s rs1), .int .i64 (s rs2), .int .i64 0], .bool false, .bool false, .bool false, .int .u8 (sh k), .bool ((sh k) == (73 : Int)), .bool true, .agg #[.int .i64 ((k + 1 : Nat) : Int), .int .i64 (s (rdH k rd)), .int .i64 (s (rs1H k rs1)), .int .i64 (s (rs2H k rs2)), .int .i64 (s (immH k imm))], .pointer (some ⟨B1, 0, none⟩), .int .i64 ((k + 1 : Nat) : Int), .pointer (some ⟨B1, 1, none⟩), .int .i64 (s rd), .pointer (some ⟨B1, 2, none⟩), .int .i64 (s rs1), .pointer (some ⟨B1, 4, none⟩), .int .i64 (s imm), .agg #[.int .i64 ((k + 1 : Nat) : Int), .int .i64 (s rd), .int .i64 (s rs1), .int .i64 0, .int .i64 (s imm)], .bool false, .bool false, .bool false, .bool false, .int .u8 (sh k), .bool ((sh k) == (66 : Int)), .bool false, undef, undef, undef, undef, undef, undef, undef, undef, undef, undef, undef, .bool false, .bool false, .bool false] : Array Value).getD i undef, by kernel_rfl, (Held.mem_tail M9)⟩
        · skip
          refine Kw.pure (.bool false) (by kernel_rfl) (Kw.eqv (v := .bool (((sh k) == (73 : Int)))) (by kernel_rfl) (congrArg Value.bool h11)) ?_
          refine Kw.skip (by kernel_rfl) ?_
          refine Kw.skip (by kernel_rfl) ?_
          refine Kw.skip (by kernel_rfl) ?_
          refine Kw.skip (by kernel_rfl) ?_
          refine Kw.skip (by kernel_rfl) ?_
          refine Kw.skip (by kernel_rfl) ?_
          refine Kw.skip (by kernel_rfl) ?_
          refine Kw.skip (by kernel_rfl) ?_
          refine Kw.skip (by kernel_rfl) ?_
          refine Kw.skip (by kernel_rfl) ?_
          refine Kw.skip (by kernel_rfl) ?_
          refine Kw.pure (.bool false) (by kernel_rfl) (by kernel_rfl) ?_
          refine Kw.pure (.bool false) (by kernel_rfl) (by kernel_rfl) ?_
          refine Kw.pure (.bool false) (by kernel_rfl) (by kernel_rfl) ?_
          refine Kw.pure (.int .u8 (sh k)) (by kernel_rfl) (by kernel_rfl) ?_
          refine Kw.pureS (Canon.opS .eql 5 (.tmp 86) (.const (.int .u8 66)) (.int .u8 (sh k)) (.int .u8 66)) (.bool ((sh k) == (66 : Int))) (by kernel_rfl) (by kernel_rfl) (by kernel_rfl) ?_
          rcases Bool.eq_false_or_eq_true (((sh k) == (66 : Int))) with h13 | h13
          · skip
            refine Kw.pure (.bool true) (by kernel_rfl) (Kw.eqv (v := .bool (((sh k) == (66 : Int)))) (by kernel_rfl) (congrArg Value.bool h13)) ?_
            refine Kw.pureS (Canon.ldS 36 (.pointer (some ⟨B6, 0, none⟩))) (.agg #[.int .i64 ((k + 1 : Nat) : Int), .int .i64 (s (rdH k rd)), .int .i64 (s (rs1H k rs1)), .int .i64 (s (rs2H k rs2)), .int .i64 (s (immH k imm))]) (by kernel_rfl) (by kernel_rfl) (Kw.ld_all 36 (M9.get 0 rfl) _ Try.underlying36 rfl (by kernel_rfl)) ?_
            refine Kw.pure (.pointer (some ⟨B1, 0, none⟩)) (by kernel_rfl) (by kernel_rfl) ?_
            refine Kw.pureS (Canon.ldS 3 (.pointer (some ⟨B1, 0, none⟩))) (.int .i64 ((k + 1 : Nat) : Int)) (by kernel_rfl) (by kernel_rfl) (Kw.ld_cell 3 0 (.int .i64 ((k + 1 : Nat) : Int)) (M9.get 1 rfl) (by kernel_rfl) _ Try.underlying3 rfl) ?_
            refine Kw.pure (.pointer (some ⟨B1, 2, none⟩)) (by kernel_rfl) (by kernel_rfl) ?_
            refine Kw.pureS (Canon.ldS 3 (.pointer (some ⟨B1, 2, none⟩))) (.int .i64 (s rs1)) (by kernel_rfl) (by kernel_rfl) (Kw.ld_cell 3 2 (.int .i64 (s rs1)) (M9.get 1 rfl) (by kernel_rfl) _ Try.underlying3 rfl) ?_
            refine Kw.pure (.pointer (some ⟨B1, 3, none⟩)) (by kernel_rfl) (by kernel_rfl) ?_
            refine Kw.pureS (Canon.ldS 3 (.pointer (some ⟨B1, 3, none⟩))) (.int .i64 (s rs2)) (by kernel_rfl) (by kernel_rfl) (Kw.ld_cell 3 3 (.int .i64 (s rs2)) (M9.get 1 rfl) (by kernel_rfl) _ Try.underlying3 rfl) ?_
            refine Kw.pure (.pointer (some ⟨B1, 4, none⟩)) (by kernel_rfl) (by kernel_rfl) ?_
            refine Kw.pureS (Canon.ldS 2 (.pointer (some ⟨B1, 4, none⟩))) (.int .i64 (s imm)) (by kernel_rfl) (by kernel_rfl) (Kw.ld_cell 2 4 (.int .i64 (s imm)) (M9.get 1 rfl) (by kernel_rfl) _ Try.underlying2 rfl) ?_
            refine Kw.pure (.agg #[.int .i64 ((k + 1 : Nat) : Int), .int .i64 0, .int .i64 (s rs1), .int .i64 (s rs2), .int .i64 (s imm)]) (by kernel_rfl) (by kernel_rfl) ?_
            refine Kw.pureS (Canon.opS .neq 36 (.tmp 89) (.tmp 98) (.agg #[.int .i64 ((k + 1 : Nat) : Int), .int .i64 (s (rdH k rd)), .int .i64 (s (rs1H k rs1)), .int .i64 (s (rs2H k rs2)), .int .i64 (s (immH k imm))]) (.agg #[.int .i64 ((k + 1 : Nat) : Int), .int .i64 0, .int .i64 (s rs1), .int .i64 (s rs2), .int .i64 (s imm)])) (.bool false) (by kernel_rfl) (by kernel_rfl) (ne_B k h13 rd rs1 rs2 imm _ _ w9) ?_
            refine Kw.pure (.bool false) (by kernel_rfl) (by kernel_rfl) ?_
            refine Kw.pure (.bool false) (by kernel_rfl) (by kernel_rfl) ?_
            refine Kw.fin ?_
            refine Kw.then_normal ?_
            refine wp_cond_false (by kernel_rfl) ?_
            refine wp_skip ?_
            refine Kw.then_normal ?_
            exact ⟨fun i => (#[.pointer (some ⟨B6, 0, none⟩), .bool true, .int .u32 (encN k rd rs1 rs2 imm), .bool true, .int .u8 (sh k), .bool (okB k rd rs1 rs2 imm), .tuple #[.agg #[.int .i64 ((k + 1 : Nat) : Int), .int .i64 (s (rdH k rd)), .int .i64 (s (rs1H k rs1)), .int .i64 (s (rs2H k rs2)), .int .i64 (s (immH k imm))], .bool true], .int .u32 (encN k rd rs1 rs2 imm), .tuple #[.agg #[.int .i64 ((k + 1 : Nat) : Int), .int .i64 (s (rdH k rd)), .int .i64 (s (rs1H k rs1)), .int .i64 (s (rs2H k rs2)), .int .i64 (s (immH k imm))], .bool true], .agg #[.int .i64 ((k + 1 : Nat) : Int), .int .i64 (s (rdH k rd)), .int .i64 (s (rs1H k rs1)), .int .i64 (s (rs2H k rs2)), .int .i64 (s (immH k imm))], .bool true, .tuple #[.int .u32 (encN k rd rs1 rs2 imm), .bool true], .agg #[.int .i64 ((k + 1 : Nat) : Int), .int .i64 (s (rdH k rd)), .int .i64 (s (rs1H k rs1)), .int .i64 (s (rs2H k rs2)), .int .i64 (s (immH k imm))], .tuple #[.int .u32 (encN k rd rs1 rs2 imm), .bool true], .int .u32 (encN k rd rs1 rs2 imm), .bool true, .bool true, .bool false, .bool false, .pointer (some ⟨B6, 0, none⟩), .int .i64 ((k + 1 : Nat) : Int), .pointer (some ⟨B1, 0, none⟩), .int .i64 ((k + 1 : Nat) : Int), .bool false, .bool false, .bool false, .bool true, .bool false, .bool false, .bool false, .int .u32 (encN k rd rs1 rs2 imm), .int .u32 (encN k rd rs1 rs2 imm), .bool false, .bool false, .pointer (some ⟨B1, 0, none⟩), .int .i64 ((k + 1 : Nat) : Int), .int .u8 (sh k), .int .u8 (sh k), .bool ((sh k) == (82 : Int)), .bool true, .agg #[.int .i64 ((k + 1 : Nat) : Int), .int .i64 (s (rdH k rd)), .int .i64 (s (rs1H k rs1)), .int .i64 (s (rs2H k rs2)), .int .i64 (s (immH k imm))], .pointer (some ⟨B1, 0, none⟩), .int .i64 ((k + 1 : Nat) : Int), .pointer (some ⟨B1, 1, none⟩), .int .i64 (s rd), .pointer (some ⟨B1, 2, none⟩), .int .i64 (s rs1), .pointer (some ⟨B1, 3, none⟩), .int .i64 (s rs2), .agg #[.int .i64 ((k + 1 : Nat) : Int), .int .i64 (s rd), .int .i64 (s rs1), .int .i64 (s rs2), .int .i64 0], .bool false, .bool false, .bool false, .int .u8 (sh k), .bool ((sh k) == (73 : Int)), .bool false, undef, undef, undef, undef, undef, undef, undef, undef, undef, undef, undef, .bool false, .bool false, .bool false, .int .u8 (sh k), .bool ((sh k) == (66 : Int)), .bool true, .agg #[.int .i64 ((k + 1 : Nat) : Int), .int .i64 (s (rdH k rd)), .int .i64 (s (rs1H k rs1)), .int .i64 (s (rs2H k rs2)), .int .i64 (s (immH k imm))], .pointer (some ⟨B1, 0, none⟩), .int .i64 ((k + 1 : Nat) : Int), .pointer (some ⟨B1, 2, none⟩), .int .i64 (s rs1), .pointer (some ⟨B1, 3, none⟩), .int .i64 (s rs2), .pointer (some ⟨B1, 4, none⟩), .int .i64 (s imm), .agg #[.int .i64 ((k + 1 : Nat) : Int), .int .i64 0, .int .i64 (s rs1), .int .i64 (s rs2), .int .i64 (s imm)], .bool false, .bool false, .bool false, .bool false] : Array Value).getD i undef, by kernel_rfl, (Held.mem_tail M9)⟩
          · skip
            refine Kw.pure (.bool false) (by kernel_rfl) (Kw.eqv (v := .bool (((sh k) == (66 : Int)))) (by kernel_rfl) (congrArg Value.bool h13)) ?_
            refine Kw.skip (by kernel_rfl) ?_
            refine Kw.skip (by kernel_rfl) ?_
            refine Kw.skip (by kernel_rfl) ?_
            refine Kw.skip (by kernel_rfl) ?_
            refine Kw.skip (by kernel_rfl) ?_
            refine Kw.skip (by kernel_rfl) ?_
            refine Kw.skip (by kernel_rfl) ?_
            refine Kw.skip (by kernel_rfl) ?_
            refine Kw.skip (by kernel_rfl) ?_
            refine Kw.skip (by kernel_rfl) ?_
            refine Kw.skip (by kernel_rfl) ?_
            refine Kw.pure (.bool false) (by kernel_rfl) (by kernel_rfl) ?_
            refine Kw.pure (.bool false) (by kernel_rfl) (by kernel_rfl) ?_
            refine Kw.fin ?_
            refine Kw.then_normal ?_
            refine wp_cond_false (by kernel_rfl) ?_
            refine wp_skip ?_
            refine Kw.then_normal ?_
            exact ⟨fun i => (#[.pointer (some ⟨B6, 0, none⟩), .bool true, .int .u32 (encN k rd rs1 rs2 imm), .bool true, .int .u8 (sh k), .bool (okB k rd rs1 rs2 imm), .tuple #[.agg #[.int .i64 ((k + 1 : Nat) : Int), .int .i64 (s (rdH k rd)), .int .i64 (s (rs1H k rs1)), .int .i64 (s (rs2H k rs2)), .int .i64 (s (immH k imm))], .bool true], .int .u32 (encN k rd rs1 rs2 imm), .tuple #[.agg #[.int .i64 ((k + 1 : Nat) : Int), .int .i64 (s (rdH k rd)), .int .i64 (s (rs1H k rs1)), .int .i64 (s (rs2H k rs2)), .int .i64 (s (immH k imm))], .bool true], .agg #[.int .i64 ((k + 1 : Nat) : Int), .int .i64 (s (rdH k rd)), .int .i64 (s (rs1H k rs1)), .int .i64 (s (rs2H k rs2)), .int .i64 (s (immH k imm))], .bool true, .tuple #[.int .u32 (encN k rd rs1 rs2 imm), .bool true], .agg #[.int .i64 ((k + 1 : Nat) : Int), .int .i64 (s (rdH k rd)), .int .i64 (s (rs1H k rs1)), .int .i64 (s (rs2H k rs2)), .int .i64 (s (immH k imm))], .tuple #[.int .u32 (encN k rd rs1 rs2 imm), .bool true], .int .u32 (encN k rd rs1 rs2 imm), .bool true, .bool true, .bool false, .bool false, .pointer (some ⟨B6, 0, none⟩), .int .i64 ((k + 1 : Nat) : Int), .pointer (some ⟨B1, 0, none⟩), .int .i64 ((k + 1 : Nat) : Int), .bool false, .bool false, .bool false, .bool true, .bool false, .bool false, .bool false, .int .u32 (encN k rd rs1 rs2 imm), .int .u32 (encN k rd rs1 rs2 imm), .bool false, .bool false, .pointer (some ⟨B1, 0, none⟩), .int .i64 ((k + 1 : Nat) : Int), .int .u8 (sh k), .int .u8 (sh k), .bool ((sh k) == (82 : Int)), .bool true, .agg #[.int .i64 ((k + 1 : Nat) : Int), .int .i64 (s (rdH k rd)), .int .i64 (s (rs1H k rs1)), .int .i64 (s (rs2H k rs2)), .int .i64 (s (immH k imm))], .pointer (some ⟨B1, 0, none⟩), .int .i64 ((k + 1 : Nat) : Int), .pointer (some ⟨B1, 1, none⟩), .int .i64 (s rd), .pointer (some ⟨B1, 2, none⟩), .int .i64 (s rs1), .pointer (some ⟨B1, 3, none⟩), .int .i64 (s rs2), .agg #[.int .i64 ((k + 1 : Nat) : Int), .int .i64 (s rd), .int .i64 (s rs1), .int .i64 (s rs2), .int .i64 0], .bool false, .bool false, .bool false, .int .u8 (sh k), .bool ((sh k) == (73 : Int)), .bool false, undef, undef, undef, undef, undef, undef, undef, undef, undef, undef, undef, .bool false, .bool false, .bool false, .int .u8 (sh k), .bool ((sh k) == (66 : Int)), .bool false, undef, undef, undef, undef, undef, undef, undef, undef, undef, undef, undef, .bool false, .bool false, .bool false] : Array Value).getD i undef, by kernel_rfl, (Held.mem_tail M9)⟩
      · skip
        refine Kw.pure (.bool false) (by kernel_rfl) (Kw.eqv (v := .bool (((sh k) == (82 : Int)))) (by kernel_rfl) (congrArg Value.bool h10)) ?_
        refine Kw.skip (by kernel_rfl) ?_
        refine Kw.skip (by kernel_rfl) ?_
        refine Kw.skip (by kernel_rfl) ?_
        refine Kw.skip (by kernel_rfl) ?_
        refine Kw.skip (by kernel_rfl) ?_
        refine Kw.skip (by kernel_rfl) ?_
        refine Kw.skip (by kernel_rfl) ?_
        refine Kw.skip (by kernel_rfl) ?_
        refine Kw.skip (by kernel_rfl) ?_
        refine Kw.skip (by kernel_rfl) ?_
        refine Kw.skip (by kernel_rfl) ?_
        refine Kw.pure (.bool false) (by kernel_rfl) (by kernel_rfl) ?_
        refine Kw.pure (.bool false) (by kernel_rfl) (by kernel_rfl) ?_
        refine Kw.pure (.int .u8 (sh k)) (by kernel_rfl) (by kernel_rfl) ?_
        refine Kw.pureS (Canon.opS .eql 5 (.tmp 69) (.const (.int .u8 73)) (.int .u8 (sh k)) (.int .u8 73)) (.bool ((sh k) == (73 : Int))) (by kernel_rfl) (by kernel_rfl) (by kernel_rfl) ?_
        rcases Bool.eq_false_or_eq_true (((sh k) == (73 : Int))) with h14 | h14
        · skip
          refine Kw.pure (.bool true) (by kernel_rfl) (Kw.eqv (v := .bool (((sh k) == (73 : Int)))) (by kernel_rfl) (congrArg Value.bool h14)) ?_
          refine Kw.pureS (Canon.ldS 36 (.pointer (some ⟨B6, 0, none⟩))) (.agg #[.int .i64 ((k + 1 : Nat) : Int), .int .i64 (s (rdH k rd)), .int .i64 (s (rs1H k rs1)), .int .i64 (s (rs2H k rs2)), .int .i64 (s (immH k imm))]) (by kernel_rfl) (by kernel_rfl) (Kw.ld_all 36 (M9.get 0 rfl) _ Try.underlying36 rfl (by kernel_rfl)) ?_
          refine Kw.pure (.pointer (some ⟨B1, 0, none⟩)) (by kernel_rfl) (by kernel_rfl) ?_
          refine Kw.pureS (Canon.ldS 3 (.pointer (some ⟨B1, 0, none⟩))) (.int .i64 ((k + 1 : Nat) : Int)) (by kernel_rfl) (by kernel_rfl) (Kw.ld_cell 3 0 (.int .i64 ((k + 1 : Nat) : Int)) (M9.get 1 rfl) (by kernel_rfl) _ Try.underlying3 rfl) ?_
          refine Kw.pure (.pointer (some ⟨B1, 1, none⟩)) (by kernel_rfl) (by kernel_rfl) ?_
          refine Kw.pureS (Canon.ldS 3 (.pointer (some ⟨B1, 1, none⟩))) (.int .i64 (s rd)) (by kernel_rfl) (by kernel_rfl) (Kw.ld_cell 3 1 (.int .i64 (s rd)) (M9.get 1 rfl) (by kernel_rfl) _ Try.underlying3 rfl) ?_
          refine Kw.pure (.pointer (some ⟨B1, 2, none⟩)) (by kernel_rfl) (by kernel_rfl) ?_
          refine Kw.pureS (Canon.ldS 3 (.pointer (some ⟨B1, 2, none⟩))) (.int .i64 (s rs1)) (by kernel_rfl) (by kernel_rfl) (Kw.ld_cell 3 2 (.int .i64 (s rs1)) (M9.get 1 rfl) (by kernel_rfl) _ Try.underlying3 rfl) ?_
          refine Kw.pure (.pointer (some ⟨B1, 4, none⟩)) (by kernel_rfl) (by kernel_rfl) ?_
          refine Kw.pureS (Canon.ldS 2 (.pointer (some ⟨B1, 4, none⟩))) (.int .i64 (s imm)) (by kernel_rfl) (by kernel_rfl) (Kw.ld_cell 2 4 (.int .i64 (s imm)) (M9.get 1 rfl) (by kernel_rfl) _ Try.underlying2 rfl) ?_
          refine Kw.pure (.agg #[.int .i64 ((k + 1 : Nat) : Int), .int .i64 (s rd), .int .i64 (s rs1), .int .i64 0, .int .i64 (s imm)]) (by kernel_rfl) (by kernel_rfl) ?_
          refine Kw.pureS (Canon.opS .neq 36 (.tmp 72) (.tmp 81) (.agg #[.int .i64 ((k + 1 : Nat) : Int), .int .i64 (s (rdH k rd)), .int .i64 (s (rs1H k rs1)), .int .i64 (s (rs2H k rs2)), .int .i64 (s (immH k imm))]) (.agg #[.int .i64 ((k + 1 : Nat) : Int), .int .i64 (s rd), .int .i64 (s rs1), .int .i64 0, .int .i64 (s imm)])) (.bool false) (by kernel_rfl) (by kernel_rfl) (ne_I k h14 rd rs1 rs2 imm _ _ w9) ?_
          refine Kw.pure (.bool false) (by kernel_rfl) (by kernel_rfl) ?_
          refine Kw.pure (.bool false) (by kernel_rfl) (by kernel_rfl) ?_
          refine Kw.pure (.bool false) (by kernel_rfl) (by kernel_rfl) ?_
          refine Kw.pure (.int .u8 (sh k)) (by kernel_rfl) (by kernel_rfl) ?_
          refine Kw.pureS (Canon.opS .eql 5 (.tmp 86) (.const (.int .u8 66)) (.int .u8 (sh k)) (.int .u8 66)) (.bool ((sh k) == (66 : Int))) (by kernel_rfl) (by kernel_rfl) (by kernel_rfl) ?_
          rcases Bool.eq_false_or_eq_true (((sh k) == (66 : Int))) with h15 | h15
          · skip
            refine Kw.pure (.bool true) (by kernel_rfl) (Kw.eqv (v := .bool (((sh k) == (66 : Int)))) (by kernel_rfl) (congrArg Value.bool h15)) ?_
            refine Kw.pureS (Canon.ldS 36 (.pointer (some ⟨B6, 0, none⟩))) (.agg #[.int .i64 ((k + 1 : Nat) : Int), .int .i64 (s (rdH k rd)), .int .i64 (s (rs1H k rs1)), .int .i64 (s (rs2H k rs2)), .int .i64 (s (immH k imm))]) (by kernel_rfl) (by kernel_rfl) (Kw.ld_all 36 (M9.get 0 rfl) _ Try.underlying36 rfl (by kernel_rfl)) ?_
            refine Kw.pure (.pointer (some ⟨B1, 0, none⟩)) (by kernel_rfl) (by kernel_rfl) ?_
            refine Kw.pureS (Canon.ldS 3 (.pointer (some ⟨B1, 0, none⟩))) (.int .i64 ((k + 1 : Nat) : Int)) (by kernel_rfl) (by kernel_rfl) (Kw.ld_cell 3 0 (.int .i64 ((k + 1 : Nat) : Int)) (M9.get 1 rfl) (by kernel_rfl) _ Try.underlying3 rfl) ?_
            refine Kw.pure (.pointer (some ⟨B1, 2, none⟩)) (by kernel_rfl) (by kernel_rfl) ?_
            refine Kw.pureS (Canon.ldS 3 (.pointer (some ⟨B1, 2, none⟩))) (.int .i64 (s rs1)) (by kernel_rfl) (by kernel_rfl) (Kw.ld_cell 3 2 (.int .i64 (s rs1)) (M9.get 1 rfl) (by kernel_rfl) _ Try.underlying3 rfl) ?_
            refine Kw.pure (.pointer (some ⟨B1, 3, none⟩)) (by kernel_rfl) (by kernel_rfl) ?_
            refine Kw.pureS (Canon.ldS 3 (.pointer (some ⟨B1, 3, none⟩))) (.int .i64 (s rs2)) (by kernel_rfl) (by kernel_rfl) (Kw.ld_cell 3 3 (.int .i64 (s rs2)) (M9.get 1 rfl) (by kernel_rfl) _ Try.underlying3 rfl) ?_
            refine Kw.pure (.pointer (some ⟨B1, 4, none⟩)) (by kernel_rfl) (by kernel_rfl) ?_
            refine Kw.pureS (Canon.ldS 2 (.pointer (some ⟨B1, 4, none⟩))) (.int .i64 (s imm)) (by kernel_rfl) (by kernel_rfl) (Kw.ld_cell 2 4 (.int .i64 (s imm)) (M9.get 1 rfl) (by kernel_rfl) _ Try.underlying2 rfl) ?_
            refine Kw.pure (.agg #[.int .i64 ((k + 1 : Nat) : Int), .int .i64 0, .int .i64 (s rs1), .int .i64 (s rs2), .int .i64 (s imm)]) (by kernel_rfl) (by kernel_rfl) ?_
            refine Kw.pureS (Canon.opS .neq 36 (.tmp 89) (.tmp 98) (.agg #[.int .i64 ((k + 1 : Nat) : Int), .int .i64 (s (rdH k rd)), .int .i64 (s (rs1H k rs1)), .int .i64 (s (rs2H k rs2)), .int .i64 (s (immH k imm))]) (.agg #[.int .i64 ((k + 1 : Nat) : Int), .int .i64 0, .int .i64 (s rs1), .int .i64 (s rs2), .int .i64 (s imm)])) (.bool false) (by kernel_rfl) (by kernel_rfl) (ne_B k h15 rd rs1 rs2 imm _ _ w9) ?_
            refine Kw.pure (.bool false) (by kernel_rfl) (by kernel_rfl) ?_
            refine Kw.pure (.bool false) (by kernel_rfl) (by kernel_rfl) ?_
            refine Kw.fin ?_
            refine Kw.then_normal ?_
            refine wp_cond_false (by kernel_rfl) ?_
            refine wp_skip ?_
            refine Kw.then_normal ?_
            exact ⟨fun i => (#[.pointer (some ⟨B6, 0, none⟩), .bool true, .int .u32 (encN k rd rs1 rs2 imm), .bool true, .int .u8 (sh k), .bool (okB k rd rs1 rs2 imm), .tuple #[.agg #[.int .i64 ((k + 1 : Nat) : Int), .int .i64 (s (rdH k rd)), .int .i64 (s (rs1H k rs1)), .int .i64 (s (rs2H k rs2)), .int .i64 (s (immH k imm))], .bool true], .int .u32 (encN k rd rs1 rs2 imm), .tuple #[.agg #[.int .i64 ((k + 1 : Nat) : Int), .int .i64 (s (rdH k rd)), .int .i64 (s (rs1H k rs1)), .int .i64 (s (rs2H k rs2)), .int .i64 (s (immH k imm))], .bool true], .agg #[.int .i64 ((k + 1 : Nat) : Int), .int .i64 (s (rdH k rd)), .int .i64 (s (rs1H k rs1)), .int .i64 (s (rs2H k rs2)), .int .i64 (s (immH k imm))], .bool true, .tuple #[.int .u32 (encN k rd rs1 rs2 imm), .bool true], .agg #[.int .i64 ((k + 1 : Nat) : Int), .int .i64 (s (rdH k rd)), .int .i64 (s (rs1H k rs1)), .int .i64 (s (rs2H k rs2)), .int .i64 (s (immH k imm))], .tuple #[.int .u32 (encN k rd rs1 rs2 imm), .bool true], .int .u32 (encN k rd rs1 rs2 imm), .bool true, .bool true, .bool false, .bool false, .pointer (some ⟨B6, 0, none⟩), .int .i64 ((k + 1 : Nat) : Int), .pointer (some ⟨B1, 0, none⟩), .int .i64 ((k + 1 : Nat) : Int), .bool false, .bool false, .bool false, .bool true, .bool false, .bool false, .bool false, .int .u32 (encN k rd rs1 rs2 imm), .int .u32 (encN k rd rs1 rs2 imm), .bool false, .bool false, .pointer (some ⟨B1, 0, none⟩), .int .i64 ((k + 1 : Nat) : Int), .int .u8 (sh k), .int .u8 (sh k), .bool ((sh k) == (82 : Int)), .bool false, undef, undef, undef, undef, undef, undef, undef, undef, undef, undef, undef, .bool false, .bool false, .int .u8 (sh k), .bool ((sh k) == (73 : Int)), .bool true, .agg #[.int .i64 ((k + 1 : Nat) : Int), .int .i64 (s (rdH k rd)), .int .i64 (s (rs1H k rs1)), .int .i64 (s (rs2H k rs2)), .int .i64 (s (immH k imm))], .pointer (some ⟨B1, 0, none⟩), .int .i64 ((k + 1 : Nat) : Int), .pointer (some ⟨B1, 1, none⟩), .int .i64 (s rd), .pointer (some ⟨B1, 2, none⟩), .int .i64 (s rs1), .pointer (some ⟨B1, 4, none⟩), .int .i64 (s imm), .agg #[.int .i64 ((k + 1 : Nat) : Int), .int .i64 (s rd), .int .i64 (s rs1), .int .i64 0, .int .i64 (s imm)], .bool false, .bool false, .bool false, .bool false, .int .u8 (sh k), .bool ((sh k) == (66 : Int)), .bool true, .agg #[.int .i64 ((k + 1 : Nat) : Int), .int .i64 (s (rdH k rd)), .int .i64 (s (rs1H k rs1)), .int .i64 (s (rs2H k rs2)), .int .i64 (s (immH k imm))], .pointer (some ⟨B1, 0, none⟩), .int .i64 ((k + 1 : Nat) : Int), .pointer (some ⟨B1, 2, none⟩), .int .i64 (s rs1), .pointer (some ⟨B1, 3, none⟩), .int .i64 (s rs2), .pointer (some ⟨B1, 4, none⟩), .int .i64 (s imm), .agg #[.int .i64 ((k + 1 : Nat) : Int), .int .i64 0, .int .i64 (s rs1), .int .i64 (s rs2), .int .i64 (s imm)], .bool false, .bool false, .bool false, .bool false] : Array Value).getD i undef, by kernel_rfl, (Held.mem_tail M9)⟩
          · skip
            refine Kw.pure (.bool false) (by kernel_rfl) (Kw.eqv (v := .bool (((sh k) == (66 : Int)))) (by kernel_rfl) (congrArg Value.bool h15)) ?_
            refine Kw.skip (by kernel_rfl) ?_
            refine Kw.skip (by kernel_rfl) ?_
            refine Kw.skip (by kernel_rfl) ?_
            refine Kw.skip (by kernel_rfl) ?_
            refine Kw.skip (by kernel_rfl) ?_
            refine Kw.skip (by kernel_rfl) ?_
            refine Kw.skip (by kernel_rfl) ?_
            refine Kw.skip (by kernel_rfl) ?_
            refine Kw.skip (by kernel_rfl) ?_
            refine Kw.skip (by kernel_rfl) ?_
            refine Kw.skip (by kernel_rfl) ?_
            refine Kw.pure (.bool false) (by kernel_rfl) (by kernel_rfl) ?_
            refine Kw.pure (.bool false) (by kernel_rfl) (by kernel_rfl) ?_
            refine Kw.fin ?_
            refine Kw.then_normal ?_
            refine wp_cond_false (by kernel_rfl) ?_
            refine wp_skip ?_
            refine Kw.then_normal ?_
            exact ⟨fun i => (#[.pointer (some ⟨B6, 0, none⟩), .bool true, .int .u32 (encN k rd rs1 rs2 imm), .bool true, .int .u8 (sh k), .bool (okB k rd rs1 rs2 imm), .tuple #[.agg #[.int .i64 ((k + 1 : Nat) : Int), .int .i64 (s (rdH k rd)), .int .i64 (s (rs1H k rs1)), .int .i64 (s (rs2H k rs2)), .int .i64 (s (immH k imm))], .bool true], .int .u32 (encN k rd rs1 rs2 imm), .tuple #[.agg #[.int .i64 ((k + 1 : Nat) : Int), .int .i64 (s (rdH k rd)), .int .i64 (s (rs1H k rs1)), .int .i64 (s (rs2H k rs2)), .int .i64 (s (immH k imm))], .bool true], .agg #[.int .i64 ((k + 1 : Nat) : Int), .int .i64 (s (rdH k rd)), .int .i64 (s (rs1H k rs1)), .int .i64 (s (rs2H k rs2)), .int .i64 (s (immH k imm))], .bool true, .tuple #[.int .u32 (encN k rd rs1 rs2 imm), .bool true], .agg #[.int .i64 ((k + 1 : Nat) : Int), .int .i64 (s (rdH k rd)), .int .i64 (s (rs1H k rs1)), .int .i64 (s (rs2H k rs2)), .int .i64 (s (immH k imm))], .tuple #[.int .u32 (encN k rd rs1 rs2 imm), .bool true], .int .u32 (encN k rd rs1 rs2 imm), .bool true, .bool true, .bool false, .bool false, .pointer (some ⟨B6, 0, none⟩), .int .i64 ((k + 1 : Nat) : Int), .pointer (some ⟨B1, 0, none⟩), .int .i64 ((k + 1 : Nat) : Int), .bool false, .bool false, .bool false, .bool true, .bool false, .bool false, .bool false, .int .u32 (encN k rd rs1 rs2 imm), .int .u32 (encN k rd rs1 rs2 imm), .bool false, .bool false, .pointer (some ⟨B1, 0, none⟩), .int .i64 ((k + 1 : Nat) : Int), .int .u8 (sh k), .int .u8 (sh k), .bool ((sh k) == (82 : Int)), .bool false, undef, undef, undef, undef, undef, undef, undef, undef, undef, undef, undef, .bool false, .bool false, .int .u8 (sh k), .bool ((sh k) == (73 : Int)), .bool true, .agg #[.int .i64 ((k + 1 : Nat) : Int), .int .i64 (s (rdH k rd)), .int .i64 (s (rs1H k rs1)), .int .i64 (s (rs2H k rs2)), .int .i64 (s (immH k imm))], .pointer (some ⟨B1, 0, none⟩), .int .i64 ((k + 1 : Nat) : Int), .pointer (some ⟨B1, 1, none⟩), .int .i64 (s rd), .pointer (some ⟨B1, 2, none⟩), .int .i64 (s rs1), .pointer (some ⟨B1, 4, none⟩), .int .i64 (s imm), .agg #[.int .i64 ((k + 1 : Nat) : Int), .int .i64 (s rd), .int .i64 (s rs1), .int .i64 0, .int .i64 (s imm)], .bool false, .bool false, .bool false, .bool false, .int .u8 (sh k), .bool ((sh k) == (66 : Int)), .bool false, undef, undef, undef, undef, undef, undef, undef, undef, undef, undef, undef, .bool false, .bool false, .bool false] : Array Value).getD i undef, by kernel_rfl, (Held.mem_tail M9)⟩
        · skip
          refine Kw.pure (.bool false) (by kernel_rfl) (Kw.eqv (v := .bool (((sh k) == (73 : Int)))) (by kernel_rfl) (congrArg Value.bool h14)) ?_
          refine Kw.skip (by kernel_rfl) ?_
          refine Kw.skip (by kernel_rfl) ?_
          refine Kw.skip (by kernel_rfl) ?_
          refine Kw.skip (by kernel_rfl) ?_
          refine Kw.skip (by kernel_rfl) ?_
          refine Kw.skip (by kernel_rfl) ?_
          refine Kw.skip (by kernel_rfl) ?_
          refine Kw.skip (by kernel_rfl) ?_
          refine Kw.skip (by kernel_rfl) ?_
          refine Kw.skip (by kernel_rfl) ?_
          refine Kw.skip (by kernel_rfl) ?_
          refine Kw.pure (.bool false) (by kernel_rfl) (by kernel_rfl) ?_
          refine Kw.pure (.bool false) (by kernel_rfl) (by kernel_rfl) ?_
          refine Kw.pure (.bool false) (by kernel_rfl) (by kernel_rfl) ?_
          refine Kw.pure (.int .u8 (sh k)) (by kernel_rfl) (by kernel_rfl) ?_
          refine Kw.pureS (Canon.opS .eql 5 (.tmp 86) (.const (.int .u8 66)) (.int .u8 (sh k)) (.int .u8 66)) (.bool ((sh k) == (66 : Int))) (by kernel_rfl) (by kernel_rfl) (by kernel_rfl) ?_
          rcases Bool.eq_false_or_eq_true (((sh k) == (66 : Int))) with h16 | h16
          · skip
            refine Kw.pure (.bool true) (by kernel_rfl) (Kw.eqv (v := .bool (((sh k) == (66 : Int)))) (by kernel_rfl) (congrArg Value.bool h16)) ?_
            refine Kw.pureS (Canon.ldS 36 (.pointer (some ⟨B6, 0, none⟩))) (.agg #[.int .i64 ((k + 1 : Nat) : Int), .int .i64 (s (rdH k rd)), .int .i64 (s (rs1H k rs1)), .int .i64 (s (rs2H k rs2)), .int .i64 (s (immH k imm))]) (by kernel_rfl) (by kernel_rfl) (Kw.ld_all 36 (M9.get 0 rfl) _ Try.underlying36 rfl (by kernel_rfl)) ?_
            refine Kw.pure (.pointer (some ⟨B1, 0, none⟩)) (by kernel_rfl) (by kernel_rfl) ?_
            refine Kw.pureS (Canon.ldS 3 (.pointer (some ⟨B1, 0, none⟩))) (.int .i64 ((k + 1 : Nat) : Int)) (by kernel_rfl) (by kernel_rfl) (Kw.ld_cell 3 0 (.int .i64 ((k + 1 : Nat) : Int)) (M9.get 1 rfl) (by kernel_rfl) _ Try.underlying3 rfl) ?_
            refine Kw.pure (.pointer (some ⟨B1, 2, none⟩)) (by kernel_rfl) (by kernel_rfl) ?_
            refine Kw.pureS (Canon.ldS 3 (.pointer (some ⟨B1, 2, none⟩))) (.int .i64 (s rs1)) (by kernel_rfl) (by kernel_rfl) (Kw.ld_cell 3 2 (.int .i64 (s rs1)) (M9.get 1 rfl) (by kernel_rfl) _ Try.underlying3 rfl) ?_
            refine Kw.pure (.pointer (some ⟨B1, 3, none⟩)) (by kernel_rfl) (by kernel_rfl) ?_
            refine Kw.pureS (Canon.ldS 3 (.pointer (some ⟨B1, 3, none⟩))) (.int .i64 (s rs2)) (by kernel_rfl) (by kernel_rfl) (Kw.ld_cell 3 3 (.int .i64 (s rs2)) (M9.get 1 rfl) (by kernel_rfl) _ Try.underlying3 rfl) ?_
            refine Kw.pure (.pointer (some ⟨B1, 4, none⟩)) (by kernel_rfl) (by kernel_rfl) ?_
            refine Kw.pureS (Canon.ldS 2 (.pointer (some ⟨B1, 4, none⟩))) (.int .i64 (s imm)) (by kernel_rfl) (by kernel_rfl) (Kw.ld_cell 2 4 (.int .i64 (s imm)) (M9.get 1 rfl) (by kernel_rfl) _ Try.underlying2 rfl) ?_
            refine Kw.pure (.agg #[.int .i64 ((k + 1 : Nat) : Int), .int .i64 0, .int .i64 (s rs1), .int .i64 (s rs2), .int .i64 (s imm)]) (by kernel_rfl) (by kernel_rfl) ?_
            refine Kw.pureS (Canon.opS .neq 36 (.tmp 89) (.tmp 98) (.agg #[.int .i64 ((k + 1 : Nat) : Int), .int .i64 (s (rdH k rd)), .int .i64 (s (rs1H k rs1)), .int .i64 (s (rs2H k rs2)), .int .i64 (s (immH k imm))]) (.agg #[.int .i64 ((k + 1 : Nat) : Int), .int .i64 0, .int .i64 (s rs1), .int .i64 (s rs2), .int .i64 (s imm)])) (.bool false) (by kernel_rfl) (by kernel_rfl) (ne_B k h16 rd rs1 rs2 imm _ _ w9) ?_
            refine Kw.pure (.bool false) (by kernel_rfl) (by kernel_rfl) ?_
            refine Kw.pure (.bool false) (by kernel_rfl) (by kernel_rfl) ?_
            refine Kw.fin ?_
            refine Kw.then_normal ?_
            refine wp_cond_false (by kernel_rfl) ?_
            refine wp_skip ?_
            refine Kw.then_normal ?_
            exact ⟨fun i => (#[.pointer (some ⟨B6, 0, none⟩), .bool true, .int .u32 (encN k rd rs1 rs2 imm), .bool true, .int .u8 (sh k), .bool (okB k rd rs1 rs2 imm), .tuple #[.agg #[.int .i64 ((k + 1 : Nat) : Int), .int .i64 (s (rdH k rd)), .int .i64 (s (rs1H k rs1)), .int .i64 (s (rs2H k rs2)), .int .i64 (s (immH k imm))], .bool true], .int .u32 (encN k rd rs1 rs2 imm), .tuple #[.agg #[.int .i64 ((k + 1 : Nat) : Int), .int .i64 (s (rdH k rd)), .int .i64 (s (rs1H k rs1)), .int .i64 (s (rs2H k rs2)), .int .i64 (s (immH k imm))], .bool true], .agg #[.int .i64 ((k + 1 : Nat) : Int), .int .i64 (s (rdH k rd)), .int .i64 (s (rs1H k rs1)), .int .i64 (s (rs2H k rs2)), .int .i64 (s (immH k imm))], .bool true, .tuple #[.int .u32 (encN k rd rs1 rs2 imm), .bool true], .agg #[.int .i64 ((k + 1 : Nat) : Int), .int .i64 (s (rdH k rd)), .int .i64 (s (rs1H k rs1)), .int .i64 (s (rs2H k rs2)), .int .i64 (s (immH k imm))], .tuple #[.int .u32 (encN k rd rs1 rs2 imm), .bool true], .int .u32 (encN k rd rs1 rs2 imm), .bool true, .bool true, .bool false, .bool false, .pointer (some ⟨B6, 0, none⟩), .int .i64 ((k + 1 : Nat) : Int), .pointer (some ⟨B1, 0, none⟩), .int .i64 ((k + 1 : Nat) : Int), .bool false, .bool false, .bool false, .bool true, .bool false, .bool false, .bool false, .int .u32 (encN k rd rs1 rs2 imm), .int .u32 (encN k rd rs1 rs2 imm), .bool false, .bool false, .pointer (some ⟨B1, 0, none⟩), .int .i64 ((k + 1 : Nat) : Int), .int .u8 (sh k), .int .u8 (sh k), .bool ((sh k) == (82 : Int)), .bool false, undef, undef, undef, undef, undef, undef, undef, undef, undef, undef, undef, .bool false, .bool false, .int .u8 (sh k), .bool ((sh k) == (73 : Int)), .bool false, undef, undef, undef, undef, undef, undef, undef, undef, undef, undef, undef, .bool false, .bool false, .bool false, .int .u8 (sh k), .bool ((sh k) == (66 : Int)), .bool true, .agg #[.int .i64 ((k + 1 : Nat) : Int), .int .i64 (s (rdH k rd)), .int .i64 (s (rs1H k rs1)), .int .i64 (s (rs2H k rs2)), .int .i64 (s (immH k imm))], .pointer (some ⟨B1, 0, none⟩), .int .i64 ((k + 1 : Nat) : Int), .pointer (some ⟨B1, 2, none⟩), .int .i64 (s rs1), .pointer (some ⟨B1, 3, none⟩), .int .i64 (s rs2), .pointer (some ⟨B1, 4, none⟩), .int .i64 (s imm), .agg #[.int .i64 ((k + 1 : Nat) : Int), .int .i64 0, .int .i64 (s rs1), .int .i64 (s rs2), .int .i64 (s imm)], .bool false, .bool false, .bool false, .bool false] : Array Value).getD i undef, by kernel_rfl, (Held.mem_tail M9)⟩
          · skip
            refine Kw.pure (.bool false) (by kernel_rfl) (Kw.eqv (v := .bool (((sh k) == (66 : Int)))) (by kernel_rfl) (congrArg Value.bool h16)) ?_
            refine Kw.skip (by kernel_rfl) ?_
            refine Kw.skip (by kernel_rfl) ?_
            refine Kw.skip (by kernel_rfl) ?_
            refine Kw.skip (by kernel_rfl) ?_
            refine Kw.skip (by kernel_rfl) ?_
            refine Kw.skip (by kernel_rfl) ?_
            refine Kw.skip (by kernel_rfl) ?_
            refine Kw.skip (by kernel_rfl) ?_
            refine Kw.skip (by kernel_rfl) ?_
            refine Kw.skip (by kernel_rfl) ?_
            refine Kw.skip (by kernel_rfl) ?_
            refine Kw.pure (.bool false) (by kernel_rfl) (by kernel_rfl) ?_
            refine Kw.pure (.bool false) (by kernel_rfl) (by kernel_rfl) ?_
            refine Kw.fin ?_
            refine Kw.then_normal ?_
            refine wp_cond_false (by kernel_rfl) ?_
            refine wp_skip ?_
            refine Kw.then_normal ?_
            exact ⟨fun i => (#[.pointer (some ⟨B6, 0, none⟩), .bool true, .int .u32 (encN k rd rs1 rs2 imm), .bool true, .int .u8 (sh k), .bool (okB k rd rs1 rs2 imm), .tuple #[.agg #[.int .i64 ((k + 1 : Nat) : Int), .int .i64 (s (rdH k rd)), .int .i64 (s (rs1H k rs1)), .int .i64 (s (rs2H k rs2)), .int .i64 (s (immH k imm))], .bool true], .int .u32 (encN k rd rs1 rs2 imm), .tuple #[.agg #[.int .i64 ((k + 1 : Nat) : Int), .int .i64 (s (rdH k rd)), .int .i64 (s (rs1H k rs1)), .int .i64 (s (rs2H k rs2)), .int .i64 (s (immH k imm))], .bool true], .agg #[.int .i64 ((k + 1 : Nat) : Int), .int .i64 (s (rdH k rd)), .int .i64 (s (rs1H k rs1)), .int .i64 (s (rs2H k rs2)), .int .i64 (s (immH k imm))], .bool true, .tuple #[.int .u32 (encN k rd rs1 rs2 imm), .bool true], .agg #[.int .i64 ((k + 1 : Nat) : Int), .int .i64 (s (rdH k rd)), .int .i64 (s (rs1H k rs1)), .int .i64 (s (rs2H k rs2)), .int .i64 (s (immH k imm))], .tuple #[.int .u32 (encN k rd rs1 rs2 imm), .bool true], .int .u32 (encN k rd rs1 rs2 imm), .bool true, .bool true, .bool false, .bool false, .pointer (some ⟨B6, 0, none⟩), .int .i64 ((k + 1 : Nat) : Int), .pointer (some ⟨B1, 0, none⟩), .int .i64 ((k + 1 : Nat) : Int), .bool false, .bool false, .bool false, .bool true, .bool false, .bool false, .bool false, .int .u32 (encN k rd rs1 rs2 imm), .int .u32 (encN k rd rs1 rs2 imm), .bool false, .bool false, .pointer (some ⟨B1, 0, none⟩), .int .i64 ((k + 1 : Nat) : Int), .int .u8 (sh k), .int .u8 (sh k), .bool ((sh k) == (82 : Int)), .bool false, undef, undef, undef, undef, undef, undef, undef, undef, undef, undef, undef, .bool false, .bool false, .int .u8 (sh k), .bool ((sh k) == (73 : Int)), .bool false, undef, undef, undef, undef, undef, undef, undef, undef, undef, undef, undef, .bool false, .bool false, .bool false, .int .u8 (sh k), .bool ((sh k) == (66 : Int)), .bool false, undef, undef, undef, undef, undef, undef, undef, undef, undef, undef, undef, .bool false, .bool false, .bool false] : Array Value).getD i undef, by kernel_rfl, (Held.mem_tail M9)⟩
    · skip
      refine wp_skip ?_
      refine Kw.then_normal ?_
      exact ⟨fun i => (#[undef, undef, undef, undef, undef, .bool (okB k rd rs1 rs2 imm), undef, undef, undef, undef, undef, undef, undef, undef, undef, undef, undef, undef, undef, undef, undef, undef, undef, undef, undef, undef, undef, undef, undef, undef, undef, undef, undef, undef, undef, undef, undef, undef, undef, undef, undef, undef, undef, undef, undef, undef, undef, undef, undef, undef, undef, undef, undef, undef, undef, undef, undef, undef, undef, undef, undef, undef, undef, undef, undef, undef, undef, undef, undef, undef, undef, undef, undef, undef, undef, undef, undef, undef, undef, undef, undef, undef, undef, undef, undef, undef, .bool false] : Array Value).getD i undef, by kernel_rfl, M2⟩
  · skip
    obtain ⟨y3, rfl, M3⟩ := hI
    refine wp_seq ?_
    rcases hb : decN x with _ | kb
    · skip
      refine Kw.region ?_
      refine Kw.pure (.int .u32 (u x)) (by kernel_rfl) (by kernel_rfl) ?_
      refine Kw.call (.tuple #[.agg #[.int .i64 0, .int .i64 0, .int .i64 0, .int .i64 0, .int .i64 0], .bool false]) 27 #[.int .u32 (u x)] M3 (by kernel_rfl) (by kernel_rfl) (decode_n x hb w3) fun w17 M17 => ?_
      refine Kw.pure (.tuple #[.agg #[.int .i64 0, .int .i64 0, .int .i64 0, .int .i64 0, .int .i64 0], .bool false]) (by kernel_rfl) (by kernel_rfl) ?_
      refine Kw.pure (.agg #[.int .i64 0, .int .i64 0, .int .i64 0, .int .i64 0, .int .i64 0]) (by kernel_rfl) (by kernel_rfl) ?_
      refine Kw.pure (.bool false) (by kernel_rfl) (by kernel_rfl) ?_
      refine Kw.alloc #[.int .i64 0, .int .i64 0, .int .i64 0, .int .i64 0, .int .i64 0] 36 M17 (by kernel_rfl) (by kernel_rfl) fun w18 B18 M18 => ?_
      refine Kw.storeAll 0 36 #[.int .i64 0, .int .i64 0, .int .i64 0, .int .i64 0, .int .i64 0] M18 rfl (by kernel_rfl) (by kernel_rfl) rfl (by kernel_rfl) (by kernel_rfl) fun w19 M19 => ?_
      refine Kw.pure (.bool false) (by kernel_rfl) (by kernel_rfl) ?_
      refine Kw.fin ?_
      refine Kw.then_normal ?_
      refine wp_seq ?_
      refine wp_seq ?_
      refine Kw.region ?_
      refine Kw.pure (.bool false) (by kernel_rfl) (by kernel_rfl) ?_
      refine Kw.fin ?_
      refine Kw.then_normal ?_
      refine wp_cond_false (by kernel_rfl) ?_
      refine wp_skip ?_
      refine Kw.then_normal ?_
      refine wp_seq ?_
      refine Canon.region_canon (I := fun w => Kw.Mem [] W w [(B18, #[.int .i64 0, .int .i64 0, .int .i64 0, .int .i64 0, .int .i64 0], 36), (B1, #[.int .i64 ((k + 1 : Nat) : Int), .int .i64 (s rd), .int .i64 (s rs1), .int .i64 (s rs2), .int .i64 (s imm)], 36)]) (by kernel_rfl) (by decide +kernel) M19.drew' ?_
      refine Canon.pure (.pointer (some ⟨B1, 0, none⟩)) (by kernel_rfl) (fun w => by kernel_rfl) ?_
      refine Canon.readsS (Canon.ldS 3 (.pointer (some ⟨B1, 0, none⟩))) (.int .i64 ((k + 1 : Nat) : Int)) (by kernel_rfl) (by kernel_rfl) (fun w hw => Kw.ld_cell 3 0 (.int .i64 ((k + 1 : Nat) : Int)) (hw.get 1 rfl) (by kernel_rfl) _ Try.underlying3 rfl) ?_
      refine Canon.call (.string (nm k)) 32 #[.int .i64 ((k + 1 : Nat) : Int)] (by kernel_rfl) (fun w => by kernel_rfl) (fun w hw => (name_in k hk w).mono fun r w1 ⟨he, hb⟩ => ⟨he, hw.call hb⟩) ?_
      refine Canon.call (.int .i64 ((k + 1 : Nat) : Int)) 31 #[.string (nm k)] (by kernel_rfl) (fun w => by kernel_rfl) (fun w hw => (find_m k hk w).mono fun r w1 ⟨he, hb⟩ => ⟨he, hw.call hb⟩) ?_
      refine Canon.pureS (Canon.opS .eql 3 (.tmp 123) (.const (.int .i64 0)) (.int .i64 ((k + 1 : Nat) : Int)) (.int .i64 0)) (.bool false) (by kernel_rfl) (by kernel_rfl) (fun w => Kw.eqv (v := .bool (((k + 1 : Nat) : Int) == (0 : Int))) (by kernel_rfl) (congrArg Value.bool (beq_eq_false_iff_ne.2 (by omega)))) ?_
      refine Canon.pure (.pointer (some ⟨B1, 0, none⟩)) (by kernel_rfl) (fun w => by kernel_rfl) ?_
      refine Canon.readsS (Canon.ldS 3 (.pointer (some ⟨B1, 0, none⟩))) (.int .i64 ((k + 1 : Nat) : Int)) (by kernel_rfl) (by kernel_rfl) (fun w hw => Kw.ld_cell 3 0 (.int .i64 ((k + 1 : Nat) : Int)) (hw.get 1 rfl) (by kernel_rfl) _ Try.underlying3 rfl) ?_
      refine Canon.call (.int .u8 (sh k)) 30 #[.int .i64 ((k + 1 : Nat) : Int)] (by kernel_rfl) (fun w => by kernel_rfl) (fun w hw => (shape_in k hk w).mono fun r w1 ⟨he, hb⟩ => ⟨he, hw.call hb⟩) ?_
      refine Canon.pureS (Canon.opS .eql 5 (.tmp 127) (.const (.int .u8 0)) (.int .u8 (sh k)) (.int .u8 0)) (.bool false) (by kernel_rfl) (by kernel_rfl) (fun w => Kw.eqv (v := .bool ((sh k) == (0 : Int))) (by kernel_rfl) (congrArg Value.bool (beq_eq_false_iff_ne.2 (sh_pos k hk)))) ?_
      refine Canon.pureS (Canon.opS .eql 4 (.tmp 124) (.tmp 128) (.bool false) (.bool false)) (.bool true) (by kernel_rfl) (by kernel_rfl) (fun w => by kernel_rfl) ?_
      refine Canon.pure (.bool true) (by kernel_rfl) (fun w => by kernel_rfl) ?_
      refine Canon.call (.bool true) 29 #[] (by kernel_rfl) (fun w => by kernel_rfl) (fun w hw => (one_c w).mono fun r w1 ⟨he, hb⟩ => ⟨he, hw.call hb⟩) ?_
      refine Canon.pure (.bool true) (by kernel_rfl) (fun w => by kernel_rfl) ?_
      refine Canon.pure (.bool true) (by kernel_rfl) (fun w => by kernel_rfl) ?_
      refine Canon.fin fun w20 M20 => ?_
      refine Kw.then_normal ?_
      refine wp_ret ?_
      exact bodyPost_ret (v := .bool true) (by kernel_rfl) (by kernel_rfl) ⟨rfl, M20.drop⟩
    · skip
      refine Kw.region ?_
      refine Kw.pure (.int .u32 (u x)) (by kernel_rfl) (by kernel_rfl) ?_
      refine Kw.call (.tuple #[.agg #[.int .i64 ((kb + 1 : Nat) : Int), .int .i64 (s (rdK kb x)), .int .i64 (s (rs1K kb x)), .int .i64 (s (rs2K kb x)), .int .i64 (s (immK kb x))], .bool true]) 27 #[.int .u32 (u x)] M3 (by kernel_rfl) (by kernel_rfl) (decode_y x kb hb w3) fun w21 M21 => ?_
      refine Kw.pure (.tuple #[.agg #[.int .i64 ((kb + 1 : Nat) : Int), .int .i64 (s (rdK kb x)), .int .i64 (s (rs1K kb x)), .int .i64 (s (rs2K kb x)), .int .i64 (s (immK kb x))], .bool true]) (by kernel_rfl) (by kernel_rfl) ?_
      refine Kw.pure (.agg #[.int .i64 ((kb + 1 : Nat) : Int), .int .i64 (s (rdK kb x)), .int .i64 (s (rs1K kb x)), .int .i64 (s (rs2K kb x)), .int .i64 (s (immK kb x))]) (by kernel_rfl) (by kernel_rfl) ?_
      refine Kw.pure (.bool true) (by kernel_rfl) (by kernel_rfl) ?_
      refine Kw.alloc #[.int .i64 0, .int .i64 0, .int .i64 0, .int .i64 0, .int .i64 0] 36 M21 (by kernel_rfl) (by kernel_rfl) fun w22 B22 M22 => ?_
      refine Kw.storeAll 0 36 #[.int .i64 ((kb + 1 : Nat) : Int), .int .i64 (s (rdK kb x)), .int .i64 (s (rs1K kb x)), .int .i64 (s (rs2K kb x)), .int .i64 (s (immK kb x))] M22 rfl (by kernel_rfl) (by kernel_rfl) (Eq.trans (b := 5) (by kernel_rfl) (by kernel_rfl)) (by kernel_rfl) (by kernel_rfl) fun w23 M23 => ?_
      refine Kw.pure (.bool true) (by kernel_rfl) (by kernel_rfl) ?_
      refine Kw.fin ?_
      refine Kw.then_normal ?_
      refine wp_seq ?_
      refine wp_seq ?_
      refine Kw.region ?_
      refine Kw.pure (.bool true) (by kernel_rfl) (by kernel_rfl) ?_
      refine Kw.fin ?_
      refine Kw.then_normal ?_
      refine wp_cond_true (by kernel_rfl) ?_
      refine wp_seq ?_
      refine Kw.region ?_
      refine Kw.pureS (Canon.ldS 36 (.pointer (some ⟨B22, 0, none⟩))) (.agg #[.int .i64 ((kb + 1 : Nat) : Int), .int .i64 (s (rdK kb x)), .int .i64 (s (rs1K kb x)), .int .i64 (s (rs2K kb x)), .int .i64 (s (immK kb x))]) (by kernel_rfl) (by kernel_rfl) (Kw.ld_all 36 (M23.get 0 rfl) _ Try.underlying36 rfl (by kernel_rfl)) ?_
      refine Kw.call (.tuple #[.int .u32 (u x), .bool true]) 25 #[.agg #[.int .i64 ((kb + 1 : Nat) : Int), .int .i64 (s (rdK kb x)), .int .i64 (s (rs1K kb x)), .int .i64 (s (rs2K kb x)), .int .i64 (s (immK kb x))]] M23 (by kernel_rfl) (by kernel_rfl) (encode_b x kb hb xx w23) fun w24 M24 => ?_
      refine Kw.pure (.tuple #[.int .u32 (u x), .bool true]) (by kernel_rfl) (by kernel_rfl) ?_
      refine Kw.pure (.int .u32 (u x)) (by kernel_rfl) (by kernel_rfl) ?_
      refine Kw.pure (.bool true) (by kernel_rfl) (by kernel_rfl) ?_
      refine Kw.pure (.int .u32 (u x)) (by kernel_rfl) (by kernel_rfl) ?_
      refine Kw.pure (.bool true) (by kernel_rfl) (by kernel_rfl) ?_
      refine Kw.fin ?_
      refine Kw.then_normal ?_
      refine wp_seq ?_
      refine Kw.region ?_
      refine Kw.pure (.bool true) (by kernel_rfl) (by kernel_rfl) ?_
      refine Kw.pure (.bool false) (by kernel_rfl) (by kernel_rfl) ?_
      refine Kw.pure (.bool false) (by kernel_rfl) (by kernel_rfl) ?_
      refine Kw.pure (.int .u32 (u x)) (by kernel_rfl) (by kernel_rfl) ?_
      refine Kw.pure (.int .u32 (u x)) (by kernel_rfl) (by kernel_rfl) ?_
      refine Kw.pureS (Canon.opS .neq 37 (.tmp 116) (.tmp 117) (.int .u32 (u x)) (.int .u32 (u x))) (.bool false) (by kernel_rfl) (by kernel_rfl) (Kw.eqv (v := .bool ((u x) != (u x))) (by kernel_rfl) (congrArg Value.bool (bne_self_eq_false _))) ?_
      refine Kw.pure (.bool false) (by kernel_rfl) (by kernel_rfl) ?_
      refine Kw.fin ?_
      refine Kw.then_normal ?_
      refine wp_cond_false (by kernel_rfl) ?_
      refine wp_skip ?_
      refine Kw.then_normal ?_
      refine wp_seq ?_
      refine Canon.region_canon (I := fun w => Kw.Mem [] W w [(B22, #[.int .i64 ((kb + 1 : Nat) : Int), .int .i64 (s (rdK kb x)), .int .i64 (s (rs1K kb x)), .int .i64 (s (rs2K kb x)), .int .i64 (s (immK kb x))], 36), (B1, #[.int .i64 ((k + 1 : Nat) : Int), .int .i64 (s rd), .int .i64 (s rs1), .int .i64 (s rs2), .int .i64 (s imm)], 36)]) (by kernel_rfl) (by decide +kernel) M24.drew' ?_
      refine Canon.pure (.pointer (some ⟨B1, 0, none⟩)) (by kernel_rfl) (fun w => by kernel_rfl) ?_
      refine Canon.readsS (Canon.ldS 3 (.pointer (some ⟨B1, 0, none⟩))) (.int .i64 ((k + 1 : Nat) : Int)) (by kernel_rfl) (by kernel_rfl) (fun w hw => Kw.ld_cell 3 0 (.int .i64 ((k + 1 : Nat) : Int)) (hw.get 1 rfl) (by kernel_rfl) _ Try.underlying3 rfl) ?_
      refine Canon.call (.string (nm k)) 32 #[.int .i64 ((k + 1 : Nat) : Int)] (by kernel_rfl) (fun w => by kernel_rfl) (fun w hw => (name_in k hk w).mono fun r w1 ⟨he, hb⟩ => ⟨he, hw.call hb⟩) ?_
      refine Canon.call (.int .i64 ((k + 1 : Nat) : Int)) 31 #[.string (nm k)] (by kernel_rfl) (fun w => by kernel_rfl) (fun w hw => (find_m k hk w).mono fun r w1 ⟨he, hb⟩ => ⟨he, hw.call hb⟩) ?_
      refine Canon.pureS (Canon.opS .eql 3 (.tmp 123) (.const (.int .i64 0)) (.int .i64 ((k + 1 : Nat) : Int)) (.int .i64 0)) (.bool false) (by kernel_rfl) (by kernel_rfl) (fun w => Kw.eqv (v := .bool (((k + 1 : Nat) : Int) == (0 : Int))) (by kernel_rfl) (congrArg Value.bool (beq_eq_false_iff_ne.2 (by omega)))) ?_
      refine Canon.pure (.pointer (some ⟨B1, 0, none⟩)) (by kernel_rfl) (fun w => by kernel_rfl) ?_
      refine Canon.readsS (Canon.ldS 3 (.pointer (some ⟨B1, 0, none⟩))) (.int .i64 ((k + 1 : Nat) : Int)) (by kernel_rfl) (by kernel_rfl) (fun w hw => Kw.ld_cell 3 0 (.int .i64 ((k + 1 : Nat) : Int)) (hw.get 1 rfl) (by kernel_rfl) _ Try.underlying3 rfl) ?_
      refine Canon.call (.int .u8 (sh k)) 30 #[.int .i64 ((k + 1 : Nat) : Int)] (by kernel_rfl) (fun w => by kernel_rfl) (fun w hw => (shape_in k hk w).mono fun r w1 ⟨he, hb⟩ => ⟨he, hw.call hb⟩) ?_
      refine Canon.pureS (Canon.opS .eql 5 (.tmp 127) (.const (.int .u8 0)) (.int .u8 (sh k)) (.int .u8 0)) (.bool false) (by kernel_rfl) (by kernel_rfl) (fun w => Kw.eqv (v := .bool ((sh k) == (0 : Int))) (by kernel_rfl) (congrArg Value.bool (beq_eq_false_iff_ne.2 (sh_pos k hk)))) ?_
      refine Canon.pureS (Canon.opS .eql 4 (.tmp 124) (.tmp 128) (.bool false) (.bool false)) (.bool true) (by kernel_rfl) (by kernel_rfl) (fun w => by kernel_rfl) ?_
      refine Canon.pure (.bool true) (by kernel_rfl) (fun w => by kernel_rfl) ?_
      refine Canon.call (.bool true) 29 #[] (by kernel_rfl) (fun w => by kernel_rfl) (fun w hw => (one_c w).mono fun r w1 ⟨he, hb⟩ => ⟨he, hw.call hb⟩) ?_
      refine Canon.pure (.bool true) (by kernel_rfl) (fun w => by kernel_rfl) ?_
      refine Canon.pure (.bool true) (by kernel_rfl) (fun w => by kernel_rfl) ?_
      refine Canon.fin fun w25 M25 => ?_
      refine Kw.then_normal ?_
      refine wp_ret ?_
      exact bodyPost_ret (v := .bool true) (by kernel_rfl) (by kernel_rfl) ⟨rfl, M25.drop⟩
set_option maxRecDepth 100000 in
theorem back_out (z : Int) (hz : z < 1 ∨ 69 < z) (rd rs1 rs2 imm x : BitVec 64) (xx : ∀ i, 32 ≤ i → i < 64 → x.getLsbD i = false) (W : World) : Calls Try.prog 11 #[.agg #[.int .i64 z, .int .i64 (s rd), .int .i64 (s rs1), .int .i64 (s rs2), .int .i64 (s imm)], .int .u32 (u x)] W fun e W' => e = .returned (.bool true) ∧ Kw.Mem [] W W' [] := by
  refine calls_of_wp Try.func11 rfl ?_
  have M0 : Kw.Mem [] W W [] := Kw.Mem.start _ _
  refine Kw.to (b := ⟨#[.agg #[.int .i64 z, .int .i64 (s rd), .int .i64 (s rs1), .int .i64 (s rs2), .int .i64 (s imm)], .int .u32 (u x), undef, undef, undef, undef, undef, undef, undef, undef, undef, undef, undef, undef, undef, undef, undef, undef, undef, undef, undef, undef, undef, undef, undef, undef, undef, undef, undef, undef, undef, undef, undef, undef, undef, undef, undef, undef, undef, undef, undef, undef, undef, undef, undef, undef, undef, undef, undef, undef, undef, undef, undef, undef, undef, undef, undef, undef, undef, undef, undef, undef, undef, undef, undef, undef, undef, undef, undef, undef, undef, undef, undef, undef, undef, undef, undef, undef, undef, undef, undef, undef, undef, undef, undef, undef, undef, undef, undef, undef, undef, undef, undef, undef, undef, undef, undef, undef, undef, undef, undef, undef, undef, undef, undef, undef, undef, undef, undef, undef, undef, undef, undef, undef, undef, undef, undef, undef, undef, undef, undef, undef, undef, undef, undef, undef, undef, undef, undef, undef, undef, undef, undef], []⟩) (by kernel_rfl) ?_
  refine wp_seq ?_
  refine Kw.region ?_
  refine Kw.alloc #[.int .i64 z, .int .i64 (s rd), .int .i64 (s rs1), .int .i64 (s rs2), .int .i64 (s imm)] 36 M0 (by kernel_rfl) (by kernel_rfl) fun w1 B1 M1 => ?_
  refine Kw.pure (.bool false) (by kernel_rfl) (by kernel_rfl) ?_
  refine Kw.fin ?_
  refine Kw.then_normal ?_
  refine wp_seq ?_
  refine Kw.region ?_
  refine Kw.pureS (Canon.ldS 36 (.pointer (some ⟨B1, 0, none⟩))) (.agg #[.int .i64 z, .int .i64 (s rd), .int .i64 (s rs1), .int .i64 (s rs2), .int .i64 (s imm)]) (by kernel_rfl) (by kernel_rfl) (Kw.ld_all 36 (M1.get 0 rfl) _ Try.underlying36 rfl (by kernel_rfl)) ?_
  refine Kw.call (.tuple #[.int .u32 0, .bool false]) 25 #[.agg #[.int .i64 z, .int .i64 (s rd), .int .i64 (s rs1), .int .i64 (s rs2), .int .i64 (s imm)]] M1 (by kernel_rfl) (by kernel_rfl) (encode_no z hz rd rs1 rs2 imm w1) fun w2 M2 => ?_
  refine Kw.pure (.tuple #[.int .u32 0, .bool false]) (by kernel_rfl) (by kernel_rfl) ?_
  refine Kw.pure (.int .u32 0) (by kernel_rfl) (by kernel_rfl) ?_
  refine Kw.pure (.bool false) (by kernel_rfl) (by kernel_rfl) ?_
  refine Kw.pure (.int .u32 0) (by kernel_rfl) (by kernel_rfl) ?_
  refine Kw.pure (.bool false) (by kernel_rfl) (by kernel_rfl) ?_
  refine Kw.fin ?_
  refine Kw.then_normal ?_
  refine wp_seq ?_
  refine KwJ.cutS (fun a w => ∃ y3 : Nat → Value, a = ⟨#[.agg #[.int .i64 z, .int .i64 (s rd), .int .i64 (s rs1), .int .i64 (s rs2), .int .i64 (s imm)], .int .u32 (u x), .pointer (some ⟨B1, 0, none⟩), undef, y3 86, .int .u32 0, .bool false, y3 0, y3 1, y3 2, y3 3, y3 4, undef, undef, undef, undef, .tuple #[.int .u32 0, .bool false], .agg #[.int .i64 z, .int .i64 (s rd), .int .i64 (s rs1), .int .i64 (s rs2), .int .i64 (s imm)], .tuple #[.int .u32 0, .bool false], .int .u32 0, .bool false, y3 5, y3 6, y3 7, y3 8, y3 9, y3 10, y3 11, y3 12, y3 13, y3 14, y3 15, y3 16, y3 17, y3 18, y3 19, y3 20, y3 21, y3 22, y3 23, y3 24, y3 25, y3 26, y3 27, y3 28, y3 29, y3 30, y3 31, y3 32, y3 33, y3 34, y3 35, y3 36, y3 37, y3 38, y3 39, y3 40, y3 41, y3 42, y3 43, y3 44, y3 45, y3 46, y3 47, y3 48, y3 49, y3 50, y3 51, y3 52, y3 53, y3 54, y3 55, y3 56, y3 57, y3 58, y3 59, y3 60, y3 61, y3 62, y3 63, y3 64, y3 65, y3 66, y3 67, y3 68, y3 69, y3 70, y3 71, y3 72, y3 73, y3 74, y3 75, y3 76, y3 77, y3 78, y3 79, y3 80, y3 81, y3 82, y3 83, y3 84, y3 85, undef, undef, undef, undef, undef, undef, undef, undef, undef, undef, undef, undef, undef, undef, undef, undef, undef, undef, undef, undef, undef, undef, undef, undef, undef, undef, undef, undef, undef, undef, undef], []⟩ ∧ Kw.Mem [] W w [(B1, #[.int .i64 z, .int .i64 (s rd), .int .i64 (s rs1), .int .i64 (s rs2), .int .i64 (s imm)], 36)]) ?_ (fun a w3 hI => ?_)
  · skip
    refine wp_seq ?_
    refine Kw.region ?_
    refine Kw.pure (.bool false) (by kernel_rfl) (by kernel_rfl) ?_
    refine Kw.fin ?_
    refine Kw.then_normal ?_
    refine wp_cond_false (by kernel_rfl) ?_
    refine wp_skip ?_
    refine Kw.then_normal ?_
    exact ⟨fun i => (#[undef, undef, undef, undef, undef, .bool false, undef, undef, undef, undef, undef, undef, undef, undef, undef, undef, undef, undef, undef, undef, undef, undef, undef, undef, undef, undef, undef, undef, undef, undef, undef, undef, undef, undef, undef, undef, undef, undef, undef, undef, undef, undef, undef, undef, undef, undef, undef, undef, undef, undef, undef, undef, undef, undef, undef, undef, undef, undef, undef, undef, undef, undef, undef, undef, undef, undef, undef, undef, undef, undef, undef, undef, undef, undef, undef, undef, undef, undef, undef, undef, undef, undef, undef, undef, undef, undef, .bool false] : Array Value).getD i undef, by kernel_rfl, M2⟩
  · skip
    obtain ⟨y3, rfl, M3⟩ := hI
    refine wp_seq ?_
    rcases hb : decN x with _ | kb
    · skip
      refine Kw.region ?_
      refine Kw.pure (.int .u32 (u x)) (by kernel_rfl) (by kernel_rfl) ?_
      refine Kw.call (.tuple #[.agg #[.int .i64 0, .int .i64 0, .int .i64 0, .int .i64 0, .int .i64 0], .bool false]) 27 #[.int .u32 (u x)] M3 (by kernel_rfl) (by kernel_rfl) (decode_n x hb w3) fun w4 M4 => ?_
      refine Kw.pure (.tuple #[.agg #[.int .i64 0, .int .i64 0, .int .i64 0, .int .i64 0, .int .i64 0], .bool false]) (by kernel_rfl) (by kernel_rfl) ?_
      refine Kw.pure (.agg #[.int .i64 0, .int .i64 0, .int .i64 0, .int .i64 0, .int .i64 0]) (by kernel_rfl) (by kernel_rfl) ?_
      refine Kw.pure (.bool false) (by kernel_rfl) (by kernel_rfl) ?_
      refine Kw.alloc #[.int .i64 0, .int .i64 0, .int .i64 0, .int .i64 0, .int .i64 0] 36 M4 (by kernel_rfl) (by kernel_rfl) fun w5 B5 M5 => ?_
      refine Kw.storeAll 0 36 #[.int .i64 0, .int .i64 0, .int .i64 0, .int .i64 0, .int .i64 0] M5 rfl (by kernel_rfl) (by kernel_rfl) rfl (by kernel_rfl) (by kernel_rfl) fun w6 M6 => ?_
      refine Kw.pure (.bool false) (by kernel_rfl) (by kernel_rfl) ?_
      refine Kw.fin ?_
      refine Kw.then_normal ?_
      refine wp_seq ?_
      refine wp_seq ?_
      refine Kw.region ?_
      refine Kw.pure (.bool false) (by kernel_rfl) (by kernel_rfl) ?_
      refine Kw.fin ?_
      refine Kw.then_normal ?_
      refine wp_cond_false (by kernel_rfl) ?_
      refine wp_skip ?_
      refine Kw.then_normal ?_
      refine wp_seq ?_
      refine Canon.region_canon (I := fun w => Kw.Mem [] W w [(B5, #[.int .i64 0, .int .i64 0, .int .i64 0, .int .i64 0, .int .i64 0], 36), (B1, #[.int .i64 z, .int .i64 (s rd), .int .i64 (s rs1), .int .i64 (s rs2), .int .i64 (s imm)], 36)]) (by kernel_rfl) (by decide +kernel) M6.drew' ?_
      refine Canon.pure (.pointer (some ⟨B1, 0, none⟩)) (by kernel_rfl) (fun w => by kernel_rfl) ?_
      refine Canon.readsS (Canon.ldS 3 (.pointer (some ⟨B1, 0, none⟩))) (.int .i64 z) (by kernel_rfl) (by kernel_rfl) (fun w hw => Kw.ld_cell 3 0 (.int .i64 z) (hw.get 1 rfl) (by kernel_rfl) _ Try.underlying3 rfl) ?_
      refine Canon.call (.string ⟨#[]⟩) 32 #[.int .i64 z] (by kernel_rfl) (fun w => by kernel_rfl) (fun w hw => (name_no z hz w).mono fun r w1 ⟨he, hb⟩ => ⟨he, hw.call hb⟩) ?_
      refine Canon.call (.int .i64 0) 31 #[.string ⟨#[]⟩] (by kernel_rfl) (fun w => by kernel_rfl) (fun w hw => (find_e w).mono fun r w1 ⟨he, hb⟩ => ⟨he, hw.call hb⟩) ?_
      refine Canon.pureS (Canon.opS .eql 3 (.tmp 123) (.const (.int .i64 0)) (.int .i64 0) (.int .i64 0)) (.bool true) (by kernel_rfl) (by kernel_rfl) (fun w => by kernel_rfl) ?_
      refine Canon.pure (.pointer (some ⟨B1, 0, none⟩)) (by kernel_rfl) (fun w => by kernel_rfl) ?_
      refine Canon.readsS (Canon.ldS 3 (.pointer (some ⟨B1, 0, none⟩))) (.int .i64 z) (by kernel_rfl) (by kernel_rfl) (fun w hw => Kw.ld_cell 3 0 (.int .i64 z) (hw.get 1 rfl) (by kernel_rfl) _ Try.underlying3 rfl) ?_
      refine Canon.call (.int .u8 0) 30 #[.int .i64 z] (by kernel_rfl) (fun w => by kernel_rfl) (fun w hw => (shape_no z hz w).mono fun r w1 ⟨he, hb⟩ => ⟨he, hw.call hb⟩) ?_
      refine Canon.pureS (Canon.opS .eql 5 (.tmp 127) (.const (.int .u8 0)) (.int .u8 0) (.int .u8 0)) (.bool true) (by kernel_rfl) (by kernel_rfl) (fun w => by kernel_rfl) ?_
      refine Canon.pureS (Canon.opS .eql 4 (.tmp 124) (.tmp 128) (.bool true) (.bool true)) (.bool true) (by kernel_rfl) (by kernel_rfl) (fun w => by kernel_rfl) ?_
      refine Canon.pure (.bool true) (by kernel_rfl) (fun w => by kernel_rfl) ?_
      refine Canon.call (.bool true) 29 #[] (by kernel_rfl) (fun w => by kernel_rfl) (fun w hw => (one_c w).mono fun r w1 ⟨he, hb⟩ => ⟨he, hw.call hb⟩) ?_
      refine Canon.pure (.bool true) (by kernel_rfl) (fun w => by kernel_rfl) ?_
      refine Canon.pure (.bool true) (by kernel_rfl) (fun w => by kernel_rfl) ?_
      refine Canon.fin fun w7 M7 => ?_
      refine Kw.then_normal ?_
      refine wp_ret ?_
      exact bodyPost_ret (v := .bool true) (by kernel_rfl) (by kernel_rfl) ⟨rfl, M7.drop⟩
    · skip
      refine Kw.region ?_
      refine Kw.pure (.int .u32 (u x)) (by kernel_rfl) (by kernel_rfl) ?_
      refine Kw.call (.tuple #[.agg #[.int .i64 ((kb + 1 : Nat) : Int), .int .i64 (s (rdK kb x)), .int .i64 (s (rs1K kb x)), .int .i64 (s (rs2K kb x)), .int .i64 (s (immK kb x))], .bool true]) 27 #[.int .u32 (u x)] M3 (by kernel_rfl) (by kernel_rfl) (decode_y x kb hb w3) fun w8 M8 => ?_
      refine Kw.pure (.tuple #[.agg #[.int .i64 ((kb + 1 : Nat) : Int), .int .i64 (s (rdK kb x)), .int .i64 (s (rs1K kb x)), .int .i64 (s (rs2K kb x)), .int .i64 (s (immK kb x))], .bool true]) (by kernel_rfl) (by kernel_rfl) ?_
      refine Kw.pure (.agg #[.int .i64 ((kb + 1 : Nat) : Int), .int .i64 (s (rdK kb x)), .int .i64 (s (rs1K kb x)), .int .i64 (s (rs2K kb x)), .int .i64 (s (immK kb x))]) (by kernel_rfl) (by kernel_rfl) ?_
      refine Kw.pure (.bool true) (by kernel_rfl) (by kernel_rfl) ?_
      refine Kw.alloc #[.int .i64 0, .int .i64 0, .int .i64 0, .int .i64 0, .int .i64 0] 36 M8 (by kernel_rfl) (by kernel_rfl) fun w9 B9 M9 => ?_
      refine Kw.storeAll 0 36 #[.int .i64 ((kb + 1 : Nat) : Int), .int .i64 (s (rdK kb x)), .int .i64 (s (rs1K kb x)), .int .i64 (s (rs2K kb x)), .int .i64 (s (immK kb x))] M9 rfl (by kernel_rfl) (by kernel_rfl) (Eq.trans (b := 5) (by kernel_rfl) (by kernel_rfl)) (by kernel_rfl) (by kernel_rfl) fun w10 M10 => ?_
      refine Kw.pure (.bool true) (by kernel_rfl) (by kernel_rfl) ?_
      refine Kw.fin ?_
      refine Kw.then_normal ?_
      refine wp_seq ?_
      refine wp_seq ?_
      refine Kw.region ?_
      refine Kw.pure (.bool true) (by kernel_rfl) (by kernel_rfl) ?_
      refine Kw.fin ?_
      refine Kw.then_normal ?_
      refine wp_cond_true (by kernel_rfl) ?_
      refine wp_seq ?_
      refine Kw.region ?_
      refine Kw.pureS (Canon.ldS 36 (.pointer (some ⟨B9, 0, none⟩))) (.agg #[.int .i64 ((kb + 1 : Nat) : Int), .int .i64 (s (rdK kb x)), .int .i64 (s (rs1K kb x)), .int .i64 (s (rs2K kb x)), .int .i64 (s (immK kb x))]) (by kernel_rfl) (by kernel_rfl) (Kw.ld_all 36 (M10.get 0 rfl) _ Try.underlying36 rfl (by kernel_rfl)) ?_
      refine Kw.call (.tuple #[.int .u32 (u x), .bool true]) 25 #[.agg #[.int .i64 ((kb + 1 : Nat) : Int), .int .i64 (s (rdK kb x)), .int .i64 (s (rs1K kb x)), .int .i64 (s (rs2K kb x)), .int .i64 (s (immK kb x))]] M10 (by kernel_rfl) (by kernel_rfl) (encode_b x kb hb xx w10) fun w11 M11 => ?_
      refine Kw.pure (.tuple #[.int .u32 (u x), .bool true]) (by kernel_rfl) (by kernel_rfl) ?_
      refine Kw.pure (.int .u32 (u x)) (by kernel_rfl) (by kernel_rfl) ?_
      refine Kw.pure (.bool true) (by kernel_rfl) (by kernel_rfl) ?_
      refine Kw.pure (.int .u32 (u x)) (by kernel_rfl) (by kernel_rfl) ?_
      refine Kw.pure (.bool true) (by kernel_rfl) (by kernel_rfl) ?_
      refine Kw.fin ?_
      refine Kw.then_normal ?_
      refine wp_seq ?_
      refine Kw.region ?_
      refine Kw.pure (.bool true) (by kernel_rfl) (by kernel_rfl) ?_
      refine Kw.pure (.bool false) (by kernel_rfl) (by kernel_rfl) ?_
      refine Kw.pure (.bool false) (by kernel_rfl) (by kernel_rfl) ?_
      refine Kw.pure (.int .u32 (u x)) (by kernel_rfl) (by kernel_rfl) ?_
      refine Kw.pure (.int .u32 (u x)) (by kernel_rfl) (by kernel_rfl) ?_
      refine Kw.pureS (Canon.opS .neq 37 (.tmp 116) (.tmp 117) (.int .u32 (u x)) (.int .u32 (u x))) (.bool false) (by kernel_rfl) (by kernel_rfl) (Kw.eqv (v := .bool ((u x) != (u x))) (by kernel_rfl) (congrArg Value.bool (bne_self_eq_false _))) ?_
      refine Kw.pure (.bool false) (by kernel_rfl) (by kernel_rfl) ?_
      refine Kw.fin ?_
      refine Kw.then_normal ?_
      refine wp_cond_false (by kernel_rfl) ?_
      refine wp_skip ?_
      refine Kw.then_normal ?_
      refine wp_seq ?_
      refine Canon.region_canon (I := fun w => Kw.Mem [] W w [(B9, #[.int .i64 ((kb + 1 : Nat) : Int), .int .i64 (s (rdK kb x)), .int .i64 (s (rs1K kb x)), .int .i64 (s (rs2K kb x)), .int .i64 (s (immK kb x))], 36), (B1, #[.int .i64 z, .int .i64 (s rd), .int .i64 (s rs1), .int .i64 (s rs2), .int .i64 (s imm)], 36)]) (by kernel_rfl) (by decide +kernel) M11.drew' ?_
      refine Canon.pure (.pointer (some ⟨B1, 0, none⟩)) (by kernel_rfl) (fun w => by kernel_rfl) ?_
      refine Canon.readsS (Canon.ldS 3 (.pointer (some ⟨B1, 0, none⟩))) (.int .i64 z) (by kernel_rfl) (by kernel_rfl) (fun w hw => Kw.ld_cell 3 0 (.int .i64 z) (hw.get 1 rfl) (by kernel_rfl) _ Try.underlying3 rfl) ?_
      refine Canon.call (.string ⟨#[]⟩) 32 #[.int .i64 z] (by kernel_rfl) (fun w => by kernel_rfl) (fun w hw => (name_no z hz w).mono fun r w1 ⟨he, hb⟩ => ⟨he, hw.call hb⟩) ?_
      refine Canon.call (.int .i64 0) 31 #[.string ⟨#[]⟩] (by kernel_rfl) (fun w => by kernel_rfl) (fun w hw => (find_e w).mono fun r w1 ⟨he, hb⟩ => ⟨he, hw.call hb⟩) ?_
      refine Canon.pureS (Canon.opS .eql 3 (.tmp 123) (.const (.int .i64 0)) (.int .i64 0) (.int .i64 0)) (.bool true) (by kernel_rfl) (by kernel_rfl) (fun w => by kernel_rfl) ?_
      refine Canon.pure (.pointer (some ⟨B1, 0, none⟩)) (by kernel_rfl) (fun w => by kernel_rfl) ?_
      refine Canon.readsS (Canon.ldS 3 (.pointer (some ⟨B1, 0, none⟩))) (.int .i64 z) (by kernel_rfl) (by kernel_rfl) (fun w hw => Kw.ld_cell 3 0 (.int .i64 z) (hw.get 1 rfl) (by kernel_rfl) _ Try.underlying3 rfl) ?_
      refine Canon.call (.int .u8 0) 30 #[.int .i64 z] (by kernel_rfl) (fun w => by kernel_rfl) (fun w hw => (shape_no z hz w).mono fun r w1 ⟨he, hb⟩ => ⟨he, hw.call hb⟩) ?_
      refine Canon.pureS (Canon.opS .eql 5 (.tmp 127) (.const (.int .u8 0)) (.int .u8 0) (.int .u8 0)) (.bool true) (by kernel_rfl) (by kernel_rfl) (fun w => by kernel_rfl) ?_
      refine Canon.pureS (Canon.opS .eql 4 (.tmp 124) (.tmp 128) (.bool true) (.bool true)) (.bool true) (by kernel_rfl) (by kernel_rfl) (fun w => by kernel_rfl) ?_
      refine Canon.pure (.bool true) (by kernel_rfl) (fun w => by kernel_rfl) ?_
      refine Canon.call (.bool true) 29 #[] (by kernel_rfl) (fun w => by kernel_rfl) (fun w hw => (one_c w).mono fun r w1 ⟨he, hb⟩ => ⟨he, hw.call hb⟩) ?_
      refine Canon.pure (.bool true) (by kernel_rfl) (fun w => by kernel_rfl) ?_
      refine Canon.pure (.bool true) (by kernel_rfl) (fun w => by kernel_rfl) ?_
      refine Canon.fin fun w12 M12 => ?_
      refine Kw.then_normal ?_
      refine wp_ret ?_
      exact bodyPost_ret (v := .bool true) (by kernel_rfl) (by kernel_rfl) ⟨rfl, M12.drop⟩
end Go.Proofs.Ytpmpibcfmejbfaa.Inst
