/- Another register, or another number that fits, changes just its own bits of a word: the walk. No condition. -/
import Derived.Test.YtpmpibcfmejbfaaInstXor
import Derived.Test.YtpmpibcfmejbfaaInstUse
namespace Go.Proofs.Ytpmpibcfmejbfaa.Inst
open Go.RowKit Go.Proofs.Ytpmpibcfmejbfaa.Bits
attribute [local irreducible] Go.wpList
set_option linter.unusedVariables false
set_option maxRecDepth 100000 in
theorem fields_in (k : Nat) (hk : k < 69) (rd rs1 rs2 imm jo jd j1 j2 jm : BitVec 64) (W : World) : Calls Try.prog 9 #[.agg #[.int .i64 ((k + 1 : Nat) : Int), .int .i64 (s rd), .int .i64 (s rs1), .int .i64 (s rs2), .int .i64 (s imm)], .agg #[.int .i64 (s jo), .int .i64 (s jd), .int .i64 (s j1), .int .i64 (s j2), .int .i64 (s jm)]] W fun e W' => e = .returned (.bool true) ∧ Kw.Mem [] W W' [] := by
  refine calls_of_wp Try.func9 rfl ?_
  have M0 : Kw.Mem [] W W [] := Kw.Mem.start _ _
  refine Kw.to (b := ⟨#[.agg #[.int .i64 ((k + 1 : Nat) : Int), .int .i64 (s rd), .int .i64 (s rs1), .int .i64 (s rs2), .int .i64 (s imm)], .agg #[.int .i64 (s jo), .int .i64 (s jd), .int .i64 (s j1), .int .i64 (s j2), .int .i64 (s jm)], undef, undef, undef, undef, undef, undef, undef, undef, undef, undef, undef, undef, undef, undef, undef, undef, undef, undef, undef, undef, undef, undef, undef, undef, undef, undef, undef, undef, undef, undef, undef, undef, undef, undef, undef, undef, undef, undef, undef, undef, undef, undef, undef, undef, undef, undef, undef, undef, undef, undef, undef, undef, undef, undef, undef, undef, undef, undef, undef, undef, undef, undef, undef, undef, undef, undef, undef, undef, undef, undef, undef, undef, undef, undef, undef, undef, undef, undef, undef, undef, undef, undef, undef, undef, undef, undef, undef, undef, undef, undef, undef, undef, undef, undef, undef, undef, undef, undef, undef, undef, undef, undef, undef, undef, undef, undef, undef, undef, undef, undef, undef, undef, undef, undef, undef, undef, undef, undef, undef, undef, undef, undef, undef, undef, undef, undef, undef, undef, undef, undef], []⟩) (by kernel_rfl) ?_
  refine wp_seq ?_
  refine Kw.region ?_
  refine Kw.alloc #[.int .i64 ((k + 1 : Nat) : Int), .int .i64 (s rd), .int .i64 (s rs1), .int .i64 (s rs2), .int .i64 (s imm)] 36 M0 (by kernel_rfl) (by kernel_rfl) fun w1 B1 M1 => ?_
  refine Kw.alloc #[.int .i64 (s jo), .int .i64 (s jd), .int .i64 (s j1), .int .i64 (s j2), .int .i64 (s jm)] 36 M1 (by kernel_rfl) (by kernel_rfl) fun w2 B2 M2 => ?_
  refine Kw.pure (.bool false) (by kernel_rfl) (by kernel_rfl) ?_
  refine Kw.fin ?_
  refine Kw.then_normal ?_
  refine wp_seq ?_
  refine Kw.region ?_
  refine Kw.pureS (Canon.ldS 36 (.pointer (some ⟨B1, 0, none⟩))) (.agg #[.int .i64 ((k + 1 : Nat) : Int), .int .i64 (s rd), .int .i64 (s rs1), .int .i64 (s rs2), .int .i64 (s imm)]) (by kernel_rfl) (by kernel_rfl) (Kw.ld_all 36 (M2.get 1 rfl) _ Try.underlying36 rfl (by kernel_rfl)) ?_
  refine Kw.call (.tuple #[.int .u32 (encN k rd rs1 rs2 imm), .bool (okB k rd rs1 rs2 imm)]) 25 #[.agg #[.int .i64 ((k + 1 : Nat) : Int), .int .i64 (s rd), .int .i64 (s rs1), .int .i64 (s rs2), .int .i64 (s imm)]] M2 (by kernel_rfl) (by kernel_rfl) (encode_t k hk rd rs1 rs2 imm w2) fun w3 M3 => ?_
  refine Kw.pure (.tuple #[.int .u32 (encN k rd rs1 rs2 imm), .bool (okB k rd rs1 rs2 imm)]) (by kernel_rfl) (by kernel_rfl) ?_
  refine Kw.pure (.int .u32 (encN k rd rs1 rs2 imm)) (by kernel_rfl) (by kernel_rfl) ?_
  refine Kw.pure (.bool (okB k rd rs1 rs2 imm)) (by kernel_rfl) (by kernel_rfl) ?_
  refine Kw.pure (.int .u32 (encN k rd rs1 rs2 imm)) (by kernel_rfl) (by kernel_rfl) ?_
  refine Kw.pure (.bool (okB k rd rs1 rs2 imm)) (by kernel_rfl) (by kernel_rfl) ?_
  refine Kw.fin ?_
  refine Kw.then_normal ?_
  refine wp_seq ?_
  refine Kw.region ?_
  refine Kw.pureS (Canon.ldS 36 (.pointer (some ⟨B1, 0, none⟩))) (.agg #[.int .i64 ((k + 1 : Nat) : Int), .int .i64 (s rd), .int .i64 (s rs1), .int .i64 (s rs2), .int .i64 (s imm)]) (by kernel_rfl) (by kernel_rfl) (Kw.ld_all 36 (M3.get 1 rfl) _ Try.underlying36 rfl (by kernel_rfl)) ?_
  refine Kw.alloc #[.int .i64 0, .int .i64 0, .int .i64 0, .int .i64 0, .int .i64 0] 36 M3 (by kernel_rfl) (by kernel_rfl) fun w4 B4 M4 => ?_
  refine Kw.storeAll 0 36 #[.int .i64 ((k + 1 : Nat) : Int), .int .i64 (s rd), .int .i64 (s rs1), .int .i64 (s rs2), .int .i64 (s imm)] M4 rfl (by kernel_rfl) (by kernel_rfl) (Eq.trans (b := 5) (by kernel_rfl) (by kernel_rfl)) (by kernel_rfl) (by kernel_rfl) fun w5 M5 => ?_
  refine Kw.fin ?_
  refine Kw.then_normal ?_
  refine wp_seq ?_
  refine Kw.region ?_
  refine Kw.pure (.pointer (some ⟨B2, 1, none⟩)) (by kernel_rfl) (by kernel_rfl) ?_
  refine Kw.pureS (Canon.ldS 3 (.pointer (some ⟨B2, 1, none⟩))) (.int .i64 (s jd)) (by kernel_rfl) (by kernel_rfl) (Kw.ld_cell 3 1 (.int .i64 (s jd)) (M5.get 1 rfl) (by kernel_rfl) _ Try.underlying3 rfl) ?_
  refine Kw.pure (.pointer (some ⟨B4, 1, none⟩)) (by kernel_rfl) (by kernel_rfl) ?_
  refine Kw.storeCell 0 3 1 (.int .i64 (s jd)) #[.int .i64 ((k + 1 : Nat) : Int), .int .i64 (s jd), .int .i64 (s rs1), .int .i64 (s rs2), .int .i64 (s imm)] M5 rfl (by kernel_rfl) (by kernel_rfl) (show 1 < 5 from by decide) (by kernel_rfl) rfl (by kernel_rfl) (by kernel_rfl) fun w6 M6 => ?_
  refine Kw.fin ?_
  refine Kw.then_normal ?_
  refine wp_seq ?_
  refine Kw.region ?_
  refine Kw.pureS (Canon.ldS 36 (.pointer (some ⟨B4, 0, none⟩))) (.agg #[.int .i64 ((k + 1 : Nat) : Int), .int .i64 (s jd), .int .i64 (s rs1), .int .i64 (s rs2), .int .i64 (s imm)]) (by kernel_rfl) (by kernel_rfl) (Kw.ld_all 36 (M6.get 0 rfl) _ Try.underlying36 rfl (by kernel_rfl)) ?_
  refine Kw.call (.tuple #[.int .u32 (encN k jd rs1 rs2 imm), .bool (okB k jd rs1 rs2 imm)]) 25 #[.agg #[.int .i64 ((k + 1 : Nat) : Int), .int .i64 (s jd), .int .i64 (s rs1), .int .i64 (s rs2), .int .i64 (s imm)]] M6 (by kernel_rfl) (by kernel_rfl) (encode_t k hk jd rs1 rs2 imm w6) fun w7 M7 => ?_
  refine Kw.pure (.tuple #[.int .u32 (encN k jd rs1 rs2 imm), .bool (okB k jd rs1 rs2 imm)]) (by kernel_rfl) (by kernel_rfl) ?_
  refine Kw.pure (.int .u32 (encN k jd rs1 rs2 imm)) (by kernel_rfl) (by kernel_rfl) ?_
  refine Kw.pure (.bool (okB k jd rs1 rs2 imm)) (by kernel_rfl) (by kernel_rfl) ?_
  refine Kw.pure (.int .u32 (encN k jd rs1 rs2 imm)) (by kernel_rfl) (by kernel_rfl) ?_
  refine Kw.pure (.bool (okB k jd rs1 rs2 imm)) (by kernel_rfl) (by kernel_rfl) ?_
  refine Kw.fin ?_
  refine Kw.then_normal ?_
  refine wp_seq ?_
  refine Kw.region ?_
  refine Kw.pureS (Canon.ldS 36 (.pointer (some ⟨B1, 0, none⟩))) (.agg #[.int .i64 ((k + 1 : Nat) : Int), .int .i64 (s rd), .int .i64 (s rs1), .int .i64 (s rs2), .int .i64 (s imm)]) (by kernel_rfl) (by kernel_rfl) (Kw.ld_all 36 (M7.get 2 rfl) _ Try.underlying36 rfl (by kernel_rfl)) ?_
  refine Kw.storeAll 0 36 #[.int .i64 ((k + 1 : Nat) : Int), .int .i64 (s rd), .int .i64 (s rs1), .int .i64 (s rs2), .int .i64 (s imm)] M7 rfl (by kernel_rfl) (by kernel_rfl) (Eq.trans (b := 5) (by kernel_rfl) (by kernel_rfl)) (by kernel_rfl) (by kernel_rfl) fun w8 M8 => ?_
  refine Kw.fin ?_
  refine Kw.then_normal ?_
  refine wp_seq ?_
  refine Kw.region ?_
  refine Kw.pure (.pointer (some ⟨B2, 2, none⟩)) (by kernel_rfl) (by kernel_rfl) ?_
  refine Kw.pureS (Canon.ldS 3 (.pointer (some ⟨B2, 2, none⟩))) (.int .i64 (s j1)) (by kernel_rfl) (by kernel_rfl) (Kw.ld_cell 3 2 (.int .i64 (s j1)) (M8.get 1 rfl) (by kernel_rfl) _ Try.underlying3 rfl) ?_
  refine Kw.pure (.pointer (some ⟨B4, 2, none⟩)) (by kernel_rfl) (by kernel_rfl) ?_
  refine Kw.storeCell 0 3 2 (.int .i64 (s j1)) #[.int .i64 ((k + 1 : Nat) : Int), .int .i64 (s rd), .int .i64 (s j1), .int .i64 (s rs2), .int .i64 (s imm)] M8 rfl (by kernel_rfl) (by kernel_rfl) (show 2 < 5 from by decide) (by kernel_rfl) rfl (by kernel_rfl) (by kernel_rfl) fun w9 M9 => ?_
  refine Kw.fin ?_
  refine Kw.then_normal ?_
  refine wp_seq ?_
  refine Kw.region ?_
  refine Kw.pureS (Canon.ldS 36 (.pointer (some ⟨B4, 0, none⟩))) (.agg #[.int .i64 ((k + 1 : Nat) : Int), .int .i64 (s rd), .int .i64 (s j1), .int .i64 (s rs2), .int .i64 (s imm)]) (by kernel_rfl) (by kernel_rfl) (Kw.ld_all 36 (M9.get 0 rfl) _ Try.underlying36 rfl (by kernel_rfl)) ?_
  refine Kw.call (.tuple #[.int .u32 (encN k rd j1 rs2 imm), .bool (okB k rd j1 rs2 imm)]) 25 #[.agg #[.int .i64 ((k + 1 : Nat) : Int), .int .i64 (s rd), .int .i64 (s j1), .int .i64 (s rs2), .int .i64 (s imm)]] M9 (by kernel_rfl) (by kernel_rfl) (encode_t k hk rd j1 rs2 imm w9) fun w10 M10 => ?_
  refine Kw.pure (.tuple #[.int .u32 (encN k rd j1 rs2 imm), .bool (okB k rd j1 rs2 imm)]) (by kernel_rfl) (by kernel_rfl) ?_
  refine Kw.pure (.int .u32 (encN k rd j1 rs2 imm)) (by kernel_rfl) (by kernel_rfl) ?_
  refine Kw.pure (.bool (okB k rd j1 rs2 imm)) (by kernel_rfl) (by kernel_rfl) ?_
  refine Kw.pure (.int .u32 (encN k rd j1 rs2 imm)) (by kernel_rfl) (by kernel_rfl) ?_
  refine Kw.pure (.bool (okB k rd j1 rs2 imm)) (by kernel_rfl) (by kernel_rfl) ?_
  refine Kw.fin ?_
  refine Kw.then_normal ?_
  refine wp_seq ?_
  refine wp_seq ?_
  refine Kw.region ?_
  refine Kw.pure (.bool (okB k rd rs1 rs2 imm)) (by kernel_rfl) (by kernel_rfl) ?_
  refine Kw.pure (.bool (!(okB k rd rs1 rs2 imm))) (by kernel_rfl) (by kernel_rfl) ?_
  rcases Bool.eq_false_or_eq_true ((!(okB k rd rs1 rs2 imm))) with h11 | h11
  · skip
    have h12 : (okB k rd rs1 rs2 imm) = false := Kw.not_true h11
    refine Kw.pure (.bool true) (by kernel_rfl) (Kw.eqv (v := .bool ((!(okB k rd rs1 rs2 imm)))) (by kernel_rfl) (congrArg Value.bool h11)) ?_
    refine Kw.skip (by kernel_rfl) ?_
    refine Kw.skip (by kernel_rfl) ?_
    refine Kw.pure (.bool true) (by kernel_rfl) (by kernel_rfl) ?_
    refine Kw.pure (.bool true) (by kernel_rfl) (by kernel_rfl) ?_
    refine Kw.skip (by kernel_rfl) ?_
    refine Kw.skip (by kernel_rfl) ?_
    refine Kw.pure (.bool true) (by kernel_rfl) (by kernel_rfl) ?_
    refine Kw.fin ?_
    refine Kw.then_normal ?_
    refine wp_cond_true (by kernel_rfl) ?_
    refine wp_seq ?_
    refine Kw.region ?_
    refine Kw.call (.bool true) 29 #[] M10 (by kernel_rfl) (by kernel_rfl) (one_c w10) fun w13 M13 => ?_
    refine Kw.pure (.bool true) (by kernel_rfl) (by kernel_rfl) ?_
    refine Kw.fin ?_
    refine Kw.then_normal ?_
    refine wp_ret ?_
    refine Kw.then_ret ?_
    exact bodyPost_ret (v := .bool true) (by kernel_rfl) (by kernel_rfl) ⟨rfl, M13.drop⟩
  · skip
    have h14 : (okB k rd rs1 rs2 imm) = true := Kw.not_false h11
    refine Kw.pure (.bool false) (by kernel_rfl) (Kw.eqv (v := .bool ((!(okB k rd rs1 rs2 imm)))) (by kernel_rfl) (congrArg Value.bool h11)) ?_
    refine Kw.pure (.bool (okB k jd rs1 rs2 imm)) (by kernel_rfl) (by kernel_rfl) ?_
    refine Kw.pure (.bool (!(okB k jd rs1 rs2 imm))) (by kernel_rfl) (by kernel_rfl) ?_
    refine Kw.pure (.bool (!(okB k jd rs1 rs2 imm))) (by kernel_rfl) (by kernel_rfl) ?_
    rcases Bool.eq_false_or_eq_true ((!(okB k jd rs1 rs2 imm))) with h15 | h15
    · skip
      have h16 : (okB k jd rs1 rs2 imm) = false := Kw.not_true h15
      refine Kw.pure (.bool true) (by kernel_rfl) (Kw.eqv (v := .bool ((!(okB k jd rs1 rs2 imm)))) (by kernel_rfl) (congrArg Value.bool h15)) ?_
      refine Kw.skip (by kernel_rfl) ?_
      refine Kw.skip (by kernel_rfl) ?_
      refine Kw.pure (.bool true) (by kernel_rfl) (by kernel_rfl) ?_
      refine Kw.fin ?_
      refine Kw.then_normal ?_
      refine wp_cond_true (by kernel_rfl) ?_
      refine wp_seq ?_
      refine Kw.region ?_
      refine Kw.call (.bool true) 29 #[] M10 (by kernel_rfl) (by kernel_rfl) (one_c w10) fun w17 M17 => ?_
      refine Kw.pure (.bool true) (by kernel_rfl) (by kernel_rfl) ?_
      refine Kw.fin ?_
      refine Kw.then_normal ?_
      refine wp_ret ?_
      refine Kw.then_ret ?_
      exact bodyPost_ret (v := .bool true) (by kernel_rfl) (by kernel_rfl) ⟨rfl, M17.drop⟩
    · skip
      have h18 : (okB k jd rs1 rs2 imm) = true := Kw.not_false h15
      refine Kw.pure (.bool false) (by kernel_rfl) (Kw.eqv (v := .bool ((!(okB k jd rs1 rs2 imm)))) (by kernel_rfl) (congrArg Value.bool h15)) ?_
      refine Kw.pure (.bool (okB k rd j1 rs2 imm)) (by kernel_rfl) (by kernel_rfl) ?_
      refine Kw.pure (.bool (!(okB k rd j1 rs2 imm))) (by kernel_rfl) (by kernel_rfl) ?_
      refine Kw.pure (.bool (!(okB k rd j1 rs2 imm))) (by kernel_rfl) (by kernel_rfl) ?_
      refine Kw.fin ?_
      refine Kw.then_normal ?_
      refine wp_cond_split (t := (!(okB k rd j1 rs2 imm))) (by kernel_rfl) (fun h19 => ?_) (fun h19 => ?_)
      · skip
        have h20 : (okB k rd j1 rs2 imm) = false := Kw.not_true h19
        refine wp_seq ?_
        refine Kw.region ?_
        refine Kw.call (.bool true) 29 #[] M10 (by kernel_rfl) (by kernel_rfl) (one_c w10) fun w21 M21 => ?_
        refine Kw.pure (.bool true) (by kernel_rfl) (by kernel_rfl) ?_
        refine Kw.fin ?_
        refine Kw.then_normal ?_
        refine wp_ret ?_
        refine Kw.then_ret ?_
        exact bodyPost_ret (v := .bool true) (by kernel_rfl) (by kernel_rfl) ⟨rfl, M21.drop⟩
      · skip
        have h22 : (okB k rd j1 rs2 imm) = true := Kw.not_false h19
        refine wp_skip ?_
        refine Kw.then_normal ?_
        refine wp_seq ?_
        refine Kw.region ?_
        refine Kw.pure (.pointer (some ⟨B1, 0, none⟩)) (by kernel_rfl) (by kernel_rfl) ?_
        refine Kw.pureS (Canon.ldS 3 (.pointer (some ⟨B1, 0, none⟩))) (.int .i64 ((k + 1 : Nat) : Int)) (by kernel_rfl) (by kernel_rfl) (Kw.ld_cell 3 0 (.int .i64 ((k + 1 : Nat) : Int)) (M10.get 2 rfl) (by kernel_rfl) _ Try.underlying3 rfl) ?_
        refine Kw.call (.int .u8 (sh k)) 30 #[.int .i64 ((k + 1 : Nat) : Int)] M10 (by kernel_rfl) (by kernel_rfl) (shape_in k hk w10) fun w23 M23 => ?_
        refine Kw.pure (.int .u8 (sh k)) (by kernel_rfl) (by kernel_rfl) ?_
        refine Kw.fin ?_
        refine Kw.then_normal ?_
        refine wp_seq ?_
        refine wp_seq ?_
        rcases shape6 k hk with hs | hs | hs | hs | hs | ⟨h83, h66, h78, h85, h74⟩
        · skip
          have h66 : sh k ≠ 66 := by rw [hs]; decide
          have h78 : sh k ≠ 78 := by rw [hs]; decide
          have h85 : sh k ≠ 85 := by rw [hs]; decide
          have h74 : sh k ≠ 74 := by rw [hs]; decide
          refine Kw.region ?_
          refine Kw.pure (.int .u8 (sh k)) (by kernel_rfl) (by kernel_rfl) ?_
          refine Kw.pureS (Canon.opS .neq 5 (.tmp 50) (.const (.int .u8 83)) (.int .u8 (sh k)) (.int .u8 83)) (.bool false) (by kernel_rfl) (by kernel_rfl) (Kw.eqv (v := .bool ((sh k) != (83 : Int))) (by kernel_rfl) (congrArg Value.bool (by rw [hs]; rfl))) ?_
          refine Kw.pure (.bool false) (by kernel_rfl) (by kernel_rfl) ?_
          refine Kw.skip (by kernel_rfl) ?_
          refine Kw.skip (by kernel_rfl) ?_
          refine Kw.pure (.bool false) (by kernel_rfl) (by kernel_rfl) ?_
          refine Kw.pure (.bool false) (by kernel_rfl) (by kernel_rfl) ?_
          refine Kw.skip (by kernel_rfl) ?_
          refine Kw.skip (by kernel_rfl) ?_
          refine Kw.skip (by kernel_rfl) ?_
          refine Kw.skip (by kernel_rfl) ?_
          refine Kw.skip (by kernel_rfl) ?_
          refine Kw.skip (by kernel_rfl) ?_
          refine Kw.skip (by kernel_rfl) ?_
          refine Kw.skip (by kernel_rfl) ?_
          refine Kw.skip (by kernel_rfl) ?_
          refine Kw.skip (by kernel_rfl) ?_
          refine Kw.skip (by kernel_rfl) ?_
          refine Kw.skip (by kernel_rfl) ?_
          refine Kw.pure (.bool false) (by kernel_rfl) (by kernel_rfl) ?_
          refine Kw.pure (.bool false) (by kernel_rfl) (by kernel_rfl) ?_
          refine Kw.skip (by kernel_rfl) ?_
          refine Kw.skip (by kernel_rfl) ?_
          refine Kw.pure (.bool false) (by kernel_rfl) (by kernel_rfl) ?_
          refine Kw.fin ?_
          refine Kw.then_normal ?_
          refine wp_cond_false (by kernel_rfl) ?_
          refine wp_skip ?_
          refine Kw.then_normal ?_
          refine wp_seq ?_
          refine wp_seq ?_
          refine Kw.region ?_
          refine Kw.pure (.int .u8 (sh k)) (by kernel_rfl) (by kernel_rfl) ?_
          refine Kw.pureS (Canon.opS .eql 5 (.tmp 74) (.const (.int .u8 83)) (.int .u8 (sh k)) (.int .u8 83)) (.bool true) (by kernel_rfl) (by kernel_rfl) (Kw.eqv (v := .bool ((sh k) == (83 : Int))) (by kernel_rfl) (congrArg Value.bool (by rw [hs]; rfl))) ?_
          refine Kw.pure (.bool true) (by kernel_rfl) (by kernel_rfl) ?_
          refine Kw.skip (by kernel_rfl) ?_
          refine Kw.skip (by kernel_rfl) ?_
          refine Kw.pure (.bool true) (by kernel_rfl) (by kernel_rfl) ?_
          refine Kw.pure (.bool true) (by kernel_rfl) (by kernel_rfl) ?_
          refine Kw.skip (by kernel_rfl) ?_
          refine Kw.skip (by kernel_rfl) ?_
          refine Kw.pure (.bool true) (by kernel_rfl) (by kernel_rfl) ?_
          refine Kw.pure (.bool true) (by kernel_rfl) (by kernel_rfl) ?_
          refine Kw.pure (.int .u32 (encN k rd rs1 rs2 imm)) (by kernel_rfl) (by kernel_rfl) ?_
          refine Kw.pure (.int .u32 (encN k jd rs1 rs2 imm)) (by kernel_rfl) (by kernel_rfl) ?_
          refine Kw.pureS (Canon.opS .neq 37 (.tmp 85) (.tmp 86) (.int .u32 (encN k rd rs1 rs2 imm)) (.int .u32 (encN k jd rs1 rs2 imm))) (.bool false) (by kernel_rfl) (by kernel_rfl) (Kw.eqv (v := .bool ((encN k rd rs1 rs2 imm) != (encN k jd rs1 rs2 imm))) (by kernel_rfl) (congrArg Value.bool (rd_same_S k hs rd rs1 rs2 imm jd h14 h18))) ?_
          refine Kw.pure (.bool false) (by kernel_rfl) (by kernel_rfl) ?_
          refine Kw.pure (.bool false) (by kernel_rfl) (by kernel_rfl) ?_
          refine Kw.pure (.int .u8 (sh k)) (by kernel_rfl) (by kernel_rfl) ?_
          refine Kw.pureS (Canon.opS .eql 5 (.tmp 90) (.const (.int .u8 85)) (.int .u8 (sh k)) (.int .u8 85)) (.bool false) (by kernel_rfl) (by kernel_rfl) (Kw.eqv (v := .bool ((sh k) == (85 : Int))) (by kernel_rfl) (congrArg Value.bool (by rw [hs]; rfl))) ?_
          refine Kw.pure (.bool false) (by kernel_rfl) (by kernel_rfl) ?_
          refine Kw.pure (.int .u8 (sh k)) (by kernel_rfl) (by kernel_rfl) ?_
          refine Kw.pureS (Canon.opS .eql 5 (.tmp 93) (.const (.int .u8 74)) (.int .u8 (sh k)) (.int .u8 74)) (.bool false) (by kernel_rfl) (by kernel_rfl) (Kw.eqv (v := .bool ((sh k) == (74 : Int))) (by kernel_rfl) (congrArg Value.bool (by rw [hs]; rfl))) ?_
          refine Kw.pure (.bool false) (by kernel_rfl) (by kernel_rfl) ?_
          refine Kw.pure (.bool false) (by kernel_rfl) (by kernel_rfl) ?_
          refine Kw.pure (.int .u8 (sh k)) (by kernel_rfl) (by kernel_rfl) ?_
          refine Kw.pureS (Canon.opS .eql 5 (.tmp 97) (.const (.int .u8 78)) (.int .u8 (sh k)) (.int .u8 78)) (.bool false) (by kernel_rfl) (by kernel_rfl) (Kw.eqv (v := .bool ((sh k) == (78 : Int))) (by kernel_rfl) (congrArg Value.bool (by rw [hs]; rfl))) ?_
          refine Kw.pure (.bool false) (by kernel_rfl) (by kernel_rfl) ?_
          refine Kw.pure (.bool false) (by kernel_rfl) (by kernel_rfl) ?_
          refine Kw.skip (by kernel_rfl) ?_
          refine Kw.skip (by kernel_rfl) ?_
          refine Kw.skip (by kernel_rfl) ?_
          refine Kw.pure (.bool false) (by kernel_rfl) (by kernel_rfl) ?_
          refine Kw.pure (.bool false) (by kernel_rfl) (by kernel_rfl) ?_
          refine Kw.fin ?_
          refine Kw.then_normal ?_
          refine wp_cond_false (by kernel_rfl) ?_
          refine wp_skip ?_
          refine Kw.then_normal ?_
          refine wp_seq ?_
          refine Kw.region ?_
          refine Kw.pure (.int .u8 (sh k)) (by kernel_rfl) (by kernel_rfl) ?_
          refine Kw.pureS (Canon.opS .eql 5 (.tmp 106) (.const (.int .u8 85)) (.int .u8 (sh k)) (.int .u8 85)) (.bool false) (by kernel_rfl) (by kernel_rfl) (Kw.eqv (v := .bool ((sh k) == (85 : Int))) (by kernel_rfl) (congrArg Value.bool (by rw [hs]; rfl))) ?_
          refine Kw.pure (.bool false) (by kernel_rfl) (by kernel_rfl) ?_
          refine Kw.pure (.int .u8 (sh k)) (by kernel_rfl) (by kernel_rfl) ?_
          refine Kw.pureS (Canon.opS .eql 5 (.tmp 109) (.const (.int .u8 74)) (.int .u8 (sh k)) (.int .u8 74)) (.bool false) (by kernel_rfl) (by kernel_rfl) (Kw.eqv (v := .bool ((sh k) == (74 : Int))) (by kernel_rfl) (congrArg Value.bool (by rw [hs]; rfl))) ?_
          refine Kw.pure (.bool false) (by kernel_rfl) (by kernel_rfl) ?_
          refine Kw.pure (.bool false) (by kernel_rfl) (by kernel_rfl) ?_
          refine Kw.pure (.int .u8 (sh k)) (by kernel_rfl) (by kernel_rfl) ?_
          refine Kw.pureS (Canon.opS .eql 5 (.tmp 113) (.const (.int .u8 78)) (.int .u8 (sh k)) (.int .u8 78)) (.bool false) (by kernel_rfl) (by kernel_rfl) (Kw.eqv (v := .bool ((sh k) == (78 : Int))) (by kernel_rfl) (congrArg Value.bool (by rw [hs]; rfl))) ?_
          refine Kw.pure (.bool false) (by kernel_rfl) (by kernel_rfl) ?_
          refine Kw.pure (.bool false) (by kernel_rfl) (by kernel_rfl) ?_
          refine Kw.pure (.int .u32 (encN k rd rs1 rs2 imm)) (by kernel_rfl) (by kernel_rfl) ?_
          refine Kw.pure (.int .u32 (encN k rd j1 rs2 imm)) (by kernel_rfl) (by kernel_rfl) ?_
          refine Kw.pureS (Canon.opS .xor 37 (.tmp 117) (.tmp 118) (.int .u32 (encN k rd rs1 rs2 imm)) (.int .u32 (encN k rd j1 rs2 imm))) (.int .u32 (Go.bits .xor .u32 ((encN k rd rs1 rs2 imm)) ((encN k rd j1 rs2 imm)))) (by kernel_rfl) (by kernel_rfl) (by kernel_rfl) ?_
          refine Kw.pure (.pointer (some ⟨B1, 2, none⟩)) (by kernel_rfl) (by kernel_rfl) ?_
          refine Kw.pureS (Canon.ldS 3 (.pointer (some ⟨B1, 2, none⟩))) (.int .i64 (s rs1)) (by kernel_rfl) (by kernel_rfl) (Kw.ld_cell 3 2 (.int .i64 (s rs1)) (M23.get 2 rfl) (by kernel_rfl) _ Try.underlying3 rfl) ?_
          refine Kw.pure (.pointer (some ⟨B2, 2, none⟩)) (by kernel_rfl) (by kernel_rfl) ?_
          refine Kw.pureS (Canon.ldS 3 (.pointer (some ⟨B2, 2, none⟩))) (.int .i64 (s j1)) (by kernel_rfl) (by kernel_rfl) (Kw.ld_cell 3 2 (.int .i64 (s j1)) (M23.get 1 rfl) (by kernel_rfl) _ Try.underlying3 rfl) ?_
          refine Kw.pureS (Canon.opS .xor 3 (.tmp 121) (.tmp 123) (.int .i64 (s rs1)) (.int .i64 (s j1))) (.int .i64 (Go.bits .xor .i64 ((s rs1)) ((s j1)))) (by kernel_rfl) (by kernel_rfl) (by kernel_rfl) ?_
          refine Kw.pure (.int .u32 (IntKind.u32.wrap (Go.bits .xor .i64 ((s rs1)) ((s j1))))) (by kernel_rfl) (by kernel_rfl) ?_
          refine Kw.pureS (Canon.opS .shl 37 (.tmp 125) (.const (.int .u64 15)) (.int .u32 (IntKind.u32.wrap (Go.bits .xor .i64 ((s rs1)) ((s j1))))) (.int .u64 15)) (.int .u32 (IntKind.u32.wrap ((IntKind.u32.wrap (Go.bits .xor .i64 ((s rs1)) ((s j1)))) * 2 ^ 15))) (by kernel_rfl) (by kernel_rfl) (by kernel_rfl) ?_
          refine Kw.pureS (Canon.opS .eql 37 (.tmp 119) (.tmp 126) (.int .u32 (Go.bits .xor .u32 ((encN k rd rs1 rs2 imm)) ((encN k rd j1 rs2 imm)))) (.int .u32 (IntKind.u32.wrap ((IntKind.u32.wrap (Go.bits .xor .i64 ((s rs1)) ((s j1)))) * 2 ^ 15)))) (.bool true) (by kernel_rfl) (by kernel_rfl) (Kw.eqv (v := .bool ((Go.bits .xor .u32 ((encN k rd rs1 rs2 imm)) ((encN k rd j1 rs2 imm))) == (IntKind.u32.wrap ((IntKind.u32.wrap (Go.bits .xor .i64 ((s rs1)) ((s j1)))) * 2 ^ 15)))) (by kernel_rfl) (congrArg Value.bool (rs_diff k hk h85 h74 h78 rd rs1 rs2 imm j1 h14 h22))) ?_
          refine Kw.pure (.bool true) (by kernel_rfl) (by kernel_rfl) ?_
          refine Kw.pure (.bool true) (by kernel_rfl) (by kernel_rfl) ?_
          refine Kw.call (.bool true) 29 #[] M23 (by kernel_rfl) (by kernel_rfl) (one_c w23) fun w24 M24 => ?_
          refine Kw.pure (.bool true) (by kernel_rfl) (by kernel_rfl) ?_
          refine Kw.pure (.bool true) (by kernel_rfl) (by kernel_rfl) ?_
          refine Kw.fin ?_
          refine Kw.then_normal ?_
          refine wp_ret ?_
          exact bodyPost_ret (v := .bool true) (by kernel_rfl) (by kernel_rfl) ⟨rfl, M24.drop⟩
        · skip
          have h83 : sh k ≠ 83 := by rw [hs]; decide
          have h78 : sh k ≠ 78 := by rw [hs]; decide
          have h85 : sh k ≠ 85 := by rw [hs]; decide
          have h74 : sh k ≠ 74 := by rw [hs]; decide
          refine Kw.region ?_
          refine Kw.pure (.int .u8 (sh k)) (by kernel_rfl) (by kernel_rfl) ?_
          refine Kw.pureS (Canon.opS .neq 5 (.tmp 50) (.const (.int .u8 83)) (.int .u8 (sh k)) (.int .u8 83)) (.bool true) (by kernel_rfl) (by kernel_rfl) (Kw.eqv (v := .bool ((sh k) != (83 : Int))) (by kernel_rfl) (congrArg Value.bool (by rw [hs]; rfl))) ?_
          refine Kw.pure (.bool true) (by kernel_rfl) (by kernel_rfl) ?_
          refine Kw.pure (.int .u8 (sh k)) (by kernel_rfl) (by kernel_rfl) ?_
          refine Kw.pureS (Canon.opS .neq 5 (.tmp 53) (.const (.int .u8 66)) (.int .u8 (sh k)) (.int .u8 66)) (.bool false) (by kernel_rfl) (by kernel_rfl) (Kw.eqv (v := .bool ((sh k) != (66 : Int))) (by kernel_rfl) (congrArg Value.bool (by rw [hs]; rfl))) ?_
          refine Kw.pure (.bool false) (by kernel_rfl) (by kernel_rfl) ?_
          refine Kw.pure (.bool false) (by kernel_rfl) (by kernel_rfl) ?_
          refine Kw.skip (by kernel_rfl) ?_
          refine Kw.skip (by kernel_rfl) ?_
          refine Kw.skip (by kernel_rfl) ?_
          refine Kw.skip (by kernel_rfl) ?_
          refine Kw.skip (by kernel_rfl) ?_
          refine Kw.skip (by kernel_rfl) ?_
          refine Kw.skip (by kernel_rfl) ?_
          refine Kw.skip (by kernel_rfl) ?_
          refine Kw.skip (by kernel_rfl) ?_
          refine Kw.skip (by kernel_rfl) ?_
          refine Kw.skip (by kernel_rfl) ?_
          refine Kw.skip (by kernel_rfl) ?_
          refine Kw.pure (.bool false) (by kernel_rfl) (by kernel_rfl) ?_
          refine Kw.pure (.bool false) (by kernel_rfl) (by kernel_rfl) ?_
          refine Kw.skip (by kernel_rfl) ?_
          refine Kw.skip (by kernel_rfl) ?_
          refine Kw.pure (.bool false) (by kernel_rfl) (by kernel_rfl) ?_
          refine Kw.fin ?_
          refine Kw.then_normal ?_
          refine wp_cond_false (by kernel_rfl) ?_
          refine wp_skip ?_
          refine Kw.then_normal ?_
          refine wp_seq ?_
          refine wp_seq ?_
          refine Kw.region ?_
          refine Kw.pure (.int .u8 (sh k)) (by kernel_rfl) (by kernel_rfl) ?_
          refine Kw.pureS (Canon.opS .eql 5 (.tmp 74) (.const (.int .u8 83)) (.int .u8 (sh k)) (.int .u8 83)) (.bool false) (by kernel_rfl) (by kernel_rfl) (Kw.eqv (v := .bool ((sh k) == (83 : Int))) (by kernel_rfl) (congrArg Value.bool (by rw [hs]; rfl))) ?_
          refine Kw.pure (.bool false) (by kernel_rfl) (by kernel_rfl) ?_
          refine Kw.pure (.int .u8 (sh k)) (by kernel_rfl) (by kernel_rfl) ?_
          refine Kw.pureS (Canon.opS .eql 5 (.tmp 77) (.const (.int .u8 66)) (.int .u8 (sh k)) (.int .u8 66)) (.bool true) (by kernel_rfl) (by kernel_rfl) (Kw.eqv (v := .bool ((sh k) == (66 : Int))) (by kernel_rfl) (congrArg Value.bool (by rw [hs]; rfl))) ?_
          refine Kw.pure (.bool true) (by kernel_rfl) (by kernel_rfl) ?_
          refine Kw.pure (.bool true) (by kernel_rfl) (by kernel_rfl) ?_
          refine Kw.skip (by kernel_rfl) ?_
          refine Kw.skip (by kernel_rfl) ?_
          refine Kw.pure (.bool true) (by kernel_rfl) (by kernel_rfl) ?_
          refine Kw.pure (.bool true) (by kernel_rfl) (by kernel_rfl) ?_
          refine Kw.pure (.int .u32 (encN k rd rs1 rs2 imm)) (by kernel_rfl) (by kernel_rfl) ?_
          refine Kw.pure (.int .u32 (encN k jd rs1 rs2 imm)) (by kernel_rfl) (by kernel_rfl) ?_
          refine Kw.pureS (Canon.opS .neq 37 (.tmp 85) (.tmp 86) (.int .u32 (encN k rd rs1 rs2 imm)) (.int .u32 (encN k jd rs1 rs2 imm))) (.bool false) (by kernel_rfl) (by kernel_rfl) (Kw.eqv (v := .bool ((encN k rd rs1 rs2 imm) != (encN k jd rs1 rs2 imm))) (by kernel_rfl) (congrArg Value.bool (rd_same_B k hs rd rs1 rs2 imm jd h14 h18))) ?_
          refine Kw.pure (.bool false) (by kernel_rfl) (by kernel_rfl) ?_
          refine Kw.pure (.bool false) (by kernel_rfl) (by kernel_rfl) ?_
          refine Kw.pure (.int .u8 (sh k)) (by kernel_rfl) (by kernel_rfl) ?_
          refine Kw.pureS (Canon.opS .eql 5 (.tmp 90) (.const (.int .u8 85)) (.int .u8 (sh k)) (.int .u8 85)) (.bool false) (by kernel_rfl) (by kernel_rfl) (Kw.eqv (v := .bool ((sh k) == (85 : Int))) (by kernel_rfl) (congrArg Value.bool (by rw [hs]; rfl))) ?_
          refine Kw.pure (.bool false) (by kernel_rfl) (by kernel_rfl) ?_
          refine Kw.pure (.int .u8 (sh k)) (by kernel_rfl) (by kernel_rfl) ?_
          refine Kw.pureS (Canon.opS .eql 5 (.tmp 93) (.const (.int .u8 74)) (.int .u8 (sh k)) (.int .u8 74)) (.bool false) (by kernel_rfl) (by kernel_rfl) (Kw.eqv (v := .bool ((sh k) == (74 : Int))) (by kernel_rfl) (congrArg Value.bool (by rw [hs]; rfl))) ?_
          refine Kw.pure (.bool false) (by kernel_rfl) (by kernel_rfl) ?_
          refine Kw.pure (.bool false) (by kernel_rfl) (by kernel_rfl) ?_
          refine Kw.pure (.int .u8 (sh k)) (by kernel_rfl) (by kernel_rfl) ?_
          refine Kw.pureS (Canon.opS .eql 5 (.tmp 97) (.const (.int .u8 78)) (.int .u8 (sh k)) (.int .u8 78)) (.bool false) (by kernel_rfl) (by kernel_rfl) (Kw.eqv (v := .bool ((sh k) == (78 : Int))) (by kernel_rfl) (congrArg Value.bool (by rw [hs]; rfl))) ?_
          refine Kw.pure (.bool false) (by kernel_rfl) (by kernel_rfl) ?_
          refine Kw.pure (.bool false) (by kernel_rfl) (by kernel_rfl) ?_
          refine Kw.skip (by kernel_rfl) ?_
          refine Kw.skip (by kernel_rfl) ?_
          refine Kw.skip (by kernel_rfl) ?_
          refine Kw.pure (.bool false) (by kernel_rfl) (by kernel_rfl) ?_
          refine Kw.pure (.bool false) (by kernel_rfl) (by kernel_rfl) ?_
          refine Kw.fin ?_
          refine Kw.then_normal ?_
          refine wp_cond_false (by kernel_rfl) ?_
          refine wp_skip ?_
          refine Kw.then_normal ?_
          refine wp_seq ?_
          refine Kw.region ?_
          refine Kw.pure (.int .u8 (sh k)) (by kernel_rfl) (by kernel_rfl) ?_
          refine Kw.pureS (Canon.opS .eql 5 (.tmp 106) (.const (.int .u8 85)) (.int .u8 (sh k)) (.int .u8 85)) (.bool false) (by kernel_rfl) (by kernel_rfl) (Kw.eqv (v := .bool ((sh k) == (85 : Int))) (by kernel_rfl) (congrArg Value.bool (by rw [hs]; rfl))) ?_
          refine Kw.pure (.bool false) (by kernel_rfl) (by kernel_rfl) ?_
          refine Kw.pure (.int .u8 (sh k)) (by kernel_rfl) (by kernel_rfl) ?_
          refine Kw.pureS (Canon.opS .eql 5 (.tmp 109) (.const (.int .u8 74)) (.int .u8 (sh k)) (.int .u8 74)) (.bool false) (by kernel_rfl) (by kernel_rfl) (Kw.eqv (v := .bool ((sh k) == (74 : Int))) (by kernel_rfl) (congrArg Value.bool (by rw [hs]; rfl))) ?_
          refine Kw.pure (.bool false) (by kernel_rfl) (by kernel_rfl) ?_
          refine Kw.pure (.bool false) (by kernel_rfl) (by kernel_rfl) ?_
          refine Kw.pure (.int .u8 (sh k)) (by kernel_rfl) (by kernel_rfl) ?_
          refine Kw.pureS (Canon.opS .eql 5 (.tmp 113) (.const (.int .u8 78)) (.int .u8 (sh k)) (.int .u8 78)) (.bool false) (by kernel_rfl) (by kernel_rfl) (Kw.eqv (v := .bool ((sh k) == (78 : Int))) (by kernel_rfl) (congrArg Value.bool (by rw [hs]; rfl))) ?_
          refine Kw.pure (.bool false) (by kernel_rfl) (by kernel_rfl) ?_
          refine Kw.pure (.bool false) (by kernel_rfl) (by kernel_rfl) ?_
          refine Kw.pure (.int .u32 (encN k rd rs1 rs2 imm)) (by kernel_rfl) (by kernel_rfl) ?_
          refine Kw.pure (.int .u32 (encN k rd j1 rs2 imm)) (by kernel_rfl) (by kernel_rfl) ?_
          refine Kw.pureS (Canon.opS .xor 37 (.tmp 117) (.tmp 118) (.int .u32 (encN k rd rs1 rs2 imm)) (.int .u32 (encN k rd j1 rs2 imm))) (.int .u32 (Go.bits .xor .u32 ((encN k rd rs1 rs2 imm)) ((encN k rd j1 rs2 imm)))) (by kernel_rfl) (by kernel_rfl) (by kernel_rfl) ?_
          refine Kw.pure (.pointer (some ⟨B1, 2, none⟩)) (by kernel_rfl) (by kernel_rfl) ?_
          refine Kw.pureS (Canon.ldS 3 (.pointer (some ⟨B1, 2, none⟩))) (.int .i64 (s rs1)) (by kernel_rfl) (by kernel_rfl) (Kw.ld_cell 3 2 (.int .i64 (s rs1)) (M23.get 2 rfl) (by kernel_rfl) _ Try.underlying3 rfl) ?_
          refine Kw.pure (.pointer (some ⟨B2, 2, none⟩)) (by kernel_rfl) (by kernel_rfl) ?_
          refine Kw.pureS (Canon.ldS 3 (.pointer (some ⟨B2, 2, none⟩))) (.int .i64 (s j1)) (by kernel_rfl) (by kernel_rfl) (Kw.ld_cell 3 2 (.int .i64 (s j1)) (M23.get 1 rfl) (by kernel_rfl) _ Try.underlying3 rfl) ?_
          refine Kw.pureS (Canon.opS .xor 3 (.tmp 121) (.tmp 123) (.int .i64 (s rs1)) (.int .i64 (s j1))) (.int .i64 (Go.bits .xor .i64 ((s rs1)) ((s j1)))) (by kernel_rfl) (by kernel_rfl) (by kernel_rfl) ?_
          refine Kw.pure (.int .u32 (IntKind.u32.wrap (Go.bits .xor .i64 ((s rs1)) ((s j1))))) (by kernel_rfl) (by kernel_rfl) ?_
          refine Kw.pureS (Canon.opS .shl 37 (.tmp 125) (.const (.int .u64 15)) (.int .u32 (IntKind.u32.wrap (Go.bits .xor .i64 ((s rs1)) ((s j1))))) (.int .u64 15)) (.int .u32 (IntKind.u32.wrap ((IntKind.u32.wrap (Go.bits .xor .i64 ((s rs1)) ((s j1)))) * 2 ^ 15))) (by kernel_rfl) (by kernel_rfl) (by kernel_rfl) ?_
          refine Kw.pureS (Canon.opS .eql 37 (.tmp 119) (.tmp 126) (.int .u32 (Go.bits .xor .u32 ((encN k rd rs1 rs2 imm)) ((encN k rd j1 rs2 imm)))) (.int .u32 (IntKind.u32.wrap ((IntKind.u32.wrap (Go.bits .xor .i64 ((s rs1)) ((s j1)))) * 2 ^ 15)))) (.bool true) (by kernel_rfl) (by kernel_rfl) (Kw.eqv (v := .bool ((Go.bits .xor .u32 ((encN k rd rs1 rs2 imm)) ((encN k rd j1 rs2 imm))) == (IntKind.u32.wrap ((IntKind.u32.wrap (Go.bits .xor .i64 ((s rs1)) ((s j1)))) * 2 ^ 15)))) (by kernel_rfl) (congrArg Value.bool (rs_diff k hk h85 h74 h78 rd rs1 rs2 imm j1 h14 h22))) ?_
          refine Kw.pure (.bool true) (by kernel_rfl) (by kernel_rfl) ?_
          refine Kw.pure (.bool true) (by kernel_rfl) (by kernel_rfl) ?_
          refine Kw.call (.bool true) 29 #[] M23 (by kernel_rfl) (by kernel_rfl) (one_c w23) fun w25 M25 => ?_
          refine Kw.pure (.bool true) (by kernel_rfl) (by kernel_rfl) ?_
          refine Kw.pure (.bool true) (by kernel_rfl) (by kernel_rfl) ?_
          refine Kw.fin ?_
          refine Kw.then_normal ?_
          refine wp_ret ?_
          exact bodyPost_ret (v := .bool true) (by kernel_rfl) (by kernel_rfl) ⟨rfl, M25.drop⟩
        · skip
          have h83 : sh k ≠ 83 := by rw [hs]; decide
          have h66 : sh k ≠ 66 := by rw [hs]; decide
          have h85 : sh k ≠ 85 := by rw [hs]; decide
          have h74 : sh k ≠ 74 := by rw [hs]; decide
          refine Kw.region ?_
          refine Kw.pure (.int .u8 (sh k)) (by kernel_rfl) (by kernel_rfl) ?_
          refine Kw.pureS (Canon.opS .neq 5 (.tmp 50) (.const (.int .u8 83)) (.int .u8 (sh k)) (.int .u8 83)) (.bool true) (by kernel_rfl) (by kernel_rfl) (Kw.eqv (v := .bool ((sh k) != (83 : Int))) (by kernel_rfl) (congrArg Value.bool (by rw [hs]; rfl))) ?_
          refine Kw.pure (.bool true) (by kernel_rfl) (by kernel_rfl) ?_
          refine Kw.pure (.int .u8 (sh k)) (by kernel_rfl) (by kernel_rfl) ?_
          refine Kw.pureS (Canon.opS .neq 5 (.tmp 53) (.const (.int .u8 66)) (.int .u8 (sh k)) (.int .u8 66)) (.bool true) (by kernel_rfl) (by kernel_rfl) (Kw.eqv (v := .bool ((sh k) != (66 : Int))) (by kernel_rfl) (congrArg Value.bool (by rw [hs]; rfl))) ?_
          refine Kw.pure (.bool true) (by kernel_rfl) (by kernel_rfl) ?_
          refine Kw.pure (.bool true) (by kernel_rfl) (by kernel_rfl) ?_
          refine Kw.pure (.int .u32 (encN k rd rs1 rs2 imm)) (by kernel_rfl) (by kernel_rfl) ?_
          refine Kw.pure (.int .u32 (encN k jd rs1 rs2 imm)) (by kernel_rfl) (by kernel_rfl) ?_
          refine Kw.pureS (Canon.opS .xor 37 (.tmp 57) (.tmp 58) (.int .u32 (encN k rd rs1 rs2 imm)) (.int .u32 (encN k jd rs1 rs2 imm))) (.int .u32 (Go.bits .xor .u32 ((encN k rd rs1 rs2 imm)) ((encN k jd rs1 rs2 imm)))) (by kernel_rfl) (by kernel_rfl) (by kernel_rfl) ?_
          refine Kw.pure (.pointer (some ⟨B1, 1, none⟩)) (by kernel_rfl) (by kernel_rfl) ?_
          refine Kw.pureS (Canon.ldS 3 (.pointer (some ⟨B1, 1, none⟩))) (.int .i64 (s rd)) (by kernel_rfl) (by kernel_rfl) (Kw.ld_cell 3 1 (.int .i64 (s rd)) (M23.get 2 rfl) (by kernel_rfl) _ Try.underlying3 rfl) ?_
          refine Kw.pure (.pointer (some ⟨B2, 1, none⟩)) (by kernel_rfl) (by kernel_rfl) ?_
          refine Kw.pureS (Canon.ldS 3 (.pointer (some ⟨B2, 1, none⟩))) (.int .i64 (s jd)) (by kernel_rfl) (by kernel_rfl) (Kw.ld_cell 3 1 (.int .i64 (s jd)) (M23.get 1 rfl) (by kernel_rfl) _ Try.underlying3 rfl) ?_
          refine Kw.pureS (Canon.opS .xor 3 (.tmp 61) (.tmp 63) (.int .i64 (s rd)) (.int .i64 (s jd))) (.int .i64 (Go.bits .xor .i64 ((s rd)) ((s jd)))) (by kernel_rfl) (by kernel_rfl) (by kernel_rfl) ?_
          refine Kw.pure (.int .u32 (IntKind.u32.wrap (Go.bits .xor .i64 ((s rd)) ((s jd))))) (by kernel_rfl) (by kernel_rfl) ?_
          refine Kw.pureS (Canon.opS .shl 37 (.tmp 65) (.const (.int .u64 7)) (.int .u32 (IntKind.u32.wrap (Go.bits .xor .i64 ((s rd)) ((s jd))))) (.int .u64 7)) (.int .u32 (IntKind.u32.wrap ((IntKind.u32.wrap (Go.bits .xor .i64 ((s rd)) ((s jd)))) * 2 ^ 7))) (by kernel_rfl) (by kernel_rfl) (by kernel_rfl) ?_
          refine Kw.pureS (Canon.opS .and 37 (.tmp 66) (.const (.int .u32 3968)) (.int .u32 (IntKind.u32.wrap ((IntKind.u32.wrap (Go.bits .xor .i64 ((s rd)) ((s jd)))) * 2 ^ 7))) (.int .u32 3968)) (.int .u32 (Go.bits .and .u32 ((IntKind.u32.wrap ((IntKind.u32.wrap (Go.bits .xor .i64 ((s rd)) ((s jd)))) * 2 ^ 7))) ((3968 : Int)))) (by kernel_rfl) (by kernel_rfl) (by kernel_rfl) ?_
          refine Kw.pureS (Canon.opS .neq 37 (.tmp 59) (.tmp 67) (.int .u32 (Go.bits .xor .u32 ((encN k rd rs1 rs2 imm)) ((encN k jd rs1 rs2 imm)))) (.int .u32 (Go.bits .and .u32 ((IntKind.u32.wrap ((IntKind.u32.wrap (Go.bits .xor .i64 ((s rd)) ((s jd)))) * 2 ^ 7))) ((3968 : Int))))) (.bool ((Go.bits .xor .u32 ((encN k rd rs1 rs2 imm)) ((encN k jd rs1 rs2 imm))) != (Go.bits .and .u32 ((IntKind.u32.wrap ((IntKind.u32.wrap (Go.bits .xor .i64 ((s rd)) ((s jd)))) * 2 ^ 7))) ((3968 : Int))))) (by kernel_rfl) (by kernel_rfl) (by kernel_rfl) ?_
          refine Kw.pure (.bool ((Go.bits .xor .u32 ((encN k rd rs1 rs2 imm)) ((encN k jd rs1 rs2 imm))) != (Go.bits .and .u32 ((IntKind.u32.wrap ((IntKind.u32.wrap (Go.bits .xor .i64 ((s rd)) ((s jd)))) * 2 ^ 7))) ((3968 : Int))))) (by kernel_rfl) (by kernel_rfl) ?_
          rcases Bool.eq_false_or_eq_true (((Go.bits .xor .u32 ((encN k rd rs1 rs2 imm)) ((encN k jd rs1 rs2 imm))) != (Go.bits .and .u32 ((IntKind.u32.wrap ((IntKind.u32.wrap (Go.bits .xor .i64 ((s rd)) ((s jd)))) * 2 ^ 7))) ((3968 : Int))))) with h26 | h26
          · skip
            refine Kw.pure (.bool true) (by kernel_rfl) (Kw.eqv (v := .bool (((Go.bits .xor .u32 ((encN k rd rs1 rs2 imm)) ((encN k jd rs1 rs2 imm))) != (Go.bits .and .u32 ((IntKind.u32.wrap ((IntKind.u32.wrap (Go.bits .xor .i64 ((s rd)) ((s jd)))) * 2 ^ 7))) ((3968 : Int)))))) (by kernel_rfl) (congrArg Value.bool h26)) ?_
            refine Kw.pure (.int .u8 (sh k)) (by kernel_rfl) (by kernel_rfl) ?_
            refine Kw.pureS (Canon.opS .neq 5 (.tmp 71) (.const (.int .u8 78)) (.int .u8 (sh k)) (.int .u8 78)) (.bool false) (by kernel_rfl) (by kernel_rfl) (Kw.eqv (v := .bool ((sh k) != (78 : Int))) (by kernel_rfl) (congrArg Value.bool (by rw [hs]; rfl))) ?_
            refine Kw.pure (.bool false) (by kernel_rfl) (by kernel_rfl) ?_
            refine Kw.fin ?_
            refine Kw.then_normal ?_
            refine wp_cond_false (by kernel_rfl) ?_
            refine wp_skip ?_
            refine Kw.then_normal ?_
            refine wp_seq ?_
            refine wp_seq ?_
            refine Kw.region ?_
            refine Kw.pure (.int .u8 (sh k)) (by kernel_rfl) (by kernel_rfl) ?_
            refine Kw.pureS (Canon.opS .eql 5 (.tmp 74) (.const (.int .u8 83)) (.int .u8 (sh k)) (.int .u8 83)) (.bool false) (by kernel_rfl) (by kernel_rfl) (Kw.eqv (v := .bool ((sh k) == (83 : Int))) (by kernel_rfl) (congrArg Value.bool (by rw [hs]; rfl))) ?_
            refine Kw.pure (.bool false) (by kernel_rfl) (by kernel_rfl) ?_
            refine Kw.pure (.int .u8 (sh k)) (by kernel_rfl) (by kernel_rfl) ?_
            refine Kw.pureS (Canon.opS .eql 5 (.tmp 77) (.const (.int .u8 66)) (.int .u8 (sh k)) (.int .u8 66)) (.bool false) (by kernel_rfl) (by kernel_rfl) (Kw.eqv (v := .bool ((sh k) == (66 : Int))) (by kernel_rfl) (congrArg Value.bool (by rw [hs]; rfl))) ?_
            refine Kw.pure (.bool false) (by kernel_rfl) (by kernel_rfl) ?_
            refine Kw.pure (.bool false) (by kernel_rfl) (by kernel_rfl) ?_
            refine Kw.pure (.int .u8 (sh k)) (by kernel_rfl) (by kernel_rfl) ?_
            refine Kw.pureS (Canon.opS .eql 5 (.tmp 81) (.const (.int .u8 78)) (.int .u8 (sh k)) (.int .u8 78)) (.bool true) (by kernel_rfl) (by kernel_rfl) (Kw.eqv (v := .bool ((sh k) == (78 : Int))) (by kernel_rfl) (congrArg Value.bool (by rw [hs]; rfl))) ?_
            refine Kw.pure (.bool true) (by kernel_rfl) (by kernel_rfl) ?_
            refine Kw.pure (.bool true) (by kernel_rfl) (by kernel_rfl) ?_
            refine Kw.pure (.int .u32 (encN k rd rs1 rs2 imm)) (by kernel_rfl) (by kernel_rfl) ?_
            refine Kw.pure (.int .u32 (encN k jd rs1 rs2 imm)) (by kernel_rfl) (by kernel_rfl) ?_
            refine Kw.pureS (Canon.opS .neq 37 (.tmp 85) (.tmp 86) (.int .u32 (encN k rd rs1 rs2 imm)) (.int .u32 (encN k jd rs1 rs2 imm))) (.bool false) (by kernel_rfl) (by kernel_rfl) (Kw.eqv (v := .bool ((encN k rd rs1 rs2 imm) != (encN k jd rs1 rs2 imm))) (by kernel_rfl) (congrArg Value.bool (rd_same_N k hs rd rs1 rs2 imm jd h14 h18))) ?_
            refine Kw.pure (.bool false) (by kernel_rfl) (by kernel_rfl) ?_
            refine Kw.pure (.bool false) (by kernel_rfl) (by kernel_rfl) ?_
            refine Kw.pure (.int .u8 (sh k)) (by kernel_rfl) (by kernel_rfl) ?_
            refine Kw.pureS (Canon.opS .eql 5 (.tmp 90) (.const (.int .u8 85)) (.int .u8 (sh k)) (.int .u8 85)) (.bool false) (by kernel_rfl) (by kernel_rfl) (Kw.eqv (v := .bool ((sh k) == (85 : Int))) (by kernel_rfl) (congrArg Value.bool (by rw [hs]; rfl))) ?_
            refine Kw.pure (.bool false) (by kernel_rfl) (by kernel_rfl) ?_
            refine Kw.pure (.int .u8 (sh k)) (by kernel_rfl) (by kernel_rfl) ?_
            refine Kw.pureS (Canon.opS .eql 5 (.tmp 93) (.const (.int .u8 74)) (.int .u8 (sh k)) (.int .u8 74)) (.bool false) (by kernel_rfl) (by kernel_rfl) (Kw.eqv (v := .bool ((sh k) == (74 : Int))) (by kernel_rfl) (congrArg Value.bool (by rw [hs]; rfl))) ?_
            refine Kw.pure (.bool false) (by kernel_rfl) (by kernel_rfl) ?_
            refine Kw.pure (.bool false) (by kernel_rfl) (by kernel_rfl) ?_
            refine Kw.pure (.int .u8 (sh k)) (by kernel_rfl) (by kernel_rfl) ?_
            refine Kw.pureS (Canon.opS .eql 5 (.tmp 97) (.const (.int .u8 78)) (.int .u8 (sh k)) (.int .u8 78)) (.bool true) (by kernel_rfl) (by kernel_rfl) (Kw.eqv (v := .bool ((sh k) == (78 : Int))) (by kernel_rfl) (congrArg Value.bool (by rw [hs]; rfl))) ?_
            refine Kw.pure (.bool true) (by kernel_rfl) (by kernel_rfl) ?_
            refine Kw.pure (.bool true) (by kernel_rfl) (by kernel_rfl) ?_
            refine Kw.pure (.int .u32 (encN k rd rs1 rs2 imm)) (by kernel_rfl) (by kernel_rfl) ?_
            refine Kw.pure (.int .u32 (encN k rd j1 rs2 imm)) (by kernel_rfl) (by kernel_rfl) ?_
            refine Kw.pureS (Canon.opS .neq 37 (.tmp 101) (.tmp 102) (.int .u32 (encN k rd rs1 rs2 imm)) (.int .u32 (encN k rd j1 rs2 imm))) (.bool false) (by kernel_rfl) (by kernel_rfl) (Kw.eqv (v := .bool ((encN k rd rs1 rs2 imm) != (encN k rd j1 rs2 imm))) (by kernel_rfl) (congrArg Value.bool (rs_same_N k hs rd rs1 rs2 imm j1 h14 h22))) ?_
            refine Kw.pure (.bool false) (by kernel_rfl) (by kernel_rfl) ?_
            refine Kw.pure (.bool false) (by kernel_rfl) (by kernel_rfl) ?_
            refine Kw.fin ?_
            refine Kw.then_normal ?_
            refine wp_cond_false (by kernel_rfl) ?_
            refine wp_skip ?_
            refine Kw.then_normal ?_
            refine wp_seq ?_
            refine Kw.region ?_
            refine Kw.pure (.int .u8 (sh k)) (by kernel_rfl) (by kernel_rfl) ?_
            refine Kw.pureS (Canon.opS .eql 5 (.tmp 106) (.const (.int .u8 85)) (.int .u8 (sh k)) (.int .u8 85)) (.bool false) (by kernel_rfl) (by kernel_rfl) (Kw.eqv (v := .bool ((sh k) == (85 : Int))) (by kernel_rfl) (congrArg Value.bool (by rw [hs]; rfl))) ?_
            refine Kw.pure (.bool false) (by kernel_rfl) (by kernel_rfl) ?_
            refine Kw.pure (.int .u8 (sh k)) (by kernel_rfl) (by kernel_rfl) ?_
            refine Kw.pureS (Canon.opS .eql 5 (.tmp 109) (.const (.int .u8 74)) (.int .u8 (sh k)) (.int .u8 74)) (.bool false) (by kernel_rfl) (by kernel_rfl) (Kw.eqv (v := .bool ((sh k) == (74 : Int))) (by kernel_rfl) (congrArg Value.bool (by rw [hs]; rfl))) ?_
            refine Kw.pure (.bool false) (by kernel_rfl) (by kernel_rfl) ?_
            refine Kw.pure (.bool false) (by kernel_rfl) (by kernel_rfl) ?_
            refine Kw.pure (.int .u8 (sh k)) (by kernel_rfl) (by kernel_rfl) ?_
            refine Kw.pureS (Canon.opS .eql 5 (.tmp 113) (.const (.int .u8 78)) (.int .u8 (sh k)) (.int .u8 78)) (.bool true) (by kernel_rfl) (by kernel_rfl) (Kw.eqv (v := .bool ((sh k) == (78 : Int))) (by kernel_rfl) (congrArg Value.bool (by rw [hs]; rfl))) ?_
            refine Kw.pure (.bool true) (by kernel_rfl) (by kernel_rfl) ?_
            refine Kw.pure (.bool true) (by kernel_rfl) (by kernel_rfl) ?_
            refine Kw.skip (by kernel_rfl) ?_
            refine Kw.skip (by kernel_rfl) ?_
            refine Kw.skip (by kernel_rfl) ?_
            refine Kw.skip (by kernel_rfl) ?_
            refine Kw.skip (by kernel_rfl) ?_
            refine Kw.skip (by kernel_rfl) ?_
            refine Kw.skip (by kernel_rfl) ?_
            refine Kw.skip (by kernel_rfl) ?_
            refine Kw.skip (by kernel_rfl) ?_
            refine Kw.skip (by kernel_rfl) ?_
            refine Kw.skip (by kernel_rfl) ?_
            refine Kw.pure (.bool true) (by kernel_rfl) (by kernel_rfl) ?_
            refine Kw.pure (.bool true) (by kernel_rfl) (by kernel_rfl) ?_
            refine Kw.call (.bool true) 29 #[] M23 (by kernel_rfl) (by kernel_rfl) (one_c w23) fun w27 M27 => ?_
            refine Kw.pure (.bool true) (by kernel_rfl) (by kernel_rfl) ?_
            refine Kw.pure (.bool true) (by kernel_rfl) (by kernel_rfl) ?_
            refine Kw.fin ?_
            refine Kw.then_normal ?_
            refine wp_ret ?_
            exact bodyPost_ret (v := .bool true) (by kernel_rfl) (by kernel_rfl) ⟨rfl, M27.drop⟩
          · skip
            refine Kw.pure (.bool false) (by kernel_rfl) (Kw.eqv (v := .bool (((Go.bits .xor .u32 ((encN k rd rs1 rs2 imm)) ((encN k jd rs1 rs2 imm))) != (Go.bits .and .u32 ((IntKind.u32.wrap ((IntKind.u32.wrap (Go.bits .xor .i64 ((s rd)) ((s jd)))) * 2 ^ 7))) ((3968 : Int)))))) (by kernel_rfl) (congrArg Value.bool h26)) ?_
            refine Kw.skip (by kernel_rfl) ?_
            refine Kw.skip (by kernel_rfl) ?_
            refine Kw.pure (.bool false) (by kernel_rfl) (by kernel_rfl) ?_
            refine Kw.fin ?_
            refine Kw.then_normal ?_
            refine wp_cond_false (by kernel_rfl) ?_
            refine wp_skip ?_
            refine Kw.then_normal ?_
            refine wp_seq ?_
            refine wp_seq ?_
            refine Kw.region ?_
            refine Kw.pure (.int .u8 (sh k)) (by kernel_rfl) (by kernel_rfl) ?_
            refine Kw.pureS (Canon.opS .eql 5 (.tmp 74) (.const (.int .u8 83)) (.int .u8 (sh k)) (.int .u8 83)) (.bool false) (by kernel_rfl) (by kernel_rfl) (Kw.eqv (v := .bool ((sh k) == (83 : Int))) (by kernel_rfl) (congrArg Value.bool (by rw [hs]; rfl))) ?_
            refine Kw.pure (.bool false) (by kernel_rfl) (by kernel_rfl) ?_
            refine Kw.pure (.int .u8 (sh k)) (by kernel_rfl) (by kernel_rfl) ?_
            refine Kw.pureS (Canon.opS .eql 5 (.tmp 77) (.const (.int .u8 66)) (.int .u8 (sh k)) (.int .u8 66)) (.bool false) (by kernel_rfl) (by kernel_rfl) (Kw.eqv (v := .bool ((sh k) == (66 : Int))) (by kernel_rfl) (congrArg Value.bool (by rw [hs]; rfl))) ?_
            refine Kw.pure (.bool false) (by kernel_rfl) (by kernel_rfl) ?_
            refine Kw.pure (.bool false) (by kernel_rfl) (by kernel_rfl) ?_
            refine Kw.pure (.int .u8 (sh k)) (by kernel_rfl) (by kernel_rfl) ?_
            refine Kw.pureS (Canon.opS .eql 5 (.tmp 81) (.const (.int .u8 78)) (.int .u8 (sh k)) (.int .u8 78)) (.bool true) (by kernel_rfl) (by kernel_rfl) (Kw.eqv (v := .bool ((sh k) == (78 : Int))) (by kernel_rfl) (congrArg Value.bool (by rw [hs]; rfl))) ?_
            refine Kw.pure (.bool true) (by kernel_rfl) (by kernel_rfl) ?_
            refine Kw.pure (.bool true) (by kernel_rfl) (by kernel_rfl) ?_
            refine Kw.pure (.int .u32 (encN k rd rs1 rs2 imm)) (by kernel_rfl) (by kernel_rfl) ?_
            refine Kw.pure (.int .u32 (encN k jd rs1 rs2 imm)) (by kernel_rfl) (by kernel_rfl) ?_
            refine Kw.pureS (Canon.opS .neq 37 (.tmp 85) (.tmp 86) (.int .u32 (encN k rd rs1 rs2 imm)) (.int .u32 (encN k jd rs1 rs2 imm))) (.bool false) (by kernel_rfl) (by kernel_rfl) (Kw.eqv (v := .bool ((encN k rd rs1 rs2 imm) != (encN k jd rs1 rs2 imm))) (by kernel_rfl) (congrArg Value.bool (rd_same_N k hs rd rs1 rs2 imm jd h14 h18))) ?_
            refine Kw.pure (.bool false) (by kernel_rfl) (by kernel_rfl) ?_
            refine Kw.pure (.bool false) (by kernel_rfl) (by kernel_rfl) ?_
            refine Kw.pure (.int .u8 (sh k)) (by kernel_rfl) (by kernel_rfl) ?_
            refine Kw.pureS (Canon.opS .eql 5 (.tmp 90) (.const (.int .u8 85)) (.int .u8 (sh k)) (.int .u8 85)) (.bool false) (by kernel_rfl) (by kernel_rfl) (Kw.eqv (v := .bool ((sh k) == (85 : Int))) (by kernel_rfl) (congrArg Value.bool (by rw [hs]; rfl))) ?_
            refine Kw.pure (.bool false) (by kernel_rfl) (by kernel_rfl) ?_
            refine Kw.pure (.int .u8 (sh k)) (by kernel_rfl) (by kernel_rfl) ?_
            refine Kw.pureS (Canon.opS .eql 5 (.tmp 93) (.const (.int .u8 74)) (.int .u8 (sh k)) (.int .u8 74)) (.bool false) (by kernel_rfl) (by kernel_rfl) (Kw.eqv (v := .bool ((sh k) == (74 : Int))) (by kernel_rfl) (congrArg Value.bool (by rw [hs]; rfl))) ?_
            refine Kw.pure (.bool false) (by kernel_rfl) (by kernel_rfl) ?_
            refine Kw.pure (.bool false) (by kernel_rfl) (by kernel_rfl) ?_
            refine Kw.pure (.int .u8 (sh k)) (by kernel_rfl) (by kernel_rfl) ?_
            refine Kw.pureS (Canon.opS .eql 5 (.tmp 97) (.const (.int .u8 78)) (.int .u8 (sh k)) (.int .u8 78)) (.bool true) (by kernel_rfl) (by kernel_rfl) (Kw.eqv (v := .bool ((sh k) == (78 : Int))) (by kernel_rfl) (congrArg Value.bool (by rw [hs]; rfl))) ?_
            refine Kw.pure (.bool true) (by kernel_rfl) (by kernel_rfl) ?_
            refine Kw.pure (.bool true) (by kernel_rfl) (by kernel_rfl) ?_
            refine Kw.pure (.int .u32 (encN k rd rs1 rs2 imm)) (by kernel_rfl) (by kernel_rfl) ?_
            refine Kw.pure (.int .u32 (encN k rd j1 rs2 imm)) (by kernel_rfl) (by kernel_rfl) ?_
            refine Kw.pureS (Canon.opS .neq 37 (.tmp 101) (.tmp 102) (.int .u32 (encN k rd rs1 rs2 imm)) (.int .u32 (encN k rd j1 rs2 imm))) (.bool false) (by kernel_rfl) (by kernel_rfl) (Kw.eqv (v := .bool ((encN k rd rs1 rs2 imm) != (encN k rd j1 rs2 imm))) (by kernel_rfl) (congrArg Value.bool (rs_same_N k hs rd rs1 rs2 imm j1 h14 h22))) ?_
            refine Kw.pure (.bool false) (by kernel_rfl) (by kernel_rfl) ?_
            refine Kw.pure (.bool false) (by kernel_rfl) (by kernel_rfl) ?_
            refine Kw.fin ?_
            refine Kw.then_normal ?_
            refine wp_cond_false (by kernel_rfl) ?_
            refine wp_skip ?_
            refine Kw.then_normal ?_
            refine wp_seq ?_
            refine Kw.region ?_
            refine Kw.pure (.int .u8 (sh k)) (by kernel_rfl) (by kernel_rfl) ?_
            refine Kw.pureS (Canon.opS .eql 5 (.tmp 106) (.const (.int .u8 85)) (.int .u8 (sh k)) (.int .u8 85)) (.bool false) (by kernel_rfl) (by kernel_rfl) (Kw.eqv (v := .bool ((sh k) == (85 : Int))) (by kernel_rfl) (congrArg Value.bool (by rw [hs]; rfl))) ?_
            refine Kw.pure (.bool false) (by kernel_rfl) (by kernel_rfl) ?_
            refine Kw.pure (.int .u8 (sh k)) (by kernel_rfl) (by kernel_rfl) ?_
            refine Kw.pureS (Canon.opS .eql 5 (.tmp 109) (.const (.int .u8 74)) (.int .u8 (sh k)) (.int .u8 74)) (.bool false) (by kernel_rfl) (by kernel_rfl) (Kw.eqv (v := .bool ((sh k) == (74 : Int))) (by kernel_rfl) (congrArg Value.bool (by rw [hs]; rfl))) ?_
            refine Kw.pure (.bool false) (by kernel_rfl) (by kernel_rfl) ?_
            refine Kw.pure (.bool false) (by kernel_rfl) (by kernel_rfl) ?_
            refine Kw.pure (.int .u8 (sh k)) (by kernel_rfl) (by kernel_rfl) ?_
            refine Kw.pureS (Canon.opS .eql 5 (.tmp 113) (.const (.int .u8 78)) (.int .u8 (sh k)) (.int .u8 78)) (.bool true) (by kernel_rfl) (by kernel_rfl) (Kw.eqv (v := .bool ((sh k) == (78 : Int))) (by kernel_rfl) (congrArg Value.bool (by rw [hs]; rfl))) ?_
            refine Kw.pure (.bool true) (by kernel_rfl) (by kernel_rfl) ?_
            refine Kw.pure (.bool true) (by kernel_rfl) (by kernel_rfl) ?_
            refine Kw.skip (by kernel_rfl) ?_
            refine Kw.skip (by kernel_rfl) ?_
            refine Kw.skip (by kernel_rfl) ?_
            refine Kw.skip (by kernel_rfl) ?_
            refine Kw.skip (by kernel_rfl) ?_
            refine Kw.skip (by kernel_rfl) ?_
            refine Kw.skip (by kernel_rfl) ?_
            refine Kw.skip (by kernel_rfl) ?_
            refine Kw.skip (by kernel_rfl) ?_
            refine Kw.skip (by kernel_rfl) ?_
            refine Kw.skip (by kernel_rfl) ?_
            refine Kw.pure (.bool true) (by kernel_rfl) (by kernel_rfl) ?_
            refine Kw.pure (.bool true) (by kernel_rfl) (by kernel_rfl) ?_
            refine Kw.call (.bool true) 29 #[] M23 (by kernel_rfl) (by kernel_rfl) (one_c w23) fun w28 M28 => ?_
            refine Kw.pure (.bool true) (by kernel_rfl) (by kernel_rfl) ?_
            refine Kw.pure (.bool true) (by kernel_rfl) (by kernel_rfl) ?_
            refine Kw.fin ?_
            refine Kw.then_normal ?_
            refine wp_ret ?_
            exact bodyPost_ret (v := .bool true) (by kernel_rfl) (by kernel_rfl) ⟨rfl, M28.drop⟩
        · skip
          have h83 : sh k ≠ 83 := by rw [hs]; decide
          have h66 : sh k ≠ 66 := by rw [hs]; decide
          have h78 : sh k ≠ 78 := by rw [hs]; decide
          have h74 : sh k ≠ 74 := by rw [hs]; decide
          refine Kw.region ?_
          refine Kw.pure (.int .u8 (sh k)) (by kernel_rfl) (by kernel_rfl) ?_
          refine Kw.pureS (Canon.opS .neq 5 (.tmp 50) (.const (.int .u8 83)) (.int .u8 (sh k)) (.int .u8 83)) (.bool true) (by kernel_rfl) (by kernel_rfl) (Kw.eqv (v := .bool ((sh k) != (83 : Int))) (by kernel_rfl) (congrArg Value.bool (by rw [hs]; rfl))) ?_
          refine Kw.pure (.bool true) (by kernel_rfl) (by kernel_rfl) ?_
          refine Kw.pure (.int .u8 (sh k)) (by kernel_rfl) (by kernel_rfl) ?_
          refine Kw.pureS (Canon.opS .neq 5 (.tmp 53) (.const (.int .u8 66)) (.int .u8 (sh k)) (.int .u8 66)) (.bool true) (by kernel_rfl) (by kernel_rfl) (Kw.eqv (v := .bool ((sh k) != (66 : Int))) (by kernel_rfl) (congrArg Value.bool (by rw [hs]; rfl))) ?_
          refine Kw.pure (.bool true) (by kernel_rfl) (by kernel_rfl) ?_
          refine Kw.pure (.bool true) (by kernel_rfl) (by kernel_rfl) ?_
          refine Kw.pure (.int .u32 (encN k rd rs1 rs2 imm)) (by kernel_rfl) (by kernel_rfl) ?_
          refine Kw.pure (.int .u32 (encN k jd rs1 rs2 imm)) (by kernel_rfl) (by kernel_rfl) ?_
          refine Kw.pureS (Canon.opS .xor 37 (.tmp 57) (.tmp 58) (.int .u32 (encN k rd rs1 rs2 imm)) (.int .u32 (encN k jd rs1 rs2 imm))) (.int .u32 (Go.bits .xor .u32 ((encN k rd rs1 rs2 imm)) ((encN k jd rs1 rs2 imm)))) (by kernel_rfl) (by kernel_rfl) (by kernel_rfl) ?_
          refine Kw.pure (.pointer (some ⟨B1, 1, none⟩)) (by kernel_rfl) (by kernel_rfl) ?_
          refine Kw.pureS (Canon.ldS 3 (.pointer (some ⟨B1, 1, none⟩))) (.int .i64 (s rd)) (by kernel_rfl) (by kernel_rfl) (Kw.ld_cell 3 1 (.int .i64 (s rd)) (M23.get 2 rfl) (by kernel_rfl) _ Try.underlying3 rfl) ?_
          refine Kw.pure (.pointer (some ⟨B2, 1, none⟩)) (by kernel_rfl) (by kernel_rfl) ?_
          refine Kw.pureS (Canon.ldS 3 (.pointer (some ⟨B2, 1, none⟩))) (.int .i64 (s jd)) (by kernel_rfl) (by kernel_rfl) (Kw.ld_cell 3 1 (.int .i64 (s jd)) (M23.get 1 rfl) (by kernel_rfl) _ Try.underlying3 rfl) ?_
          refine Kw.pureS (Canon.opS .xor 3 (.tmp 61) (.tmp 63) (.int .i64 (s rd)) (.int .i64 (s jd))) (.int .i64 (Go.bits .xor .i64 ((s rd)) ((s jd)))) (by kernel_rfl) (by kernel_rfl) (by kernel_rfl) ?_
          refine Kw.pure (.int .u32 (IntKind.u32.wrap (Go.bits .xor .i64 ((s rd)) ((s jd))))) (by kernel_rfl) (by kernel_rfl) ?_
          refine Kw.pureS (Canon.opS .shl 37 (.tmp 65) (.const (.int .u64 7)) (.int .u32 (IntKind.u32.wrap (Go.bits .xor .i64 ((s rd)) ((s jd))))) (.int .u64 7)) (.int .u32 (IntKind.u32.wrap ((IntKind.u32.wrap (Go.bits .xor .i64 ((s rd)) ((s jd)))) * 2 ^ 7))) (by kernel_rfl) (by kernel_rfl) (by kernel_rfl) ?_
          refine Kw.pureS (Canon.opS .and 37 (.tmp 66) (.const (.int .u32 3968)) (.int .u32 (IntKind.u32.wrap ((IntKind.u32.wrap (Go.bits .xor .i64 ((s rd)) ((s jd)))) * 2 ^ 7))) (.int .u32 3968)) (.int .u32 (Go.bits .and .u32 ((IntKind.u32.wrap ((IntKind.u32.wrap (Go.bits .xor .i64 ((s rd)) ((s jd)))) * 2 ^ 7))) ((3968 : Int)))) (by kernel_rfl) (by kernel_rfl) (by kernel_rfl) ?_
          refine Kw.pureS (Canon.opS .neq 37 (.tmp 59) (.tmp 67) (.int .u32 (Go.bits .xor .u32 ((encN k rd rs1 rs2 imm)) ((encN k jd rs1 rs2 imm)))) (.int .u32 (Go.bits .and .u32 ((IntKind.u32.wrap ((IntKind.u32.wrap (Go.bits .xor .i64 ((s rd)) ((s jd)))) * 2 ^ 7))) ((3968 : Int))))) (.bool false) (by kernel_rfl) (by kernel_rfl) (Kw.eqv (v := .bool ((Go.bits .xor .u32 ((encN k rd rs1 rs2 imm)) ((encN k jd rs1 rs2 imm))) != (Go.bits .and .u32 ((IntKind.u32.wrap ((IntKind.u32.wrap (Go.bits .xor .i64 ((s rd)) ((s jd)))) * 2 ^ 7))) ((3968 : Int))))) (by kernel_rfl) (congrArg Value.bool (rd_diff k hk h83 h66 h78 rd rs1 rs2 imm jd h14 h18))) ?_
          refine Kw.pure (.bool false) (by kernel_rfl) (by kernel_rfl) ?_
          refine Kw.pure (.bool false) (by kernel_rfl) (by kernel_rfl) ?_
          refine Kw.skip (by kernel_rfl) ?_
          refine Kw.skip (by kernel_rfl) ?_
          refine Kw.pure (.bool false) (by kernel_rfl) (by kernel_rfl) ?_
          refine Kw.fin ?_
          refine Kw.then_normal ?_
          refine wp_cond_false (by kernel_rfl) ?_
          refine wp_skip ?_
          refine Kw.then_normal ?_
          refine wp_seq ?_
          refine wp_seq ?_
          refine Kw.region ?_
          refine Kw.pure (.int .u8 (sh k)) (by kernel_rfl) (by kernel_rfl) ?_
          refine Kw.pureS (Canon.opS .eql 5 (.tmp 74) (.const (.int .u8 83)) (.int .u8 (sh k)) (.int .u8 83)) (.bool false) (by kernel_rfl) (by kernel_rfl) (Kw.eqv (v := .bool ((sh k) == (83 : Int))) (by kernel_rfl) (congrArg Value.bool (by rw [hs]; rfl))) ?_
          refine Kw.pure (.bool false) (by kernel_rfl) (by kernel_rfl) ?_
          refine Kw.pure (.int .u8 (sh k)) (by kernel_rfl) (by kernel_rfl) ?_
          refine Kw.pureS (Canon.opS .eql 5 (.tmp 77) (.const (.int .u8 66)) (.int .u8 (sh k)) (.int .u8 66)) (.bool false) (by kernel_rfl) (by kernel_rfl) (Kw.eqv (v := .bool ((sh k) == (66 : Int))) (by kernel_rfl) (congrArg Value.bool (by rw [hs]; rfl))) ?_
          refine Kw.pure (.bool false) (by kernel_rfl) (by kernel_rfl) ?_
          refine Kw.pure (.bool false) (by kernel_rfl) (by kernel_rfl) ?_
          refine Kw.pure (.int .u8 (sh k)) (by kernel_rfl) (by kernel_rfl) ?_
          refine Kw.pureS (Canon.opS .eql 5 (.tmp 81) (.const (.int .u8 78)) (.int .u8 (sh k)) (.int .u8 78)) (.bool false) (by kernel_rfl) (by kernel_rfl) (Kw.eqv (v := .bool ((sh k) == (78 : Int))) (by kernel_rfl) (congrArg Value.bool (by rw [hs]; rfl))) ?_
          refine Kw.pure (.bool false) (by kernel_rfl) (by kernel_rfl) ?_
          refine Kw.pure (.bool false) (by kernel_rfl) (by kernel_rfl) ?_
          refine Kw.skip (by kernel_rfl) ?_
          refine Kw.skip (by kernel_rfl) ?_
          refine Kw.skip (by kernel_rfl) ?_
          refine Kw.pure (.bool false) (by kernel_rfl) (by kernel_rfl) ?_
          refine Kw.pure (.bool false) (by kernel_rfl) (by kernel_rfl) ?_
          refine Kw.pure (.int .u8 (sh k)) (by kernel_rfl) (by kernel_rfl) ?_
          refine Kw.pureS (Canon.opS .eql 5 (.tmp 90) (.const (.int .u8 85)) (.int .u8 (sh k)) (.int .u8 85)) (.bool true) (by kernel_rfl) (by kernel_rfl) (Kw.eqv (v := .bool ((sh k) == (85 : Int))) (by kernel_rfl) (congrArg Value.bool (by rw [hs]; rfl))) ?_
          refine Kw.pure (.bool true) (by kernel_rfl) (by kernel_rfl) ?_
          refine Kw.skip (by kernel_rfl) ?_
          refine Kw.skip (by kernel_rfl) ?_
          refine Kw.pure (.bool true) (by kernel_rfl) (by kernel_rfl) ?_
          refine Kw.pure (.bool true) (by kernel_rfl) (by kernel_rfl) ?_
          refine Kw.skip (by kernel_rfl) ?_
          refine Kw.skip (by kernel_rfl) ?_
          refine Kw.pure (.bool true) (by kernel_rfl) (by kernel_rfl) ?_
          refine Kw.pure (.bool true) (by kernel_rfl) (by kernel_rfl) ?_
          refine Kw.pure (.int .u32 (encN k rd rs1 rs2 imm)) (by kernel_rfl) (by kernel_rfl) ?_
          refine Kw.pure (.int .u32 (encN k rd j1 rs2 imm)) (by kernel_rfl) (by kernel_rfl) ?_
          refine Kw.pureS (Canon.opS .neq 37 (.tmp 101) (.tmp 102) (.int .u32 (encN k rd rs1 rs2 imm)) (.int .u32 (encN k rd j1 rs2 imm))) (.bool false) (by kernel_rfl) (by kernel_rfl) (Kw.eqv (v := .bool ((encN k rd rs1 rs2 imm) != (encN k rd j1 rs2 imm))) (by kernel_rfl) (congrArg Value.bool (rs_same_U k hs rd rs1 rs2 imm j1 h14 h22))) ?_
          refine Kw.pure (.bool false) (by kernel_rfl) (by kernel_rfl) ?_
          refine Kw.pure (.bool false) (by kernel_rfl) (by kernel_rfl) ?_
          refine Kw.fin ?_
          refine Kw.then_normal ?_
          refine wp_cond_false (by kernel_rfl) ?_
          refine wp_skip ?_
          refine Kw.then_normal ?_
          refine wp_seq ?_
          refine Kw.region ?_
          refine Kw.pure (.int .u8 (sh k)) (by kernel_rfl) (by kernel_rfl) ?_
          refine Kw.pureS (Canon.opS .eql 5 (.tmp 106) (.const (.int .u8 85)) (.int .u8 (sh k)) (.int .u8 85)) (.bool true) (by kernel_rfl) (by kernel_rfl) (Kw.eqv (v := .bool ((sh k) == (85 : Int))) (by kernel_rfl) (congrArg Value.bool (by rw [hs]; rfl))) ?_
          refine Kw.pure (.bool true) (by kernel_rfl) (by kernel_rfl) ?_
          refine Kw.skip (by kernel_rfl) ?_
          refine Kw.skip (by kernel_rfl) ?_
          refine Kw.pure (.bool true) (by kernel_rfl) (by kernel_rfl) ?_
          refine Kw.pure (.bool true) (by kernel_rfl) (by kernel_rfl) ?_
          refine Kw.skip (by kernel_rfl) ?_
          refine Kw.skip (by kernel_rfl) ?_
          refine Kw.pure (.bool true) (by kernel_rfl) (by kernel_rfl) ?_
          refine Kw.pure (.bool true) (by kernel_rfl) (by kernel_rfl) ?_
          refine Kw.skip (by kernel_rfl) ?_
          refine Kw.skip (by kernel_rfl) ?_
          refine Kw.skip (by kernel_rfl) ?_
          refine Kw.skip (by kernel_rfl) ?_
          refine Kw.skip (by kernel_rfl) ?_
          refine Kw.skip (by kernel_rfl) ?_
          refine Kw.skip (by kernel_rfl) ?_
          refine Kw.skip (by kernel_rfl) ?_
          refine Kw.skip (by kernel_rfl) ?_
          refine Kw.skip (by kernel_rfl) ?_
          refine Kw.skip (by kernel_rfl) ?_
          refine Kw.pure (.bool true) (by kernel_rfl) (by kernel_rfl) ?_
          refine Kw.pure (.bool true) (by kernel_rfl) (by kernel_rfl) ?_
          refine Kw.call (.bool true) 29 #[] M23 (by kernel_rfl) (by kernel_rfl) (one_c w23) fun w29 M29 => ?_
          refine Kw.pure (.bool true) (by kernel_rfl) (by kernel_rfl) ?_
          refine Kw.pure (.bool true) (by kernel_rfl) (by kernel_rfl) ?_
          refine Kw.fin ?_
          refine Kw.then_normal ?_
          refine wp_ret ?_
          exact bodyPost_ret (v := .bool true) (by kernel_rfl) (by kernel_rfl) ⟨rfl, M29.drop⟩
        · skip
          have h83 : sh k ≠ 83 := by rw [hs]; decide
          have h66 : sh k ≠ 66 := by rw [hs]; decide
          have h78 : sh k ≠ 78 := by rw [hs]; decide
          have h85 : sh k ≠ 85 := by rw [hs]; decide
          refine Kw.region ?_
          refine Kw.pure (.int .u8 (sh k)) (by kernel_rfl) (by kernel_rfl) ?_
          refine Kw.pureS (Canon.opS .neq 5 (.tmp 50) (.const (.int .u8 83)) (.int .u8 (sh k)) (.int .u8 83)) (.bool true) (by kernel_rfl) (by kernel_rfl) (Kw.eqv (v := .bool ((sh k) != (83 : Int))) (by kernel_rfl) (congrArg Value.bool (by rw [hs]; rfl))) ?_
          refine Kw.pure (.bool true) (by kernel_rfl) (by kernel_rfl) ?_
          refine Kw.pure (.int .u8 (sh k)) (by kernel_rfl) (by kernel_rfl) ?_
          refine Kw.pureS (Canon.opS .neq 5 (.tmp 53) (.const (.int .u8 66)) (.int .u8 (sh k)) (.int .u8 66)) (.bool true) (by kernel_rfl) (by kernel_rfl) (Kw.eqv (v := .bool ((sh k) != (66 : Int))) (by kernel_rfl) (congrArg Value.bool (by rw [hs]; rfl))) ?_
          refine Kw.pure (.bool true) (by kernel_rfl) (by kernel_rfl) ?_
          refine Kw.pure (.bool true) (by kernel_rfl) (by kernel_rfl) ?_
          refine Kw.pure (.int .u32 (encN k rd rs1 rs2 imm)) (by kernel_rfl) (by kernel_rfl) ?_
          refine Kw.pure (.int .u32 (encN k jd rs1 rs2 imm)) (by kernel_rfl) (by kernel_rfl) ?_
          refine Kw.pureS (Canon.opS .xor 37 (.tmp 57) (.tmp 58) (.int .u32 (encN k rd rs1 rs2 imm)) (.int .u32 (encN k jd rs1 rs2 imm))) (.int .u32 (Go.bits .xor .u32 ((encN k rd rs1 rs2 imm)) ((encN k jd rs1 rs2 imm)))) (by kernel_rfl) (by kernel_rfl) (by kernel_rfl) ?_
          refine Kw.pure (.pointer (some ⟨B1, 1, none⟩)) (by kernel_rfl) (by kernel_rfl) ?_
          refine Kw.pureS (Canon.ldS 3 (.pointer (some ⟨B1, 1, none⟩))) (.int .i64 (s rd)) (by kernel_rfl) (by kernel_rfl) (Kw.ld_cell 3 1 (.int .i64 (s rd)) (M23.get 2 rfl) (by kernel_rfl) _ Try.underlying3 rfl) ?_
          refine Kw.pure (.pointer (some ⟨B2, 1, none⟩)) (by kernel_rfl) (by kernel_rfl) ?_
          refine Kw.pureS (Canon.ldS 3 (.pointer (some ⟨B2, 1, none⟩))) (.int .i64 (s jd)) (by kernel_rfl) (by kernel_rfl) (Kw.ld_cell 3 1 (.int .i64 (s jd)) (M23.get 1 rfl) (by kernel_rfl) _ Try.underlying3 rfl) ?_
          refine Kw.pureS (Canon.opS .xor 3 (.tmp 61) (.tmp 63) (.int .i64 (s rd)) (.int .i64 (s jd))) (.int .i64 (Go.bits .xor .i64 ((s rd)) ((s jd)))) (by kernel_rfl) (by kernel_rfl) (by kernel_rfl) ?_
          refine Kw.pure (.int .u32 (IntKind.u32.wrap (Go.bits .xor .i64 ((s rd)) ((s jd))))) (by kernel_rfl) (by kernel_rfl) ?_
          refine Kw.pureS (Canon.opS .shl 37 (.tmp 65) (.const (.int .u64 7)) (.int .u32 (IntKind.u32.wrap (Go.bits .xor .i64 ((s rd)) ((s jd))))) (.int .u64 7)) (.int .u32 (IntKind.u32.wrap ((IntKind.u32.wrap (Go.bits .xor .i64 ((s rd)) ((s jd)))) * 2 ^ 7))) (by kernel_rfl) (by kernel_rfl) (by kernel_rfl) ?_
          refine Kw.pureS (Canon.opS .and 37 (.tmp 66) (.const (.int .u32 3968)) (.int .u32 (IntKind.u32.wrap ((IntKind.u32.wrap (Go.bits .xor .i64 ((s rd)) ((s jd)))) * 2 ^ 7))) (.int .u32 3968)) (.int .u32 (Go.bits .and .u32 ((IntKind.u32.wrap ((IntKind.u32.wrap (Go.bits .xor .i64 ((s rd)) ((s jd)))) * 2 ^ 7))) ((3968 : Int)))) (by kernel_rfl) (by kernel_rfl) (by kernel_rfl) ?_
          refine Kw.pureS (Canon.opS .neq 37 (.tmp 59) (.tmp 67) (.int .u32 (Go.bits .xor .u32 ((encN k rd rs1 rs2 imm)) ((encN k jd rs1 rs2 imm)))) (.int .u32 (Go.bits .and .u32 ((IntKind.u32.wrap ((IntKind.u32.wrap (Go.bits .xor .i64 ((s rd)) ((s jd)))) * 2 ^ 7))) ((3968 : Int))))) (.bool false) (by kernel_rfl) (by kernel_rfl) (Kw.eqv (v := .bool ((Go.bits .xor .u32 ((encN k rd rs1 rs2 imm)) ((encN k jd rs1 rs2 imm))) != (Go.bits .and .u32 ((IntKind.u32.wrap ((IntKind.u32.wrap (Go.bits .xor .i64 ((s rd)) ((s jd)))) * 2 ^ 7))) ((3968 : Int))))) (by kernel_rfl) (congrArg Value.bool (rd_diff k hk h83 h66 h78 rd rs1 rs2 imm jd h14 h18))) ?_
          refine Kw.pure (.bool false) (by kernel_rfl) (by kernel_rfl) ?_
          refine Kw.pure (.bool false) (by kernel_rfl) (by kernel_rfl) ?_
          refine Kw.skip (by kernel_rfl) ?_
          refine Kw.skip (by kernel_rfl) ?_
          refine Kw.pure (.bool false) (by kernel_rfl) (by kernel_rfl) ?_
          refine Kw.fin ?_
          refine Kw.then_normal ?_
          refine wp_cond_false (by kernel_rfl) ?_
          refine wp_skip ?_
          refine Kw.then_normal ?_
          refine wp_seq ?_
          refine wp_seq ?_
          refine Kw.region ?_
          refine Kw.pure (.int .u8 (sh k)) (by kernel_rfl) (by kernel_rfl) ?_
          refine Kw.pureS (Canon.opS .eql 5 (.tmp 74) (.const (.int .u8 83)) (.int .u8 (sh k)) (.int .u8 83)) (.bool false) (by kernel_rfl) (by kernel_rfl) (Kw.eqv (v := .bool ((sh k) == (83 : Int))) (by kernel_rfl) (congrArg Value.bool (by rw [hs]; rfl))) ?_
          refine Kw.pure (.bool false) (by kernel_rfl) (by kernel_rfl) ?_
          refine Kw.pure (.int .u8 (sh k)) (by kernel_rfl) (by kernel_rfl) ?_
          refine Kw.pureS (Canon.opS .eql 5 (.tmp 77) (.const (.int .u8 66)) (.int .u8 (sh k)) (.int .u8 66)) (.bool false) (by kernel_rfl) (by kernel_rfl) (Kw.eqv (v := .bool ((sh k) == (66 : Int))) (by kernel_rfl) (congrArg Value.bool (by rw [hs]; rfl))) ?_
          refine Kw.pure (.bool false) (by kernel_rfl) (by kernel_rfl) ?_
          refine Kw.pure (.bool false) (by kernel_rfl) (by kernel_rfl) ?_
          refine Kw.pure (.int .u8 (sh k)) (by kernel_rfl) (by kernel_rfl) ?_
          refine Kw.pureS (Canon.opS .eql 5 (.tmp 81) (.const (.int .u8 78)) (.int .u8 (sh k)) (.int .u8 78)) (.bool false) (by kernel_rfl) (by kernel_rfl) (Kw.eqv (v := .bool ((sh k) == (78 : Int))) (by kernel_rfl) (congrArg Value.bool (by rw [hs]; rfl))) ?_
          refine Kw.pure (.bool false) (by kernel_rfl) (by kernel_rfl) ?_
          refine Kw.pure (.bool false) (by kernel_rfl) (by kernel_rfl) ?_
          refine Kw.skip (by kernel_rfl) ?_
          refine Kw.skip (by kernel_rfl) ?_
          refine Kw.skip (by kernel_rfl) ?_
          refine Kw.pure (.bool false) (by kernel_rfl) (by kernel_rfl) ?_
          refine Kw.pure (.bool false) (by kernel_rfl) (by kernel_rfl) ?_
          refine Kw.pure (.int .u8 (sh k)) (by kernel_rfl) (by kernel_rfl) ?_
          refine Kw.pureS (Canon.opS .eql 5 (.tmp 90) (.const (.int .u8 85)) (.int .u8 (sh k)) (.int .u8 85)) (.bool false) (by kernel_rfl) (by kernel_rfl) (Kw.eqv (v := .bool ((sh k) == (85 : Int))) (by kernel_rfl) (congrArg Value.bool (by rw [hs]; rfl))) ?_
          refine Kw.pure (.bool false) (by kernel_rfl) (by kernel_rfl) ?_
          refine Kw.pure (.int .u8 (sh k)) (by kernel_rfl) (by kernel_rfl) ?_
          refine Kw.pureS (Canon.opS .eql 5 (.tmp 93) (.const (.int .u8 74)) (.int .u8 (sh k)) (.int .u8 74)) (.bool true) (by kernel_rfl) (by kernel_rfl) (Kw.eqv (v := .bool ((sh k) == (74 : Int))) (by kernel_rfl) (congrArg Value.bool (by rw [hs]; rfl))) ?_
          refine Kw.pure (.bool true) (by kernel_rfl) (by kernel_rfl) ?_
          refine Kw.pure (.bool true) (by kernel_rfl) (by kernel_rfl) ?_
          refine Kw.skip (by kernel_rfl) ?_
          refine Kw.skip (by kernel_rfl) ?_
          refine Kw.pure (.bool true) (by kernel_rfl) (by kernel_rfl) ?_
          refine Kw.pure (.bool true) (by kernel_rfl) (by kernel_rfl) ?_
          refine Kw.pure (.int .u32 (encN k rd rs1 rs2 imm)) (by kernel_rfl) (by kernel_rfl) ?_
          refine Kw.pure (.int .u32 (encN k rd j1 rs2 imm)) (by kernel_rfl) (by kernel_rfl) ?_
          refine Kw.pureS (Canon.opS .neq 37 (.tmp 101) (.tmp 102) (.int .u32 (encN k rd rs1 rs2 imm)) (.int .u32 (encN k rd j1 rs2 imm))) (.bool false) (by kernel_rfl) (by kernel_rfl) (Kw.eqv (v := .bool ((encN k rd rs1 rs2 imm) != (encN k rd j1 rs2 imm))) (by kernel_rfl) (congrArg Value.bool (rs_same_J k hs rd rs1 rs2 imm j1 h14 h22))) ?_
          refine Kw.pure (.bool false) (by kernel_rfl) (by kernel_rfl) ?_
          refine Kw.pure (.bool false) (by kernel_rfl) (by kernel_rfl) ?_
          refine Kw.fin ?_
          refine Kw.then_normal ?_
          refine wp_cond_false (by kernel_rfl) ?_
          refine wp_skip ?_
          refine Kw.then_normal ?_
          refine wp_seq ?_
          refine Kw.region ?_
          refine Kw.pure (.int .u8 (sh k)) (by kernel_rfl) (by kernel_rfl) ?_
          refine Kw.pureS (Canon.opS .eql 5 (.tmp 106) (.const (.int .u8 85)) (.int .u8 (sh k)) (.int .u8 85)) (.bool false) (by kernel_rfl) (by kernel_rfl) (Kw.eqv (v := .bool ((sh k) == (85 : Int))) (by kernel_rfl) (congrArg Value.bool (by rw [hs]; rfl))) ?_
          refine Kw.pure (.bool false) (by kernel_rfl) (by kernel_rfl) ?_
          refine Kw.pure (.int .u8 (sh k)) (by kernel_rfl) (by kernel_rfl) ?_
          refine Kw.pureS (Canon.opS .eql 5 (.tmp 109) (.const (.int .u8 74)) (.int .u8 (sh k)) (.int .u8 74)) (.bool true) (by kernel_rfl) (by kernel_rfl) (Kw.eqv (v := .bool ((sh k) == (74 : Int))) (by kernel_rfl) (congrArg Value.bool (by rw [hs]; rfl))) ?_
          refine Kw.pure (.bool true) (by kernel_rfl) (by kernel_rfl) ?_
          refine Kw.pure (.bool true) (by kernel_rfl) (by kernel_rfl) ?_
          refine Kw.skip (by kernel_rfl) ?_
          refine Kw.skip (by kernel_rfl) ?_
          refine Kw.pure (.bool true) (by kernel_rfl) (by kernel_rfl) ?_
          refine Kw.pure (.bool true) (by kernel_rfl) (by kernel_rfl) ?_
          refine Kw.skip (by kernel_rfl) ?_
          refine Kw.skip (by kernel_rfl) ?_
          refine Kw.skip (by kernel_rfl) ?_
          refine Kw.skip (by kernel_rfl) ?_
          refine Kw.skip (by kernel_rfl) ?_
          refine Kw.skip (by kernel_rfl) ?_
          refine Kw.skip (by kernel_rfl) ?_
          refine Kw.skip (by kernel_rfl) ?_
          refine Kw.skip (by kernel_rfl) ?_
          refine Kw.skip (by kernel_rfl) ?_
          refine Kw.skip (by kernel_rfl) ?_
          refine Kw.pure (.bool true) (by kernel_rfl) (by kernel_rfl) ?_
          refine Kw.pure (.bool true) (by kernel_rfl) (by kernel_rfl) ?_
          refine Kw.call (.bool true) 29 #[] M23 (by kernel_rfl) (by kernel_rfl) (one_c w23) fun w30 M30 => ?_
          refine Kw.pure (.bool true) (by kernel_rfl) (by kernel_rfl) ?_
          refine Kw.pure (.bool true) (by kernel_rfl) (by kernel_rfl) ?_
          refine Kw.fin ?_
          refine Kw.then_normal ?_
          refine wp_ret ?_
          exact bodyPost_ret (v := .bool true) (by kernel_rfl) (by kernel_rfl) ⟨rfl, M30.drop⟩
        · skip
          refine Kw.region ?_
          refine Kw.pure (.int .u8 (sh k)) (by kernel_rfl) (by kernel_rfl) ?_
          refine Kw.pureS (Canon.opS .neq 5 (.tmp 50) (.const (.int .u8 83)) (.int .u8 (sh k)) (.int .u8 83)) (.bool true) (by kernel_rfl) (by kernel_rfl) (Kw.eqv (v := .bool ((sh k) != (83 : Int))) (by kernel_rfl) (congrArg Value.bool (KwJ.bne_of (beq_false_of_ne h83)))) ?_
          refine Kw.pure (.bool true) (by kernel_rfl) (by kernel_rfl) ?_
          refine Kw.pure (.int .u8 (sh k)) (by kernel_rfl) (by kernel_rfl) ?_
          refine Kw.pureS (Canon.opS .neq 5 (.tmp 53) (.const (.int .u8 66)) (.int .u8 (sh k)) (.int .u8 66)) (.bool true) (by kernel_rfl) (by kernel_rfl) (Kw.eqv (v := .bool ((sh k) != (66 : Int))) (by kernel_rfl) (congrArg Value.bool (KwJ.bne_of (beq_false_of_ne h66)))) ?_
          refine Kw.pure (.bool true) (by kernel_rfl) (by kernel_rfl) ?_
          refine Kw.pure (.bool true) (by kernel_rfl) (by kernel_rfl) ?_
          refine Kw.pure (.int .u32 (encN k rd rs1 rs2 imm)) (by kernel_rfl) (by kernel_rfl) ?_
          refine Kw.pure (.int .u32 (encN k jd rs1 rs2 imm)) (by kernel_rfl) (by kernel_rfl) ?_
          refine Kw.pureS (Canon.opS .xor 37 (.tmp 57) (.tmp 58) (.int .u32 (encN k rd rs1 rs2 imm)) (.int .u32 (encN k jd rs1 rs2 imm))) (.int .u32 (Go.bits .xor .u32 ((encN k rd rs1 rs2 imm)) ((encN k jd rs1 rs2 imm)))) (by kernel_rfl) (by kernel_rfl) (by kernel_rfl) ?_
          refine Kw.pure (.pointer (some ⟨B1, 1, none⟩)) (by kernel_rfl) (by kernel_rfl) ?_
          refine Kw.pureS (Canon.ldS 3 (.pointer (some ⟨B1, 1, none⟩))) (.int .i64 (s rd)) (by kernel_rfl) (by kernel_rfl) (Kw.ld_cell 3 1 (.int .i64 (s rd)) (M23.get 2 rfl) (by kernel_rfl) _ Try.underlying3 rfl) ?_
          refine Kw.pure (.pointer (some ⟨B2, 1, none⟩)) (by kernel_rfl) (by kernel_rfl) ?_
          refine Kw.pureS (Canon.ldS 3 (.pointer (some ⟨B2, 1, none⟩))) (.int .i64 (s jd)) (by kernel_rfl) (by kernel_rfl) (Kw.ld_cell 3 1 (.int .i64 (s jd)) (M23.get 1 rfl) (by kernel_rfl) _ Try.underlying3 rfl) ?_
          refine Kw.pureS (Canon.opS .xor 3 (.tmp 61) (.tmp 63) (.int .i64 (s rd)) (.int .i64 (s jd))) (.int .i64 (Go.bits .xor .i64 ((s rd)) ((s jd)))) (by kernel_rfl) (by kernel_rfl) (by kernel_rfl) ?_
          refine Kw.pure (.int .u32 (IntKind.u32.wrap (Go.bits .xor .i64 ((s rd)) ((s jd))))) (by kernel_rfl) (by kernel_rfl) ?_
          refine Kw.pureS (Canon.opS .shl 37 (.tmp 65) (.const (.int .u64 7)) (.int .u32 (IntKind.u32.wrap (Go.bits .xor .i64 ((s rd)) ((s jd))))) (.int .u64 7)) (.int .u32 (IntKind.u32.wrap ((IntKind.u32.wrap (Go.bits .xor .i64 ((s rd)) ((s jd)))) * 2 ^ 7))) (by kernel_rfl) (by kernel_rfl) (by kernel_rfl) ?_
          refine Kw.pureS (Canon.opS .and 37 (.tmp 66) (.const (.int .u32 3968)) (.int .u32 (IntKind.u32.wrap ((IntKind.u32.wrap (Go.bits .xor .i64 ((s rd)) ((s jd)))) * 2 ^ 7))) (.int .u32 3968)) (.int .u32 (Go.bits .and .u32 ((IntKind.u32.wrap ((IntKind.u32.wrap (Go.bits .xor .i64 ((s rd)) ((s jd)))) * 2 ^ 7))) ((3968 : Int)))) (by kernel_rfl) (by kernel_rfl) (by kernel_rfl) ?_
          refine Kw.pureS (Canon.opS .neq 37 (.tmp 59) (.tmp 67) (.int .u32 (Go.bits .xor .u32 ((encN k rd rs1 rs2 imm)) ((encN k jd rs1 rs2 imm)))) (.int .u32 (Go.bits .and .u32 ((IntKind.u32.wrap ((IntKind.u32.wrap (Go.bits .xor .i64 ((s rd)) ((s jd)))) * 2 ^ 7))) ((3968 : Int))))) (.bool false) (by kernel_rfl) (by kernel_rfl) (Kw.eqv (v := .bool ((Go.bits .xor .u32 ((encN k rd rs1 rs2 imm)) ((encN k jd rs1 rs2 imm))) != (Go.bits .and .u32 ((IntKind.u32.wrap ((IntKind.u32.wrap (Go.bits .xor .i64 ((s rd)) ((s jd)))) * 2 ^ 7))) ((3968 : Int))))) (by kernel_rfl) (congrArg Value.bool (rd_diff k hk h83 h66 h78 rd rs1 rs2 imm jd h14 h18))) ?_
          refine Kw.pure (.bool false) (by kernel_rfl) (by kernel_rfl) ?_
          refine Kw.pure (.bool false) (by kernel_rfl) (by kernel_rfl) ?_
          refine Kw.skip (by kernel_rfl) ?_
          refine Kw.skip (by kernel_rfl) ?_
          refine Kw.pure (.bool false) (by kernel_rfl) (by kernel_rfl) ?_
          refine Kw.fin ?_
          refine Kw.then_normal ?_
          refine wp_cond_false (by kernel_rfl) ?_
          refine wp_skip ?_
          refine Kw.then_normal ?_
          refine wp_seq ?_
          refine wp_seq ?_
          refine Kw.region ?_
          refine Kw.pure (.int .u8 (sh k)) (by kernel_rfl) (by kernel_rfl) ?_
          refine Kw.pureS (Canon.opS .eql 5 (.tmp 74) (.const (.int .u8 83)) (.int .u8 (sh k)) (.int .u8 83)) (.bool false) (by kernel_rfl) (by kernel_rfl) (Kw.eqv (v := .bool ((sh k) == (83 : Int))) (by kernel_rfl) (congrArg Value.bool (beq_false_of_ne h83))) ?_
          refine Kw.pure (.bool false) (by kernel_rfl) (by kernel_rfl) ?_
          refine Kw.pure (.int .u8 (sh k)) (by kernel_rfl) (by kernel_rfl) ?_
          refine Kw.pureS (Canon.opS .eql 5 (.tmp 77) (.const (.int .u8 66)) (.int .u8 (sh k)) (.int .u8 66)) (.bool false) (by kernel_rfl) (by kernel_rfl) (Kw.eqv (v := .bool ((sh k) == (66 : Int))) (by kernel_rfl) (congrArg Value.bool (beq_false_of_ne h66))) ?_
          refine Kw.pure (.bool false) (by kernel_rfl) (by kernel_rfl) ?_
          refine Kw.pure (.bool false) (by kernel_rfl) (by kernel_rfl) ?_
          refine Kw.pure (.int .u8 (sh k)) (by kernel_rfl) (by kernel_rfl) ?_
          refine Kw.pureS (Canon.opS .eql 5 (.tmp 81) (.const (.int .u8 78)) (.int .u8 (sh k)) (.int .u8 78)) (.bool false) (by kernel_rfl) (by kernel_rfl) (Kw.eqv (v := .bool ((sh k) == (78 : Int))) (by kernel_rfl) (congrArg Value.bool (beq_false_of_ne h78))) ?_
          refine Kw.pure (.bool false) (by kernel_rfl) (by kernel_rfl) ?_
          refine Kw.pure (.bool false) (by kernel_rfl) (by kernel_rfl) ?_
          refine Kw.skip (by kernel_rfl) ?_
          refine Kw.skip (by kernel_rfl) ?_
          refine Kw.skip (by kernel_rfl) ?_
          refine Kw.pure (.bool false) (by kernel_rfl) (by kernel_rfl) ?_
          refine Kw.pure (.bool false) (by kernel_rfl) (by kernel_rfl) ?_
          refine Kw.pure (.int .u8 (sh k)) (by kernel_rfl) (by kernel_rfl) ?_
          refine Kw.pureS (Canon.opS .eql 5 (.tmp 90) (.const (.int .u8 85)) (.int .u8 (sh k)) (.int .u8 85)) (.bool false) (by kernel_rfl) (by kernel_rfl) (Kw.eqv (v := .bool ((sh k) == (85 : Int))) (by kernel_rfl) (congrArg Value.bool (beq_false_of_ne h85))) ?_
          refine Kw.pure (.bool false) (by kernel_rfl) (by kernel_rfl) ?_
          refine Kw.pure (.int .u8 (sh k)) (by kernel_rfl) (by kernel_rfl) ?_
          refine Kw.pureS (Canon.opS .eql 5 (.tmp 93) (.const (.int .u8 74)) (.int .u8 (sh k)) (.int .u8 74)) (.bool false) (by kernel_rfl) (by kernel_rfl) (Kw.eqv (v := .bool ((sh k) == (74 : Int))) (by kernel_rfl) (congrArg Value.bool (beq_false_of_ne h74))) ?_
          refine Kw.pure (.bool false) (by kernel_rfl) (by kernel_rfl) ?_
          refine Kw.pure (.bool false) (by kernel_rfl) (by kernel_rfl) ?_
          refine Kw.pure (.int .u8 (sh k)) (by kernel_rfl) (by kernel_rfl) ?_
          refine Kw.pureS (Canon.opS .eql 5 (.tmp 97) (.const (.int .u8 78)) (.int .u8 (sh k)) (.int .u8 78)) (.bool false) (by kernel_rfl) (by kernel_rfl) (Kw.eqv (v := .bool ((sh k) == (78 : Int))) (by kernel_rfl) (congrArg Value.bool (beq_false_of_ne h78))) ?_
          refine Kw.pure (.bool false) (by kernel_rfl) (by kernel_rfl) ?_
          refine Kw.pure (.bool false) (by kernel_rfl) (by kernel_rfl) ?_
          refine Kw.skip (by kernel_rfl) ?_
          refine Kw.skip (by kernel_rfl) ?_
          refine Kw.skip (by kernel_rfl) ?_
          refine Kw.pure (.bool false) (by kernel_rfl) (by kernel_rfl) ?_
          refine Kw.pure (.bool false) (by kernel_rfl) (by kernel_rfl) ?_
          refine Kw.fin ?_
          refine Kw.then_normal ?_
          refine wp_cond_false (by kernel_rfl) ?_
          refine wp_skip ?_
          refine Kw.then_normal ?_
          refine wp_seq ?_
          refine Kw.region ?_
          refine Kw.pure (.int .u8 (sh k)) (by kernel_rfl) (by kernel_rfl) ?_
          refine Kw.pureS (Canon.opS .eql 5 (.tmp 106) (.const (.int .u8 85)) (.int .u8 (sh k)) (.int .u8 85)) (.bool false) (by kernel_rfl) (by kernel_rfl) (Kw.eqv (v := .bool ((sh k) == (85 : Int))) (by kernel_rfl) (congrArg Value.bool (beq_false_of_ne h85))) ?_
          refine Kw.pure (.bool false) (by kernel_rfl) (by kernel_rfl) ?_
          refine Kw.pure (.int .u8 (sh k)) (by kernel_rfl) (by kernel_rfl) ?_
          refine Kw.pureS (Canon.opS .eql 5 (.tmp 109) (.const (.int .u8 74)) (.int .u8 (sh k)) (.int .u8 74)) (.bool false) (by kernel_rfl) (by kernel_rfl) (Kw.eqv (v := .bool ((sh k) == (74 : Int))) (by kernel_rfl) (congrArg Value.bool (beq_false_of_ne h74))) ?_
          refine Kw.pure (.bool false) (by kernel_rfl) (by kernel_rfl) ?_
          refine Kw.pure (.bool false) (by kernel_rfl) (by kernel_rfl) ?_
          refine Kw.pure (.int .u8 (sh k)) (by kernel_rfl) (by kernel_rfl) ?_
          refine Kw.pureS (Canon.opS .eql 5 (.tmp 113) (.const (.int .u8 78)) (.int .u8 (sh k)) (.int .u8 78)) (.bool false) (by kernel_rfl) (by kernel_rfl) (Kw.eqv (v := .bool ((sh k) == (78 : Int))) (by kernel_rfl) (congrArg Value.bool (beq_false_of_ne h78))) ?_
          refine Kw.pure (.bool false) (by kernel_rfl) (by kernel_rfl) ?_
          refine Kw.pure (.bool false) (by kernel_rfl) (by kernel_rfl) ?_
          refine Kw.pure (.int .u32 (encN k rd rs1 rs2 imm)) (by kernel_rfl) (by kernel_rfl) ?_
          refine Kw.pure (.int .u32 (encN k rd j1 rs2 imm)) (by kernel_rfl) (by kernel_rfl) ?_
          refine Kw.pureS (Canon.opS .xor 37 (.tmp 117) (.tmp 118) (.int .u32 (encN k rd rs1 rs2 imm)) (.int .u32 (encN k rd j1 rs2 imm))) (.int .u32 (Go.bits .xor .u32 ((encN k rd rs1 rs2 imm)) ((encN k rd j1 rs2 imm)))) (by kernel_rfl) (by kernel_rfl) (by kernel_rfl) ?_
          refine Kw.pure (.pointer (some ⟨B1, 2, none⟩)) (by kernel_rfl) (by kernel_rfl) ?_
          refine Kw.pureS (Canon.ldS 3 (.pointer (some ⟨B1, 2, none⟩))) (.int .i64 (s rs1)) (by kernel_rfl) (by kernel_rfl) (Kw.ld_cell 3 2 (.int .i64 (s rs1)) (M23.get 2 rfl) (by kernel_rfl) _ Try.underlying3 rfl) ?_
          refine Kw.pure (.pointer (some ⟨B2, 2, none⟩)) (by kernel_rfl) (by kernel_rfl) ?_
          refine Kw.pureS (Canon.ldS 3 (.pointer (some ⟨B2, 2, none⟩))) (.int .i64 (s j1)) (by kernel_rfl) (by kernel_rfl) (Kw.ld_cell 3 2 (.int .i64 (s j1)) (M23.get 1 rfl) (by kernel_rfl) _ Try.underlying3 rfl) ?_
          refine Kw.pureS (Canon.opS .xor 3 (.tmp 121) (.tmp 123) (.int .i64 (s rs1)) (.int .i64 (s j1))) (.int .i64 (Go.bits .xor .i64 ((s rs1)) ((s j1)))) (by kernel_rfl) (by kernel_rfl) (by kernel_rfl) ?_
          refine Kw.pure (.int .u32 (IntKind.u32.wrap (Go.bits .xor .i64 ((s rs1)) ((s j1))))) (by kernel_rfl) (by kernel_rfl) ?_
          refine Kw.pureS (Canon.opS .shl 37 (.tmp 125) (.const (.int .u64 15)) (.int .u32 (IntKind.u32.wrap (Go.bits .xor .i64 ((s rs1)) ((s j1))))) (.int .u64 15)) (.int .u32 (IntKind.u32.wrap ((IntKind.u32.wrap (Go.bits .xor .i64 ((s rs1)) ((s j1)))) * 2 ^ 15))) (by kernel_rfl) (by kernel_rfl) (by kernel_rfl) ?_
          refine Kw.pureS (Canon.opS .eql 37 (.tmp 119) (.tmp 126) (.int .u32 (Go.bits .xor .u32 ((encN k rd rs1 rs2 imm)) ((encN k rd j1 rs2 imm)))) (.int .u32 (IntKind.u32.wrap ((IntKind.u32.wrap (Go.bits .xor .i64 ((s rs1)) ((s j1)))) * 2 ^ 15)))) (.bool true) (by kernel_rfl) (by kernel_rfl) (Kw.eqv (v := .bool ((Go.bits .xor .u32 ((encN k rd rs1 rs2 imm)) ((encN k rd j1 rs2 imm))) == (IntKind.u32.wrap ((IntKind.u32.wrap (Go.bits .xor .i64 ((s rs1)) ((s j1)))) * 2 ^ 15)))) (by kernel_rfl) (congrArg Value.bool (rs_diff k hk h85 h74 h78 rd rs1 rs2 imm j1 h14 h22))) ?_
          refine Kw.pure (.bool true) (by kernel_rfl) (by kernel_rfl) ?_
          refine Kw.pure (.bool true) (by kernel_rfl) (by kernel_rfl) ?_
          refine Kw.call (.bool true) 29 #[] M23 (by kernel_rfl) (by kernel_rfl) (one_c w23) fun w31 M31 => ?_
          refine Kw.pure (.bool true) (by kernel_rfl) (by kernel_rfl) ?_
          refine Kw.pure (.bool true) (by kernel_rfl) (by kernel_rfl) ?_
          refine Kw.fin ?_
          refine Kw.then_normal ?_
          refine wp_ret ?_
          exact bodyPost_ret (v := .bool true) (by kernel_rfl) (by kernel_rfl) ⟨rfl, M31.drop⟩
set_option maxRecDepth 100000 in
theorem fields_out (z : Int) (hz : z < 1 ∨ 69 < z) (rd rs1 rs2 imm jo jd j1 j2 jm : BitVec 64) (W : World) : Calls Try.prog 9 #[.agg #[.int .i64 z, .int .i64 (s rd), .int .i64 (s rs1), .int .i64 (s rs2), .int .i64 (s imm)], .agg #[.int .i64 (s jo), .int .i64 (s jd), .int .i64 (s j1), .int .i64 (s j2), .int .i64 (s jm)]] W fun e W' => e = .returned (.bool true) ∧ Kw.Mem [] W W' [] := by
  refine calls_of_wp Try.func9 rfl ?_
  have M0 : Kw.Mem [] W W [] := Kw.Mem.start _ _
  refine Kw.to (b := ⟨#[.agg #[.int .i64 z, .int .i64 (s rd), .int .i64 (s rs1), .int .i64 (s rs2), .int .i64 (s imm)], .agg #[.int .i64 (s jo), .int .i64 (s jd), .int .i64 (s j1), .int .i64 (s j2), .int .i64 (s jm)], undef, undef, undef, undef, undef, undef, undef, undef, undef, undef, undef, undef, undef, undef, undef, undef, undef, undef, undef, undef, undef, undef, undef, undef, undef, undef, undef, undef, undef, undef, undef, undef, undef, undef, undef, undef, undef, undef, undef, undef, undef, undef, undef, undef, undef, undef, undef, undef, undef, undef, undef, undef, undef, undef, undef, undef, undef, undef, undef, undef, undef, undef, undef, undef, undef, undef, undef, undef, undef, undef, undef, undef, undef, undef, undef, undef, undef, undef, undef, undef, undef, undef, undef, undef, undef, undef, undef, undef, undef, undef, undef, undef, undef, undef, undef, undef, undef, undef, undef, undef, undef, undef, undef, undef, undef, undef, undef, undef, undef, undef, undef, undef, undef, undef, undef, undef, undef, undef, undef, undef, undef, undef, undef, undef, undef, undef, undef, undef, undef, undef], []⟩) (by kernel_rfl) ?_
  refine wp_seq ?_
  refine Kw.region ?_
  refine Kw.alloc #[.int .i64 z, .int .i64 (s rd), .int .i64 (s rs1), .int .i64 (s rs2), .int .i64 (s imm)] 36 M0 (by kernel_rfl) (by kernel_rfl) fun w1 B1 M1 => ?_
  refine Kw.alloc #[.int .i64 (s jo), .int .i64 (s jd), .int .i64 (s j1), .int .i64 (s j2), .int .i64 (s jm)] 36 M1 (by kernel_rfl) (by kernel_rfl) fun w2 B2 M2 => ?_
  refine Kw.pure (.bool false) (by kernel_rfl) (by kernel_rfl) ?_
  refine Kw.fin ?_
  refine Kw.then_normal ?_
  refine wp_seq ?_
  refine Kw.region ?_
  refine Kw.pureS (Canon.ldS 36 (.pointer (some ⟨B1, 0, none⟩))) (.agg #[.int .i64 z, .int .i64 (s rd), .int .i64 (s rs1), .int .i64 (s rs2), .int .i64 (s imm)]) (by kernel_rfl) (by kernel_rfl) (Kw.ld_all 36 (M2.get 1 rfl) _ Try.underlying36 rfl (by kernel_rfl)) ?_
  refine Kw.call (.tuple #[.int .u32 0, .bool false]) 25 #[.agg #[.int .i64 z, .int .i64 (s rd), .int .i64 (s rs1), .int .i64 (s rs2), .int .i64 (s imm)]] M2 (by kernel_rfl) (by kernel_rfl) (encode_no z hz rd rs1 rs2 imm w2) fun w3 M3 => ?_
  refine Kw.pure (.tuple #[.int .u32 0, .bool false]) (by kernel_rfl) (by kernel_rfl) ?_
  refine Kw.pure (.int .u32 0) (by kernel_rfl) (by kernel_rfl) ?_
  refine Kw.pure (.bool false) (by kernel_rfl) (by kernel_rfl) ?_
  refine Kw.pure (.int .u32 0) (by kernel_rfl) (by kernel_rfl) ?_
  refine Kw.pure (.bool false) (by kernel_rfl) (by kernel_rfl) ?_
  refine Kw.fin ?_
  refine Kw.then_normal ?_
  refine wp_seq ?_
  refine Kw.region ?_
  refine Kw.pureS (Canon.ldS 36 (.pointer (some ⟨B1, 0, none⟩))) (.agg #[.int .i64 z, .int .i64 (s rd), .int .i64 (s rs1), .int .i64 (s rs2), .int .i64 (s imm)]) (by kernel_rfl) (by kernel_rfl) (Kw.ld_all 36 (M3.get 1 rfl) _ Try.underlying36 rfl (by kernel_rfl)) ?_
  refine Kw.alloc #[.int .i64 0, .int .i64 0, .int .i64 0, .int .i64 0, .int .i64 0] 36 M3 (by kernel_rfl) (by kernel_rfl) fun w4 B4 M4 => ?_
  refine Kw.storeAll 0 36 #[.int .i64 z, .int .i64 (s rd), .int .i64 (s rs1), .int .i64 (s rs2), .int .i64 (s imm)] M4 rfl (by kernel_rfl) (by kernel_rfl) (Eq.trans (b := 5) (by kernel_rfl) (by kernel_rfl)) (by kernel_rfl) (by kernel_rfl) fun w5 M5 => ?_
  refine Kw.fin ?_
  refine Kw.then_normal ?_
  refine wp_seq ?_
  refine Kw.region ?_
  refine Kw.pure (.pointer (some ⟨B2, 1, none⟩)) (by kernel_rfl) (by kernel_rfl) ?_
  refine Kw.pureS (Canon.ldS 3 (.pointer (some ⟨B2, 1, none⟩))) (.int .i64 (s jd)) (by kernel_rfl) (by kernel_rfl) (Kw.ld_cell 3 1 (.int .i64 (s jd)) (M5.get 1 rfl) (by kernel_rfl) _ Try.underlying3 rfl) ?_
  refine Kw.pure (.pointer (some ⟨B4, 1, none⟩)) (by kernel_rfl) (by kernel_rfl) ?_
  refine Kw.storeCell 0 3 1 (.int .i64 (s jd)) #[.int .i64 z, .int .i64 (s jd), .int .i64 (s rs1), .int .i64 (s rs2), .int .i64 (s imm)] M5 rfl (by kernel_rfl) (by kernel_rfl) (show 1 < 5 from by decide) (by kernel_rfl) rfl (by kernel_rfl) (by kernel_rfl) fun w6 M6 => ?_
  refine Kw.fin ?_
  refine Kw.then_normal ?_
  refine wp_seq ?_
  refine Kw.region ?_
  refine Kw.pureS (Canon.ldS 36 (.pointer (some ⟨B4, 0, none⟩))) (.agg #[.int .i64 z, .int .i64 (s jd), .int .i64 (s rs1), .int .i64 (s rs2), .int .i64 (s imm)]) (by kernel_rfl) (by kernel_rfl) (Kw.ld_all 36 (M6.get 0 rfl) _ Try.underlying36 rfl (by kernel_rfl)) ?_
  refine Kw.call (.tuple #[.int .u32 0, .bool false]) 25 #[.agg #[.int .i64 z, .int .i64 (s jd), .int .i64 (s rs1), .int .i64 (s rs2), .int .i64 (s imm)]] M6 (by kernel_rfl) (by kernel_rfl) (encode_no z hz jd rs1 rs2 imm w6) fun w7 M7 => ?_
  refine Kw.pure (.tuple #[.int .u32 0, .bool false]) (by kernel_rfl) (by kernel_rfl) ?_
  refine Kw.pure (.int .u32 0) (by kernel_rfl) (by kernel_rfl) ?_
  refine Kw.pure (.bool false) (by kernel_rfl) (by kernel_rfl) ?_
  refine Kw.pure (.int .u32 0) (by kernel_rfl) (by kernel_rfl) ?_
  refine Kw.pure (.bool false) (by kernel_rfl) (by kernel_rfl) ?_
  refine Kw.fin ?_
  refine Kw.then_normal ?_
  refine wp_seq ?_
  refine Kw.region ?_
  refine Kw.pureS (Canon.ldS 36 (.pointer (some ⟨B1, 0, none⟩))) (.agg #[.int .i64 z, .int .i64 (s rd), .int .i64 (s rs1), .int .i64 (s rs2), .int .i64 (s imm)]) (by kernel_rfl) (by kernel_rfl) (Kw.ld_all 36 (M7.get 2 rfl) _ Try.underlying36 rfl (by kernel_rfl)) ?_
  refine Kw.storeAll 0 36 #[.int .i64 z, .int .i64 (s rd), .int .i64 (s rs1), .int .i64 (s rs2), .int .i64 (s imm)] M7 rfl (by kernel_rfl) (by kernel_rfl) (Eq.trans (b := 5) (by kernel_rfl) (by kernel_rfl)) (by kernel_rfl) (by kernel_rfl) fun w8 M8 => ?_
  refine Kw.fin ?_
  refine Kw.then_normal ?_
  refine wp_seq ?_
  refine Kw.region ?_
  refine Kw.pure (.pointer (some ⟨B2, 2, none⟩)) (by kernel_rfl) (by kernel_rfl) ?_
  refine Kw.pureS (Canon.ldS 3 (.pointer (some ⟨B2, 2, none⟩))) (.int .i64 (s j1)) (by kernel_rfl) (by kernel_rfl) (Kw.ld_cell 3 2 (.int .i64 (s j1)) (M8.get 1 rfl) (by kernel_rfl) _ Try.underlying3 rfl) ?_
  refine Kw.pure (.pointer (some ⟨B4, 2, none⟩)) (by kernel_rfl) (by kernel_rfl) ?_
  refine Kw.storeCell 0 3 2 (.int .i64 (s j1)) #[.int .i64 z, .int .i64 (s rd), .int .i64 (s j1), .int .i64 (s rs2), .int .i64 (s imm)] M8 rfl (by kernel_rfl) (by kernel_rfl) (show 2 < 5 from by decide) (by kernel_rfl) rfl (by kernel_rfl) (by kernel_rfl) fun w9 M9 => ?_
  refine Kw.fin ?_
  refine Kw.then_normal ?_
  refine wp_seq ?_
  refine Kw.region ?_
  refine Kw.pureS (Canon.ldS 36 (.pointer (some ⟨B4, 0, none⟩))) (.agg #[.int .i64 z, .int .i64 (s rd), .int .i64 (s j1), .int .i64 (s rs2), .int .i64 (s imm)]) (by kernel_rfl) (by kernel_rfl) (Kw.ld_all 36 (M9.get 0 rfl) _ Try.underlying36 rfl (by kernel_rfl)) ?_
  refine Kw.call (.tuple #[.int .u32 0, .bool false]) 25 #[.agg #[.int .i64 z, .int .i64 (s rd), .int .i64 (s j1), .int .i64 (s rs2), .int .i64 (s imm)]] M9 (by kernel_rfl) (by kernel_rfl) (encode_no z hz rd j1 rs2 imm w9) fun w10 M10 => ?_
  refine Kw.pure (.tuple #[.int .u32 0, .bool false]) (by kernel_rfl) (by kernel_rfl) ?_
  refine Kw.pure (.int .u32 0) (by kernel_rfl) (by kernel_rfl) ?_
  refine Kw.pure (.bool false) (by kernel_rfl) (by kernel_rfl) ?_
  refine Kw.pure (.int .u32 0) (by kernel_rfl) (by kernel_rfl) ?_
  refine Kw.pure (.bool false) (by kernel_rfl) (by kernel_rfl) ?_
  refine Kw.fin ?_
  refine Kw.then_normal ?_
  refine wp_seq ?_
  refine wp_seq ?_
  refine Kw.region ?_
  refine Kw.pure (.bool false) (by kernel_rfl) (by kernel_rfl) ?_
  refine Kw.pure (.bool true) (by kernel_rfl) (by kernel_rfl) ?_
  refine Kw.pure (.bool true) (by kernel_rfl) (by kernel_rfl) ?_
  refine Kw.skip (by kernel_rfl) ?_
  refine Kw.skip (by kernel_rfl) ?_
  refine Kw.pure (.bool true) (by kernel_rfl) (by kernel_rfl) ?_
  refine Kw.pure (.bool true) (by kernel_rfl) (by kernel_rfl) ?_
  refine Kw.skip (by kernel_rfl) ?_
  refine Kw.skip (by kernel_rfl) ?_
  refine Kw.pure (.bool true) (by kernel_rfl) (by kernel_rfl) ?_
  refine Kw.fin ?_
  refine Kw.then_normal ?_
  refine wp_cond_true (by kernel_rfl) ?_
  refine wp_seq ?_
  refine Kw.region ?_
  refine Kw.call (.bool true) 29 #[] M10 (by kernel_rfl) (by kernel_rfl) (one_c w10) fun w11 M11 => ?_
  refine Kw.pure (.bool true) (by kernel_rfl) (by kernel_rfl) ?_
  refine Kw.fin ?_
  refine Kw.then_normal ?_
  refine wp_ret ?_
  refine Kw.then_ret ?_
  exact bodyPost_ret (v := .bool true) (by kernel_rfl) (by kernel_rfl) ⟨rfl, M11.drop⟩
end Go.Proofs.Ytpmpibcfmejbfaa.Inst
