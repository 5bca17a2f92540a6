/- Any instruction has the document's word, or none; any word is its instruction, or none: the walk. No condition. -/
import Derived.Test.YtpmpibcfmejbfaaInstRefD
import Derived.Test.YtpmpibcfmejbfaaInstEncT
import Derived.Test.YtpmpibcfmejbfaaInstUse
import Derived.Test.YtpmpibcfmejbfaaKS
namespace Go.Proofs.Ytpmpibcfmejbfaa.Inst
open Go.RowKit Go.Proofs.Ytpmpibcfmejbfaa.KEq Go.Proofs.Ytpmpibcfmejbfaa.Bits
attribute [local irreducible] Go.wpList
set_option linter.unusedVariables false
theorem encN_no {k : Nat} {rd rs1 rs2 imm : BitVec 64} (h : okB k rd rs1 rs2 imm = false) : encN k rd rs1 rs2 imm = 0 := if_neg (by rw [h]; exact Bool.false_ne_true)
theorem rdec_y (x : BitVec 64) (k : Nat) (h : decN x = some k) (xx : ∀ i, 32 ≤ i → i < 64 → x.getLsbD i = false) (W : World) : Calls Try.prog 28 #[.int .u32 (u x)] W fun e W' => e = .returned (.tuple #[.agg #[.int .i64 ((k + 1 : Nat) : Int), .int .i64 (s (rdK k x)), .int .i64 (s (rs1K k x)), .int .i64 (s (rs2K k x)), .int .i64 (s (immK k x))], .bool true]) ∧ Kw.Mem [] W W' [] := by
  have hd := rdec_c x xx W
  rw [decV_at x k (decN_some h).1 h] at hd
  exact hd
theorem rdec_n (x : BitVec 64) (h : decN x = none) (xx : ∀ i, 32 ≤ i → i < 64 → x.getLsbD i = false) (W : World) : Calls Try.prog 28 #[.int .u32 (u x)] W fun e W' => e = .returned (.tuple #[.agg #[.int .i64 0, .int .i64 0, .int .i64 0, .int .i64 0, .int .i64 0], .bool false]) ∧ Kw.Mem [] W W' [] := by
  have hd := rdec_c x xx W
  unfold decV at hd
  rw [h] at hd
  exact hd
theorem eqA41 (d : Nat) (w : World) (x0 y0 x1 y1 x2 y2 x3 y3 x4 y4 : Int) :
    (Op.equalIn (d + 2) 41 (.agg #[.int .i64 x0, .int .i64 x1, .int .i64 x2, .int .i64 x3, .int .i64 x4]) (.agg #[.int .i64 y0, .int .i64 y1, .int .i64 y2, .int .i64 y3, .int .i64 y4])).run Try.prog w = .ok (x0 == y0 && (x1 == y1 && (x2 == y2 && (x3 == y3 && (x4 == y4))))) w := by
  refine eqA_of Try.underlying41 (by kernel_rfl) ?_
  refine eqf_cons (by rfl) (by go_simp; rfl) (by go_simp; rfl) (by go_simp) ?_
  refine eqf_cons (by rfl) (by go_simp; rfl) (by go_simp; rfl) (by go_simp) ?_
  refine eqf_cons (by rfl) (by go_simp; rfl) (by go_simp; rfl) (by go_simp) ?_
  refine eqf_cons (by rfl) (by go_simp; rfl) (by go_simp; rfl) (by go_simp) ?_
  exact eqf_last (by rfl) (by go_simp; rfl) (by go_simp; rfl) (by go_simp)
theorem agg_eql41 (X Y : Operand) (w : World) (x0 x1 x2 x3 x4 y0 y1 y2 y3 y4 : Int) :
    (Canon.opS .eql 41 X Y (.agg #[.int .i64 x0, .int .i64 x1, .int .i64 x2, .int .i64 x3, .int .i64 x4]) (.agg #[.int .i64 y0, .int .i64 y1, .int .i64 y2, .int .i64 y3, .int .i64 y4])).run Try.prog w = .ok (.value (.bool (sameB x0 x1 x2 x3 x4 y0 y1 y2 y3 y4))) w := by
  have h := eqA41 9998 w x0 y0 x1 y1 x2 y2 x3 y3 x4 y4
  have g : (eqGuard .eql 41 X Y (.agg #[.int .i64 x0, .int .i64 x1, .int .i64 x2, .int .i64 x3, .int .i64 x4]) (.agg #[.int .i64 y0, .int .i64 y1, .int .i64 y2, .int .i64 y3, .int .i64 y4])).run Try.prog w = .ok () w := by kernel_rfl
  unfold Canon.opS
  simp only [Sem.run_bind, g, Result.andThen_ok, binOp, Op.equal, Op.maxDepth, h, sameB]
  rfl
set_option maxRecDepth 100000 in
theorem codes_in (k : Nat) (hk : k < 69) (rd rs1 rs2 imm x : BitVec 64) (xx : ∀ i, 32 ≤ i → i < 64 → x.getLsbD i = false) (W : World) : Calls Try.prog 8 #[.agg #[.int .i64 ((k + 1 : Nat) : Int), .int .i64 (s rd), .int .i64 (s rs1), .int .i64 (s rs2), .int .i64 (s imm)], .int .u32 (u x)] W fun e W' => e = .returned (.bool true) ∧ Kw.Mem [] W W' [] := by
  refine calls_of_wp Try.func8 rfl ?_
  have M0 : Kw.Mem [] W W [] := Kw.Mem.start _ _
  refine Kw.to (b := ⟨#[.agg #[.int .i64 ((k + 1 : Nat) : Int), .int .i64 (s rd), .int .i64 (s rs1), .int .i64 (s rs2), .int .i64 (s imm)], .int .u32 (u x), undef, undef, undef, undef, undef, undef, undef, undef, undef, undef, undef, undef, undef, undef, undef, undef, undef, undef, undef, undef, undef, undef, undef, undef, undef, undef, undef, undef, undef, undef, undef, undef, undef, undef, undef, undef, undef, undef, undef, undef, undef, undef, undef, undef, undef, undef, undef, undef, undef, undef, undef, undef, undef, undef], []⟩) (by kernel_rfl) ?_
  refine wp_seq (Kw.region ?_)
  refine Kw.alloc #[.int .i64 ((k + 1 : Nat) : Int), .int .i64 (s rd), .int .i64 (s rs1), .int .i64 (s rs2), .int .i64 (s imm)] 36 M0 (by kernel_rfl) (by kernel_rfl) fun w1 B1 M1 => ?_
  refine KS.p (.bool false) ?_
  refine KS.n4 ?_
  refine KS.la 36 B1 _ M1 0 Try.underlying36 ?_
  refine KS.c (.tuple #[.int .u32 (encN k rd rs1 rs2 imm), .bool (okB k rd rs1 rs2 imm)]) 25 #[.agg #[.int .i64 ((k + 1 : Nat) : Int), .int .i64 (s rd), .int .i64 (s rs1), .int .i64 (s rs2), .int .i64 (s imm)]] M1 (encode_t k hk rd rs1 rs2 imm w1) fun w2 M2 => ?_
  refine KS.p (.tuple #[.int .u32 (encN k rd rs1 rs2 imm), .bool (okB k rd rs1 rs2 imm)]) ?_
  refine KS.p (.int .u32 (encN k rd rs1 rs2 imm)) ?_
  refine KS.p (.bool (okB k rd rs1 rs2 imm)) ?_
  refine KS.p (.int .u32 (encN k rd rs1 rs2 imm)) ?_
  refine KS.p (.bool (okB k rd rs1 rs2 imm)) ?_
  refine KS.n4 ?_
  refine KS.la 36 B1 _ M2 0 Try.underlying36 ?_
  refine KS.c (.tuple #[.int .u32 (u (wordK k rd rs1 rs2 imm &&& 4294967295#64)), .bool (okB k rd rs1 rs2 imm)]) 26 #[.agg #[.int .i64 ((k + 1 : Nat) : Int), .int .i64 (s rd), .int .i64 (s rs1), .int .i64 (s rs2), .int .i64 (s imm)]] M2 (renc_t k hk rd rs1 rs2 imm w2) fun w3 M3 => ?_
  refine KS.p (.tuple #[.int .u32 (u (wordK k rd rs1 rs2 imm &&& 4294967295#64)), .bool (okB k rd rs1 rs2 imm)]) ?_
  refine KS.p (.int .u32 (u (wordK k rd rs1 rs2 imm &&& 4294967295#64))) ?_
  refine KS.p (.bool (okB k rd rs1 rs2 imm)) ?_
  refine KS.p (.int .u32 (u (wordK k rd rs1 rs2 imm &&& 4294967295#64))) ?_
  refine KS.p (.bool (okB k rd rs1 rs2 imm)) ?_
  refine KS.n5 ?_
  refine KS.p (.bool (okB k rd rs1 rs2 imm)) ?_
  refine KS.p (.bool (!(okB k rd rs1 rs2 imm))) ?_
  refine KS.n2 ?_
  refine wp_cond_split (t := (!(okB k rd rs1 rs2 imm))) (by kernel_rfl) (fun h4 => ?_) (fun h4 => ?_)
  · skip
    have h5 : (okB k rd rs1 rs2 imm) = false := Kw.not_true h4
    refine Kw.region ?_
    refine KS.p (.int .u32 0) ?_
    refine Kw.fin (Kw.then_normal (wp_seq ?_))
    rcases hb : decN x with _ | kb
    · skip
      refine Kw.region ?_
      refine KS.p (.int .u32 (u x)) ?_
      refine KS.c (.tuple #[.agg #[.int .i64 0, .int .i64 0, .int .i64 0, .int .i64 0, .int .i64 0], .bool false]) 27 #[.int .u32 (u x)] M3 (decode_n x hb w3) fun w6 M6 => ?_
      refine KS.p (.tuple #[.agg #[.int .i64 0, .int .i64 0, .int .i64 0, .int .i64 0, .int .i64 0], .bool false]) ?_
      refine KS.p (.agg #[.int .i64 0, .int .i64 0, .int .i64 0, .int .i64 0, .int .i64 0]) ?_
      refine KS.p (.bool false) ?_
      refine Kw.alloc #[.int .i64 0, .int .i64 0, .int .i64 0, .int .i64 0, .int .i64 0] 36 M6 (by kernel_rfl) (by kernel_rfl) fun w7 B7 M7 => ?_
      refine Kw.storeAll 0 36 #[.int .i64 0, .int .i64 0, .int .i64 0, .int .i64 0, .int .i64 0] M7 rfl (by kernel_rfl) (by kernel_rfl) rfl (by kernel_rfl) (by kernel_rfl) fun w8 M8 => ?_
      refine KS.p (.bool false) ?_
      refine KS.n4 ?_
      refine KS.p (.int .u32 (u x)) ?_
      refine KS.c (.tuple #[.agg #[.int .i64 0, .int .i64 0, .int .i64 0, .int .i64 0, .int .i64 0], .bool false]) 28 #[.int .u32 (u x)] M8 (rdec_n x hb xx w8) fun w9 M9 => ?_
      refine KS.p (.tuple #[.agg #[.int .i64 0, .int .i64 0, .int .i64 0, .int .i64 0, .int .i64 0], .bool false]) ?_
      refine KS.p (.agg #[.int .i64 0, .int .i64 0, .int .i64 0, .int .i64 0, .int .i64 0]) ?_
      refine KS.p (.bool false) ?_
      refine Kw.alloc #[.int .i64 0, .int .i64 0, .int .i64 0, .int .i64 0, .int .i64 0] 41 M9 (by kernel_rfl) (by kernel_rfl) fun w10 B10 M10 => ?_
      refine Kw.storeAll 0 41 #[.int .i64 0, .int .i64 0, .int .i64 0, .int .i64 0, .int .i64 0] M10 rfl (by kernel_rfl) (by kernel_rfl) rfl (by kernel_rfl) (by kernel_rfl) fun w11 M11 => ?_
      refine KS.p (.bool false) ?_
      refine KS.n4 ?_
      refine KS.p (.int .u32 (encN k rd rs1 rs2 imm)) ?_
      refine KS.p (.int .u32 0) ?_
      refine Kw.pure (.bool true) (by kernel_rfl) (Kw.eqv (v := .bool ((encN k rd rs1 rs2 imm) == (0 : Int))) (by kernel_rfl) (congrArg Value.bool (by rw [encN_no h5]; exact beq_self_eq_true _))) ?_
      refine KS.p (.bool true) ?_
      refine Kw.pure (.bool false) (by kernel_rfl) (Kw.eqv (v := .bool (okB k rd rs1 rs2 imm)) (by kernel_rfl) (congrArg Value.bool (h5))) ?_
      refine Kw.pure (.bool false) (by kernel_rfl) (Kw.eqv (v := .bool (okB k rd rs1 rs2 imm)) (by kernel_rfl) (congrArg Value.bool (h5))) ?_
      refine KS.p (.bool true) ?_
      refine KS.p (.bool true) ?_
      refine KS.p (.bool true) ?_
      refine KS.la 36 B7 _ M11 1 Try.underlying36 ?_
      refine KS.la 41 B10 _ M11 0 Try.underlying41 ?_
      refine KS.s (Canon.opS .eql 41 (.tmp 44) (.tmp 45) (.agg #[.int .i64 0, .int .i64 0, .int .i64 0, .int .i64 0, .int .i64 0]) (.agg #[.int .i64 0, .int .i64 0, .int .i64 0, .int .i64 0, .int .i64 0])) (.bool true) (Kw.eqv (agg_eql41 _ _ w11 _ _ _ _ _ _ _ _ _ _) (by simp [sameB])) ?_
      refine KS.p (.bool true) ?_
      refine KS.p (.bool true) ?_
      refine KS.p (.bool false) ?_
      refine KS.p (.bool false) ?_
      refine KS.p (.bool true) ?_
      refine KS.p (.bool true) ?_
      refine KS.p (.bool true) ?_
      refine KS.c (.bool true) 29 #[] M11 (one_c w11) fun w12 M12 => ?_
      refine KS.p (.bool true) ?_
      refine KS.p (.bool true) ?_
      refine Kw.fin (Kw.then_normal (wp_ret ?_))
      exact bodyPost_ret (v := .bool true) (by kernel_rfl) (by kernel_rfl) ⟨rfl, M12.drop⟩
    · skip
      refine Kw.region ?_
      refine KS.p (.int .u32 (u x)) ?_
      refine KS.c (.tuple #[.agg #[.int .i64 ((kb + 1 : Nat) : Int), .int .i64 (s (rdK kb x)), .int .i64 (s (rs1K kb x)), .int .i64 (s (rs2K kb x)), .int .i64 (s (immK kb x))], .bool true]) 27 #[.int .u32 (u x)] M3 (decode_y x kb hb w3) fun w13 M13 => ?_
      refine KS.p (.tuple #[.agg #[.int .i64 ((kb + 1 : Nat) : Int), .int .i64 (s (rdK kb x)), .int .i64 (s (rs1K kb x)), .int .i64 (s (rs2K kb x)), .int .i64 (s (immK kb x))], .bool true]) ?_
      refine KS.p (.agg #[.int .i64 ((kb + 1 : Nat) : Int), .int .i64 (s (rdK kb x)), .int .i64 (s (rs1K kb x)), .int .i64 (s (rs2K kb x)), .int .i64 (s (immK kb x))]) ?_
      refine KS.p (.bool true) ?_
      refine Kw.alloc #[.int .i64 0, .int .i64 0, .int .i64 0, .int .i64 0, .int .i64 0] 36 M13 (by kernel_rfl) (by kernel_rfl) fun w14 B14 M14 => ?_
      refine Kw.storeAll 0 36 #[.int .i64 ((kb + 1 : Nat) : Int), .int .i64 (s (rdK kb x)), .int .i64 (s (rs1K kb x)), .int .i64 (s (rs2K kb x)), .int .i64 (s (immK kb x))] M14 rfl (by kernel_rfl) (by kernel_rfl) (Eq.trans (b := 5) (by kernel_rfl) (by kernel_rfl)) (by kernel_rfl) (by kernel_rfl) fun w15 M15 => ?_
      refine KS.p (.bool true) ?_
      refine KS.n4 ?_
      refine KS.p (.int .u32 (u x)) ?_
      refine KS.c (.tuple #[.agg #[.int .i64 ((kb + 1 : Nat) : Int), .int .i64 (s (rdK kb x)), .int .i64 (s (rs1K kb x)), .int .i64 (s (rs2K kb x)), .int .i64 (s (immK kb x))], .bool true]) 28 #[.int .u32 (u x)] M15 (rdec_y x kb hb xx w15) fun w16 M16 => ?_
      refine KS.p (.tuple #[.agg #[.int .i64 ((kb + 1 : Nat) : Int), .int .i64 (s (rdK kb x)), .int .i64 (s (rs1K kb x)), .int .i64 (s (rs2K kb x)), .int .i64 (s (immK kb x))], .bool true]) ?_
      refine KS.p (.agg #[.int .i64 ((kb + 1 : Nat) : Int), .int .i64 (s (rdK kb x)), .int .i64 (s (rs1K kb x)), .int .i64 (s (rs2K kb x)), .int .i64 (s (immK kb x))]) ?_
      refine KS.p (.bool true) ?_
      refine Kw.alloc #[.int .i64 0, .int .i64 0, .int .i64 0, .int .i64 0, .int .i64 0] 41 M16 (by kernel_rfl) (by kernel_rfl) fun w17 B17 M17 => ?_
      refine Kw.storeAll 0 41 #[.int .i64 ((kb + 1 : Nat) : Int), .int .i64 (s (rdK kb x)), .int .i64 (s (rs1K kb x)), .int .i64 (s (rs2K kb x)), .int .i64 (s (immK kb x))] M17 rfl (by kernel_rfl) (by kernel_rfl) (Eq.trans (b := 5) (by kernel_rfl) (by kernel_rfl)) (by kernel_rfl) (by kernel_rfl) fun w18 M18 => ?_
      refine KS.p (.bool true) ?_
      refine KS.n4 ?_
      refine KS.p (.int .u32 (encN k rd rs1 rs2 imm)) ?_
      refine KS.p (.int .u32 0) ?_
      refine Kw.pure (.bool true) (by kernel_rfl) (Kw.eqv (v := .bool ((encN k rd rs1 rs2 imm) == (0 : Int))) (by kernel_rfl) (congrArg Value.bool (by rw [encN_no h5]; exact beq_self_eq_true _))) ?_
      refine KS.p (.bool true) ?_
      refine Kw.pure (.bool false) (by kernel_rfl) (Kw.eqv (v := .bool (okB k rd rs1 rs2 imm)) (by kernel_rfl) (congrArg Value.bool (h5))) ?_
      refine Kw.pure (.bool false) (by kernel_rfl) (Kw.eqv (v := .bool (okB k rd rs1 rs2 imm)) (by kernel_rfl) (congrArg Value.bool (h5))) ?_
      refine KS.p (.bool true) ?_
      refine KS.p (.bool true) ?_
      refine KS.p (.bool true) ?_
      refine KS.la 36 B14 _ M18 1 Try.underlying36 ?_
      refine KS.la 41 B17 _ M18 0 Try.underlying41 ?_
      refine KS.s (Canon.opS .eql 41 (.tmp 44) (.tmp 45) (.agg #[.int .i64 ((kb + 1 : Nat) : Int), .int .i64 (s (rdK kb x)), .int .i64 (s (rs1K kb x)), .int .i64 (s (rs2K kb x)), .int .i64 (s (immK kb x))]) (.agg #[.int .i64 ((kb + 1 : Nat) : Int), .int .i64 (s (rdK kb x)), .int .i64 (s (rs1K kb x)), .int .i64 (s (rs2K kb x)), .int .i64 (s (immK kb x))])) (.bool true) (Kw.eqv (agg_eql41 _ _ w18 _ _ _ _ _ _ _ _ _ _) (by simp [sameB])) ?_
      refine KS.p (.bool true) ?_
      refine KS.p (.bool true) ?_
      refine KS.p (.bool true) ?_
      refine KS.p (.bool true) ?_
      refine KS.p (.bool true) ?_
      refine KS.p (.bool true) ?_
      refine KS.p (.bool true) ?_
      refine KS.c (.bool true) 29 #[] M18 (one_c w18) fun w19 M19 => ?_
      refine KS.p (.bool true) ?_
      refine KS.p (.bool true) ?_
      refine Kw.fin (Kw.then_normal (wp_ret ?_))
      exact bodyPost_ret (v := .bool true) (by kernel_rfl) (by kernel_rfl) ⟨rfl, M19.drop⟩
  · skip
    have h20 : (okB k rd rs1 rs2 imm) = true := Kw.not_false h4
    refine wp_skip (Kw.then_normal (wp_seq ?_))
    rcases hb : decN x with _ | kb
    · skip
      refine Kw.region ?_
      refine KS.p (.int .u32 (u x)) ?_
      refine KS.c (.tuple #[.agg #[.int .i64 0, .int .i64 0, .int .i64 0, .int .i64 0, .int .i64 0], .bool false]) 27 #[.int .u32 (u x)] M3 (decode_n x hb w3) fun w21 M21 => ?_
      refine KS.p (.tuple #[.agg #[.int .i64 0, .int .i64 0, .int .i64 0, .int .i64 0, .int .i64 0], .bool false]) ?_
      refine KS.p (.agg #[.int .i64 0, .int .i64 0, .int .i64 0, .int .i64 0, .int .i64 0]) ?_
      refine KS.p (.bool false) ?_
      refine Kw.alloc #[.int .i64 0, .int .i64 0, .int .i64 0, .int .i64 0, .int .i64 0] 36 M21 (by kernel_rfl) (by kernel_rfl) fun w22 B22 M22 => ?_
      refine Kw.storeAll 0 36 #[.int .i64 0, .int .i64 0, .int .i64 0, .int .i64 0, .int .i64 0] M22 rfl (by kernel_rfl) (by kernel_rfl) rfl (by kernel_rfl) (by kernel_rfl) fun w23 M23 => ?_
      refine KS.p (.bool false) ?_
      refine KS.n4 ?_
      refine KS.p (.int .u32 (u x)) ?_
      refine KS.c (.tuple #[.agg #[.int .i64 0, .int .i64 0, .int .i64 0, .int .i64 0, .int .i64 0], .bool false]) 28 #[.int .u32 (u x)] M23 (rdec_n x hb xx w23) fun w24 M24 => ?_
      refine KS.p (.tuple #[.agg #[.int .i64 0, .int .i64 0, .int .i64 0, .int .i64 0, .int .i64 0], .bool false]) ?_
      refine KS.p (.agg #[.int .i64 0, .int .i64 0, .int .i64 0, .int .i64 0, .int .i64 0]) ?_
      refine KS.p (.bool false) ?_
      refine Kw.alloc #[.int .i64 0, .int .i64 0, .int .i64 0, .int .i64 0, .int .i64 0] 41 M24 (by kernel_rfl) (by kernel_rfl) fun w25 B25 M25 => ?_
      refine Kw.storeAll 0 41 #[.int .i64 0, .int .i64 0, .int .i64 0, .int .i64 0, .int .i64 0] M25 rfl (by kernel_rfl) (by kernel_rfl) rfl (by kernel_rfl) (by kernel_rfl) fun w26 M26 => ?_
      refine KS.p (.bool false) ?_
      refine KS.n4 ?_
      refine KS.p (.int .u32 (encN k rd rs1 rs2 imm)) ?_
      refine KS.p (.int .u32 (u (wordK k rd rs1 rs2 imm &&& 4294967295#64))) ?_
      refine Kw.pure (.bool true) (by kernel_rfl) (Kw.eqv (v := .bool ((encN k rd rs1 rs2 imm) == (u (wordK k rd rs1 rs2 imm &&& 4294967295#64)))) (by kernel_rfl) (congrArg Value.bool (by rw [encN_ok h20]; exact beq_self_eq_true _))) ?_
      refine KS.p (.bool true) ?_
      refine Kw.pure (.bool true) (by kernel_rfl) (Kw.eqv (v := .bool (okB k rd rs1 rs2 imm)) (by kernel_rfl) (congrArg Value.bool (h20))) ?_
      refine Kw.pure (.bool true) (by kernel_rfl) (Kw.eqv (v := .bool (okB k rd rs1 rs2 imm)) (by kernel_rfl) (congrArg Value.bool (h20))) ?_
      refine KS.p (.bool true) ?_
      refine KS.p (.bool true) ?_
      refine KS.p (.bool true) ?_
      refine KS.la 36 B22 _ M26 1 Try.underlying36 ?_
      refine KS.la 41 B25 _ M26 0 Try.underlying41 ?_
      refine KS.s (Canon.opS .eql 41 (.tmp 44) (.tmp 45) (.agg #[.int .i64 0, .int .i64 0, .int .i64 0, .int .i64 0, .int .i64 0]) (.agg #[.int .i64 0, .int .i64 0, .int .i64 0, .int .i64 0, .int .i64 0])) (.bool true) (Kw.eqv (agg_eql41 _ _ w26 _ _ _ _ _ _ _ _ _ _) (by simp [sameB])) ?_
      refine KS.p (.bool true) ?_
      refine KS.p (.bool true) ?_
      refine KS.p (.bool false) ?_
      refine KS.p (.bool false) ?_
      refine KS.p (.bool true) ?_
      refine KS.p (.bool true) ?_
      refine KS.p (.bool true) ?_
      refine KS.c (.bool true) 29 #[] M26 (one_c w26) fun w27 M27 => ?_
      refine KS.p (.bool true) ?_
      refine KS.p (.bool true) ?_
      refine Kw.fin (Kw.then_normal (wp_ret ?_))
      exact bodyPost_ret (v := .bool true) (by kernel_rfl) (by kernel_rfl) ⟨rfl, M27.drop⟩
    · skip
      refine Kw.region ?_
      refine KS.p (.int .u32 (u x)) ?_
      refine KS.c (.tuple #[.agg #[.int .i64 ((kb + 1 : Nat) : Int), .int .i64 (s (rdK kb x)), .int .i64 (s (rs1K kb x)), .int .i64 (s (rs2K kb x)), .int .i64 (s (immK kb x))], .bool true]) 27 #[.int .u32 (u x)] M3 (decode_y x kb hb w3) fun w28 M28 => ?_
      refine KS.p (.tuple #[.agg #[.int .i64 ((kb + 1 : Nat) : Int), .int .i64 (s (rdK kb x)), .int .i64 (s (rs1K kb x)), .int .i64 (s (rs2K kb x)), .int .i64 (s (immK kb x))], .bool true]) ?_
      refine KS.p (.agg #[.int .i64 ((kb + 1 : Nat) : Int), .int .i64 (s (rdK kb x)), .int .i64 (s (rs1K kb x)), .int .i64 (s (rs2K kb x)), .int .i64 (s (immK kb x))]) ?_
      refine KS.p (.bool true) ?_
      refine Kw.alloc #[.int .i64 0, .int .i64 0, .int .i64 0, .int .i64 0, .int .i64 0] 36 M28 (by kernel_rfl) (by kernel_rfl) fun w29 B29 M29 => ?_
      refine Kw.storeAll 0 36 #[.int .i64 ((kb + 1 : Nat) : Int), .int .i64 (s (rdK kb x)), .int .i64 (s (rs1K kb x)), .int .i64 (s (rs2K kb x)), .int .i64 (s (immK kb x))] M29 rfl (by kernel_rfl) (by kernel_rfl) (Eq.trans (b := 5) (by kernel_rfl) (by kernel_rfl)) (by kernel_rfl) (by kernel_rfl) fun w30 M30 => ?_
      refine KS.p (.bool true) ?_
      refine KS.n4 ?_
      refine KS.p (.int .u32 (u x)) ?_
      refine KS.c (.tuple #[.agg #[.int .i64 ((kb + 1 : Nat) : Int), .int .i64 (s (rdK kb x)), .int .i64 (s (rs1K kb x)), .int .i64 (s (rs2K kb x)), .int .i64 (s (immK kb x))], .bool true]) 28 #[.int .u32 (u x)] M30 (rdec_y x kb hb xx w30) fun w31 M31 => ?_
      refine KS.p (.tuple #[.agg #[.int .i64 ((kb + 1 : Nat) : Int), .int .i64 (s (rdK kb x)), .int .i64 (s (rs1K kb x)), .int .i64 (s (rs2K kb x)), .int .i64 (s (immK kb x))], .bool true]) ?_
      refine KS.p (.agg #[.int .i64 ((kb + 1 : Nat) : Int), .int .i64 (s (rdK kb x)), .int .i64 (s (rs1K kb x)), .int .i64 (s (rs2K kb x)), .int .i64 (s (immK kb x))]) ?_
      refine KS.p (.bool true) ?_
      refine Kw.alloc #[.int .i64 0, .int .i64 0, .int .i64 0, .int .i64 0, .int .i64 0] 41 M31 (by kernel_rfl) (by kernel_rfl) fun w32 B32 M32 => ?_
      refine Kw.storeAll 0 41 #[.int .i64 ((kb + 1 : Nat) : Int), .int .i64 (s (rdK kb x)), .int .i64 (s (rs1K kb x)), .int .i64 (s (rs2K kb x)), .int .i64 (s (immK kb x))] M32 rfl (by kernel_rfl) (by kernel_rfl) (Eq.trans (b := 5) (by kernel_rfl) (by kernel_rfl)) (by kernel_rfl) (by kernel_rfl) fun w33 M33 => ?_
      refine KS.p (.bool true) ?_
      refine KS.n4 ?_
      refine KS.p (.int .u32 (encN k rd rs1 rs2 imm)) ?_
      refine KS.p (.int .u32 (u (wordK k rd rs1 rs2 imm &&& 4294967295#64))) ?_
      refine Kw.pure (.bool true) (by kernel_rfl) (Kw.eqv (v := .bool ((encN k rd rs1 rs2 imm) == (u (wordK k rd rs1 rs2 imm &&& 4294967295#64)))) (by kernel_rfl) (congrArg Value.bool (by rw [encN_ok h20]; exact beq_self_eq_true _))) ?_
      refine KS.p (.bool true) ?_
      refine Kw.pure (.bool true) (by kernel_rfl) (Kw.eqv (v := .bool (okB k rd rs1 rs2 imm)) (by kernel_rfl) (congrArg Value.bool (h20))) ?_
      refine Kw.pure (.bool true) (by kernel_rfl) (Kw.eqv (v := .bool (okB k rd rs1 rs2 imm)) (by kernel_rfl) (congrArg Value.bool (h20))) ?_
      refine KS.p (.bool true) ?_
      refine KS.p (.bool true) ?_
      refine KS.p (.bool true) ?_
      refine KS.la 36 B29 _ M33 1 Try.underlying36 ?_
      refine KS.la 41 B32 _ M33 0 Try.underlying41 ?_
      refine KS.s (Canon.opS .eql 41 (.tmp 44) (.tmp 45) (.agg #[.int .i64 ((kb + 1 : Nat) : Int), .int .i64 (s (rdK kb x)), .int .i64 (s (rs1K kb x)), .int .i64 (s (rs2K kb x)), .int .i64 (s (immK kb x))]) (.agg #[.int .i64 ((kb + 1 : Nat) : Int), .int .i64 (s (rdK kb x)), .int .i64 (s (rs1K kb x)), .int .i64 (s (rs2K kb x)), .int .i64 (s (immK kb x))])) (.bool true) (Kw.eqv (agg_eql41 _ _ w33 _ _ _ _ _ _ _ _ _ _) (by simp [sameB])) ?_
      refine KS.p (.bool true) ?_
      refine KS.p (.bool true) ?_
      refine KS.p (.bool true) ?_
      refine KS.p (.bool true) ?_
      refine KS.p (.bool true) ?_
      refine KS.p (.bool true) ?_
      refine KS.p (.bool true) ?_
      refine KS.c (.bool true) 29 #[] M33 (one_c w33) fun w34 M34 => ?_
      refine KS.p (.bool true) ?_
      refine KS.p (.bool true) ?_
      refine Kw.fin (Kw.then_normal (wp_ret ?_))
      exact bodyPost_ret (v := .bool true) (by kernel_rfl) (by kernel_rfl) ⟨rfl, M34.drop⟩
set_option maxRecDepth 100000 in
theorem codes_out (z : Int) (hz : z < 1 ∨ 69 < z) (rd rs1 rs2 imm x : BitVec 64) (xx : ∀ i, 32 ≤ i → i < 64 → x.getLsbD i = false) (W : World) : Calls Try.prog 8 #[.agg #[.int .i64 z, .int .i64 (s rd), .int .i64 (s rs1), .int .i64 (s rs2), .int .i64 (s imm)], .int .u32 (u x)] W fun e W' => e = .returned (.bool true) ∧ Kw.Mem [] W W' [] := by
  refine calls_of_wp Try.func8 rfl ?_
  have M0 : Kw.Mem [] W W [] := Kw.Mem.start _ _
  refine Kw.to (b := ⟨#[.agg #[.int .i64 z, .int .i64 (s rd), .int .i64 (s rs1), .int .i64 (s rs2), .int .i64 (s imm)], .int .u32 (u x), undef, undef, undef, undef, undef, undef, undef, undef, undef, undef, undef, undef, undef, undef, undef, undef, undef, undef, undef, undef, undef, undef, undef, undef, undef, undef, undef, undef, undef, undef, undef, undef, undef, undef, undef, undef, undef, undef, undef, undef, undef, undef, undef, undef, undef, undef, undef, undef, undef, undef, undef, undef, undef, undef], []⟩) (by kernel_rfl) ?_
  refine wp_seq (Kw.region ?_)
  refine Kw.alloc #[.int .i64 z, .int .i64 (s rd), .int .i64 (s rs1), .int .i64 (s rs2), .int .i64 (s imm)] 36 M0 (by kernel_rfl) (by kernel_rfl) fun w1 B1 M1 => ?_
  refine KS.p (.bool false) ?_
  refine KS.n4 ?_
  refine KS.la 36 B1 _ M1 0 Try.underlying36 ?_
  refine KS.c (.tuple #[.int .u32 0, .bool false]) 25 #[.agg #[.int .i64 z, .int .i64 (s rd), .int .i64 (s rs1), .int .i64 (s rs2), .int .i64 (s imm)]] M1 (encode_no z hz rd rs1 rs2 imm w1) fun w2 M2 => ?_
  refine KS.p (.tuple #[.int .u32 0, .bool false]) ?_
  refine KS.p (.int .u32 0) ?_
  refine KS.p (.bool false) ?_
  refine KS.p (.int .u32 0) ?_
  refine KS.p (.bool false) ?_
  refine KS.n4 ?_
  refine KS.la 36 B1 _ M2 0 Try.underlying36 ?_
  refine KS.c (.tuple #[.int .u32 0, .bool false]) 26 #[.agg #[.int .i64 z, .int .i64 (s rd), .int .i64 (s rs1), .int .i64 (s rs2), .int .i64 (s imm)]] M2 (renc_no z hz rd rs1 rs2 imm w2) fun w3 M3 => ?_
  refine KS.p (.tuple #[.int .u32 0, .bool false]) ?_
  refine KS.p (.int .u32 0) ?_
  refine KS.p (.bool false) ?_
  refine KS.p (.int .u32 0) ?_
  refine KS.p (.bool false) ?_
  refine KS.n5 ?_
  refine KS.p (.bool false) ?_
  refine KS.p (.bool true) ?_
  refine KS.n2 ?_
  refine wp_cond_true (by kernel_rfl) ?_
  refine Kw.region ?_
  refine KS.p (.int .u32 0) ?_
  refine Kw.fin (Kw.then_normal (wp_seq ?_))
  rcases hb : decN x with _ | kb
  · skip
    refine Kw.region ?_
    refine KS.p (.int .u32 (u x)) ?_
    refine KS.c (.tuple #[.agg #[.int .i64 0, .int .i64 0, .int .i64 0, .int .i64 0, .int .i64 0], .bool false]) 27 #[.int .u32 (u x)] M3 (decode_n x hb w3) fun w4 M4 => ?_
    refine KS.p (.tuple #[.agg #[.int .i64 0, .int .i64 0, .int .i64 0, .int .i64 0, .int .i64 0], .bool false]) ?_
    refine KS.p (.agg #[.int .i64 0, .int .i64 0, .int .i64 0, .int .i64 0, .int .i64 0]) ?_
    refine KS.p (.bool false) ?_
    refine Kw.alloc #[.int .i64 0, .int .i64 0, .int .i64 0, .int .i64 0, .int .i64 0] 36 M4 (by kernel_rfl) (by kernel_rfl) fun w5 B5 M5 => ?_
    refine Kw.storeAll 0 36 #[.int .i64 0, .int .i64 0, .int .i64 0, .int .i64 0, .int .i64 0] M5 rfl (by kernel_rfl) (by kernel_rfl) rfl (by kernel_rfl) (by kernel_rfl) fun w6 M6 => ?_
    refine KS.p (.bool false) ?_
    refine KS.n4 ?_
    refine KS.p (.int .u32 (u x)) ?_
    refine KS.c (.tuple #[.agg #[.int .i64 0, .int .i64 0, .int .i64 0, .int .i64 0, .int .i64 0], .bool false]) 28 #[.int .u32 (u x)] M6 (rdec_n x hb xx w6) fun w7 M7 => ?_
    refine KS.p (.tuple #[.agg #[.int .i64 0, .int .i64 0, .int .i64 0, .int .i64 0, .int .i64 0], .bool false]) ?_
    refine KS.p (.agg #[.int .i64 0, .int .i64 0, .int .i64 0, .int .i64 0, .int .i64 0]) ?_
    refine KS.p (.bool false) ?_
    refine Kw.alloc #[.int .i64 0, .int .i64 0, .int .i64 0, .int .i64 0, .int .i64 0] 41 M7 (by kernel_rfl) (by kernel_rfl) fun w8 B8 M8 => ?_
    refine Kw.storeAll 0 41 #[.int .i64 0, .int .i64 0, .int .i64 0, .int .i64 0, .int .i64 0] M8 rfl (by kernel_rfl) (by kernel_rfl) rfl (by kernel_rfl) (by kernel_rfl) fun w9 M9 => ?_
    refine KS.p (.bool false) ?_
    refine KS.n4 ?_
    refine KS.p (.int .u32 0) ?_
    refine KS.p (.int .u32 0) ?_
    refine KS.p (.bool true) ?_
    refine KS.p (.bool true) ?_
    refine KS.p (.bool false) ?_
    refine KS.p (.bool false) ?_
    refine KS.p (.bool true) ?_
    refine KS.p (.bool true) ?_
    refine KS.p (.bool true) ?_
    refine KS.la 36 B5 _ M9 1 Try.underlying36 ?_
    refine KS.la 41 B8 _ M9 0 Try.underlying41 ?_
    refine KS.s (Canon.opS .eql 41 (.tmp 44) (.tmp 45) (.agg #[.int .i64 0, .int .i64 0, .int .i64 0, .int .i64 0, .int .i64 0]) (.agg #[.int .i64 0, .int .i64 0, .int .i64 0, .int .i64 0, .int .i64 0])) (.bool true) (Kw.eqv (agg_eql41 _ _ w9 _ _ _ _ _ _ _ _ _ _) (by simp [sameB])) ?_
    refine KS.p (.bool true) ?_
    refine KS.p (.bool true) ?_
    refine KS.p (.bool false) ?_
    refine KS.p (.bool false) ?_
    refine KS.p (.bool true) ?_
    refine KS.p (.bool true) ?_
    refine KS.p (.bool true) ?_
    refine KS.c (.bool true) 29 #[] M9 (one_c w9) fun w10 M10 => ?_
    refine KS.p (.bool true) ?_
    refine KS.p (.bool true) ?_
    refine Kw.fin (Kw.then_normal (wp_ret ?_))
    exact bodyPost_ret (v := .bool true) (by kernel_rfl) (by kernel_rfl) ⟨rfl, M10.drop⟩
  · skip
    refine Kw.region ?_
    refine KS.p (.int .u32 (u x)) ?_
    refine KS.c (.tuple #[.agg #[.int .i64 ((kb + 1 : Nat) : Int), .int .i64 (s (rdK kb x)), .int .i64 (s (rs1K kb x)), .int .i64 (s (rs2K kb x)), .int .i64 (s (immK kb x))], .bool true]) 27 #[.int .u32 (u x)] M3 (decode_y x kb hb w3) fun w11 M11 => ?_
    refine KS.p (.tuple #[.agg #[.int .i64 ((kb + 1 : Nat) : Int), .int .i64 (s (rdK kb x)), .int .i64 (s (rs1K kb x)), .int .i64 (s (rs2K kb x)), .int .i64 (s (immK kb x))], .bool true]) ?_
    refine KS.p (.agg #[.int .i64 ((kb + 1 : Nat) : Int), .int .i64 (s (rdK kb x)), .int .i64 (s (rs1K kb x)), .int .i64 (s (rs2K kb x)), .int .i64 (s (immK kb x))]) ?_
    refine KS.p (.bool true) ?_
    refine Kw.alloc #[.int .i64 0, .int .i64 0, .int .i64 0, .int .i64 0, .int .i64 0] 36 M11 (by kernel_rfl) (by kernel_rfl) fun w12 B12 M12 => ?_
    refine Kw.storeAll 0 36 #[.int .i64 ((kb + 1 : Nat) : Int), .int .i64 (s (rdK kb x)), .int .i64 (s (rs1K kb x)), .int .i64 (s (rs2K kb x)), .int .i64 (s (immK kb x))] M12 rfl (by kernel_rfl) (by kernel_rfl) (Eq.trans (b := 5) (by kernel_rfl) (by kernel_rfl)) (by kernel_rfl) (by kernel_rfl) fun w13 M13 => ?_
    refine KS.p (.bool true) ?_
    refine KS.n4 ?_
    refine KS.p (.int .u32 (u x)) ?_
    refine KS.c (.tuple #[.agg #[.int .i64 ((kb + 1 : Nat) : Int), .int .i64 (s (rdK kb x)), .int .i64 (s (rs1K kb x)), .int .i64 (s (rs2K kb x)), .int .i64 (s (immK kb x))], .bool true]) 28 #[.int .u32 (u x)] M13 (rdec_y x kb hb xx w13) fun w14 M14 => ?_
    refine KS.p (.tuple #[.agg #[.int .i64 ((kb + 1 : Nat) : Int), .int .i64 (s (rdK kb x)), .int .i64 (s (rs1K kb x)), .int .i64 (s (rs2K kb x)), .int .i64 (s (immK kb x))], .bool true]) ?_
    refine KS.p (.agg #[.int .i64 ((kb + 1 : Nat) : Int), .int .i64 (s (rdK kb x)), .int .i64 (s (rs1K kb x)), .int .i64 (s (rs2K kb x)), .int .i64 (s (immK kb x))]) ?_
    refine KS.p (.bool true) ?_
    refine Kw.alloc #[.int .i64 0, .int .i64 0, .int .i64 0, .int .i64 0, .int .i64 0] 41 M14 (by kernel_rfl) (by kernel_rfl) fun w15 B15 M15 => ?_
    refine Kw.storeAll 0 41 #[.int .i64 ((kb + 1 : Nat) : Int), .int .i64 (s (rdK kb x)), .int .i64 (s (rs1K kb x)), .int .i64 (s (rs2K kb x)), .int .i64 (s (immK kb x))] M15 rfl (by kernel_rfl) (by kernel_rfl) (Eq.trans (b := 5) (by kernel_rfl) (by kernel_rfl)) (by kernel_rfl) (by kernel_rfl) fun w16 M16 => ?_
    refine KS.p (.bool true) ?_
    refine KS.n4 ?_
    refine KS.p (.int .u32 0) ?_
    refine KS.p (.int .u32 0) ?_
    refine KS.p (.bool true) ?_
    refine KS.p (.bool true) ?_
    refine KS.p (.bool false) ?_
    refine KS.p (.bool false) ?_
    refine KS.p (.bool true) ?_
    refine KS.p (.bool true) ?_
    refine KS.p (.bool true) ?_
    refine KS.la 36 B12 _ M16 1 Try.underlying36 ?_
    refine KS.la 41 B15 _ M16 0 Try.underlying41 ?_
    refine KS.s (Canon.opS .eql 41 (.tmp 44) (.tmp 45) (.agg #[.int .i64 ((kb + 1 : Nat) : Int), .int .i64 (s (rdK kb x)), .int .i64 (s (rs1K kb x)), .int .i64 (s (rs2K kb x)), .int .i64 (s (immK kb x))]) (.agg #[.int .i64 ((kb + 1 : Nat) : Int), .int .i64 (s (rdK kb x)), .int .i64 (s (rs1K kb x)), .int .i64 (s (rs2K kb x)), .int .i64 (s (immK kb x))])) (.bool true) (Kw.eqv (agg_eql41 _ _ w16 _ _ _ _ _ _ _ _ _ _) (by simp [sameB])) ?_
    refine KS.p (.bool true) ?_
    refine KS.p (.bool true) ?_
    refine KS.p (.bool true) ?_
    refine KS.p (.bool true) ?_
    refine KS.p (.bool true) ?_
    refine KS.p (.bool true) ?_
    refine KS.p (.bool true) ?_
    refine KS.c (.bool true) 29 #[] M16 (one_c w16) fun w17 M17 => ?_
    refine KS.p (.bool true) ?_
    refine KS.p (.bool true) ?_
    refine Kw.fin (Kw.then_normal (wp_ret ?_))
    exact bodyPost_ret (v := .bool true) (by kernel_rfl) (by kernel_rfl) ⟨rfl, M17.drop⟩
end Go.Proofs.Ytpmpibcfmejbfaa.Inst
