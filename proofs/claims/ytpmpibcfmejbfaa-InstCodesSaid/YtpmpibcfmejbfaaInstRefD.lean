/- The instruction of a word by the reference: what its function answers, the same as the program's. No condition. -/
import Derived.Test.YtpmpibcfmejbfaaInstRefI
import Derived.Test.YtpmpibcfmejbfaaInstOneC
import Derived.Test.YtpmpibcfmejbfaaKS
namespace Go.Proofs.Ytpmpibcfmejbfaa.Inst
open Go.RowKit Go.Proofs.Ytpmpibcfmejbfaa.Bits
attribute [local irreducible] Go.wpList
set_option linter.unusedVariables false
set_option linter.unusedSimpArgs false
set_option maxHeartbeats 8000000 in
set_option maxRecDepth 100000 in
theorem rdec_c (x : BitVec 64) (xx : ∀ i, 32 ≤ i → i < 64 → x.getLsbD i = false) (W : World) : Calls Try.prog 28 #[.int .u32 (u x)] W fun e W' => e = .returned (decV x) ∧ Kw.Mem [] W W' [] := by
  refine calls_of_wp Try.func28 rfl ?_
  have M0 : Kw.Mem [] W W [] := Kw.Mem.start _ _
  refine Kw.to (b := ⟨#[.int .u32 (u x), undef, undef, undef, undef, undef, undef, undef, undef, undef, undef, undef, undef, undef, undef, undef, undef, undef, undef, undef, undef, undef, undef, undef, undef, undef, undef, undef, undef, undef, undef, undef, undef, undef, undef, undef, undef, undef, undef, undef, undef, undef, undef, undef, undef, undef, undef, undef, undef, undef, undef, undef, undef, undef, undef, undef, undef, undef, undef, undef, undef, undef, undef, undef, undef, undef, undef, undef, undef, undef, undef, undef, undef, undef, undef, undef, undef, undef, undef, undef, undef, undef, undef], []⟩) (by kernel_rfl) ?_
  refine wp_seq (Kw.region ?_)
  refine Kw.alloc #[.int .i64 0, .int .i64 0, .int .i64 0, .int .i64 0, .int .i64 0] 41 M0 (by kernel_rfl) (by kernel_rfl) fun w1 B1 M1 => ?_
  refine KS.p (.bool false) ?_
  refine KS.n4 ?_
  refine Held.callN (fun B => (.slice (some ⟨B, 0, none⟩) 69 69)) 49 #[] rows32 79 M1 (by kernel_rfl) (by kernel_rfl) (rows32_c w1) fun w2 B2 M2 => ?_
  refine KS.p (.slice (some ⟨B2, 0, none⟩) 69 69) ?_
  refine KS.n5 ?_
  refine KS.p (.int .i64 0) ?_
  refine Kw.fin (Kw.then_normal (wp_block ?_))
  refine Kw.to (b := ⟨#[.int .u32 (u x), undef, .pointer (some ⟨B1, 0, none⟩), .bool false, .slice (some ⟨B2, 0, none⟩) 69 69, .int .i64 0, undef, undef, undef, undef, .slice (some ⟨B2, 0, none⟩) 69 69, undef, undef, undef, undef, undef, undef, undef, undef, undef, undef, undef, undef, undef, undef, undef, undef, undef, undef, undef, undef, undef, undef, undef, undef, undef, undef, undef, undef, undef, undef, undef, undef, undef, undef, undef, undef, undef, undef, undef, undef, undef, undef, undef, undef, undef, undef, undef, undef, undef, undef, undef, undef, undef, undef, undef, undef, undef, undef, undef, undef, undef, undef, undef, undef, undef, undef, undef, undef, undef, undef, undef, undef], []⟩) (by kernel_rfl) ?_
  refine wp_loop (fun ac wc => ∃ (k : Nat), (k ≤ 69) ∧ (∀ j, j < k → (x &&& fmk j == fwk j) = false) ∧ KwJ.Fr [3, 6, 7, 8, 9, 11, 12, 13, 14, 15, 16, 17, 18, 19, 20, 21, 22, 23, 24, 25, 26, 27, 28, 29, 30, 31, 32, 33, 34, 35, 36, 37, 38, 39, 40, 41, 42, 43, 44, 45, 46, 47, 48, 49, 50, 51, 52, 53, 54, 55, 56, 57, 58, 59, 60, 61, 62, 63, 64, 65, 66, 67, 68, 69, 70, 71, 72, 73, 74, 75, 76, 77, 78, 79, 80, 81] (fun y3 => ⟨#[.int .u32 (u x), undef, .pointer (some ⟨B1, 0, none⟩), y3 0, .slice (some ⟨B2, 0, none⟩) 69 69, .int .i64 ((k : Nat) : Int), y3 1, y3 2, y3 3, y3 4, .slice (some ⟨B2, 0, none⟩) 69 69, y3 5, y3 6, y3 7, y3 8, y3 9, y3 10, y3 11, y3 12, y3 13, y3 14, y3 15, y3 16, y3 17, y3 18, y3 19, y3 20, y3 21, y3 22, y3 23, y3 24, y3 25, y3 26, y3 27, y3 28, y3 29, y3 30, y3 31, y3 32, y3 33, y3 34, y3 35, y3 36, y3 37, y3 38, y3 39, y3 40, y3 41, y3 42, y3 43, y3 44, y3 45, y3 46, y3 47, y3 48, y3 49, y3 50, y3 51, y3 52, y3 53, y3 54, y3 55, y3 56, y3 57, y3 58, y3 59, y3 60, y3 61, y3 62, y3 63, y3 64, y3 65, y3 66, y3 67, y3 68, y3 69, y3 70, y3 71, y3 72, y3 73, y3 74, y3 75, undef], []⟩) ac ∧ Kw.Mem [] W wc [(B2, rows32, 79), (B1, #[.int .i64 0, .int .i64 0, .int .i64 0, .int .i64 0, .int .i64 0], 41)]) (fun ac _ => 69 - (intOf (ac.tmps.getD 5 undef)).toNat) ⟨0, by omega, fun j hj => absurd hj (by omega), KwJ.mkFr (by kernel_rfl), M2⟩ (fun ac w3 hI => ?_)
  obtain ⟨k, hk, hno, hF3, M3⟩ := hI
  obtain ⟨y3, rfl⟩ := KwJ.fr hF3
  refine wp_seq (wp_seq (Kw.region ?_))
  refine KS.p (.int .i64 ((k : Nat) : Int)) ?_
  refine KS.p (.slice (some ⟨B2, 0, none⟩) 69 69) ?_
  refine KS.p (.int .i64 69) ?_
  refine KS.p (.bool (decide (((k : Nat) : Int) < (69 : Int)))) ?_
  refine KS.n2 ?_
  refine wp_cond_split (t := (decide (((k : Nat) : Int) < (69 : Int)))) (by kernel_rfl) (fun h4 => ?_) (fun h4 => ?_)
  · skip
    have hk69 : k < 69 := by have := of_decide_eq_true h4; omega
    refine wp_skip (Kw.then_normal (wp_seq (wp_block (wp_seq (Kw.region ?_)))))
    refine KS.p (.slice (some ⟨B2, 0, none⟩) 69 69) ?_
    refine KS.p (.int .i64 ((k : Nat) : Int)) ?_
    refine KS.s (Sl.ixaS 76 (.slice (some ⟨B2, 0, none⟩) 69 69) (.int .i64 ((k : Nat) : Int))) (.pointer (some ⟨B2, 0 + k * 5, none⟩)) (Sl.ixa Try.underlying76 (by kernel_rfl) B2 0 69 69 k hk69 w3) ?_
    refine KS.p (.pointer (some ⟨B2, 0 + k * 5 + 1, none⟩)) ?_
    refine KS.s (Canon.ldS 5 (.pointer (some ⟨B2, 0 + k * 5 + 1, none⟩))) (.int .u8 (sh k)) (Kw.ld_cell 5 (0 + k * 5 + 1) (.int .u8 (sh k)) (M3.get 0 rfl) (sh_cell k hk69) _ Try.underlying5 rfl) ?_
    refine KS.p (.int .u8 (sh k)) ?_
    refine Kw.fin (Kw.then_normal (wp_seq ?_))
    rcases shape7 k with hs | hs | hs | hs | hs | hs | ⟨h83, h66, h78, h85, h74, h82⟩
    · skip
      have D := dec_iff k hk69 x xx
      have eA := rdK_S k hs x
      have eB := rs1K_S k hs x
      have eC := rs2K_S k hs x
      rw [eA, eB, eC] at D
      refine Kw.region ?_
      refine KS.p (.int .i64 ((k : Nat) : Int)) ?_
      refine Kw.pure (.int .i64 ((k + 1 : Nat) : Int)) (by kernel_rfl) (Kw.eqv (v := .int .i64 (IntKind.i64.wrap (((k : Nat) : Int) + (1 : Int)))) (by kernel_rfl) (congrArg (Value.int .i64) (by rw [IntWalk.i64_in _ (by omega)]; rfl))) ?_
      refine KS.p (.int .u32 (u x)) ?_
      refine KS.p (.int .u8 (sh k)) ?_
      refine KS.c (.int .i64 (s (immK k x))) 55 #[.int .u32 (u x), .int .u8 (sh k)] M3 (imm_c k hk69 x w3) fun w5 M5 => ?_
      refine KS.p (.agg #[.int .i64 ((k + 1 : Nat) : Int), .int .i64 0, .int .i64 0, .int .i64 0, .int .i64 (s (immK k x))]) ?_
      refine Kw.alloc #[.int .i64 0, .int .i64 0, .int .i64 0, .int .i64 0, .int .i64 0] 41 M5 (by kernel_rfl) (by kernel_rfl) fun w6 B6 M6 => ?_
      refine Kw.storeAll 0 41 #[.int .i64 ((k + 1 : Nat) : Int), .int .i64 0, .int .i64 0, .int .i64 0, .int .i64 (s (immK k x))] M6 rfl (by kernel_rfl) (by kernel_rfl) (Eq.trans (b := 5) (by kernel_rfl) (by kernel_rfl)) (by kernel_rfl) (by kernel_rfl) fun w7 M7 => ?_
      refine KS.n5 ?_
      refine KS.p (.int .u8 (sh k)) ?_
      refine Kw.pure (.bool false) (by kernel_rfl) (Kw.eqv (v := .bool ((sh k) != (83 : Int))) (by kernel_rfl) (congrArg Value.bool (by rw [hs]; rfl))) ?_
      refine KS.p (.bool false) ?_
      refine KS.k ?_
      refine KS.k ?_
      refine KS.p (.bool false) ?_
      refine KS.p (.bool false) ?_
      refine KS.k ?_
      refine KS.k ?_
      refine KS.p (.bool false) ?_
      refine KS.n2 ?_
      refine wp_cond_false (by kernel_rfl) ?_
      refine wp_skip (Kw.then_normal (wp_seq (wp_seq (Kw.region ?_))))
      refine KS.p (.int .u8 (sh k)) ?_
      refine Kw.pure (.bool true) (by kernel_rfl) (Kw.eqv (v := .bool ((sh k) != (85 : Int))) (by kernel_rfl) (congrArg Value.bool (by rw [hs]; rfl))) ?_
      refine KS.p (.bool true) ?_
      refine KS.p (.int .u8 (sh k)) ?_
      refine Kw.pure (.bool true) (by kernel_rfl) (Kw.eqv (v := .bool ((sh k) != (74 : Int))) (by kernel_rfl) (congrArg Value.bool (by rw [hs]; rfl))) ?_
      refine KS.p (.bool true) ?_
      refine KS.p (.bool true) ?_
      refine KS.p (.int .u8 (sh k)) ?_
      refine Kw.pure (.bool true) (by kernel_rfl) (Kw.eqv (v := .bool ((sh k) != (78 : Int))) (by kernel_rfl) (congrArg Value.bool (by rw [hs]; rfl))) ?_
      refine KS.p (.bool true) ?_
      refine KS.n2 ?_
      refine wp_cond_true (by kernel_rfl) ?_
      refine Kw.region ?_
      refine KS.p (.int .u32 (u x)) ?_
      refine KS.c (.int .u64 (u (getI x 15 5))) 56 #[.int .u32 (u x), .int .i64 15, .int .i64 5] M7 (get13_c x 15 5 w7) fun w8 M8 => ?_
      refine Kw.pure (.int .i64 (s (getI x 15 5))) (by kernel_rfl) (Kw.eqv (v := .int .i64 (IntKind.i64.wrap (u (getI x 15 5)))) (by kernel_rfl) (congrArg (Value.int .i64) (wrapi_u (getI x 15 5)))) ?_
      refine KS.p (.pointer (some ⟨B6, 2, none⟩)) ?_
      refine Kw.storeCell 0 3 2 (.int .i64 (s (getI x 15 5))) #[.int .i64 ((k + 1 : Nat) : Int), .int .i64 0, .int .i64 (s (getI x 15 5)), .int .i64 0, .int .i64 (s (immK k x))] M8 rfl (by kernel_rfl) (by kernel_rfl) (show 2 < 5 from by decide) (by kernel_rfl) rfl (by kernel_rfl) (by kernel_rfl) fun w9 M9 => ?_
      refine KS.n5 ?_
      refine KS.p (.int .u8 (sh k)) ?_
      refine Kw.pure (.bool false) (by kernel_rfl) (Kw.eqv (v := .bool ((sh k) == (82 : Int))) (by kernel_rfl) (congrArg Value.bool (by rw [hs]; rfl))) ?_
      refine KS.p (.bool false) ?_
      refine KS.p (.int .u8 (sh k)) ?_
      refine Kw.pure (.bool true) (by kernel_rfl) (Kw.eqv (v := .bool ((sh k) == (83 : Int))) (by kernel_rfl) (congrArg Value.bool (by rw [hs]; rfl))) ?_
      refine KS.p (.bool true) ?_
      refine KS.p (.bool true) ?_
      refine KS.k ?_
      refine KS.k ?_
      refine KS.p (.bool true) ?_
      refine KS.n2 ?_
      refine wp_cond_true (by kernel_rfl) ?_
      refine Kw.region ?_
      refine KS.p (.int .u32 (u x)) ?_
      refine KS.c (.int .u64 (u (getI x 20 5))) 56 #[.int .u32 (u x), .int .i64 20, .int .i64 5] M9 (get13_c x 20 5 w9) fun w10 M10 => ?_
      refine Kw.pure (.int .i64 (s (getI x 20 5))) (by kernel_rfl) (Kw.eqv (v := .int .i64 (IntKind.i64.wrap (u (getI x 20 5)))) (by kernel_rfl) (congrArg (Value.int .i64) (wrapi_u (getI x 20 5)))) ?_
      refine KS.p (.pointer (some ⟨B6, 3, none⟩)) ?_
      refine Kw.storeCell 0 3 3 (.int .i64 (s (getI x 20 5))) #[.int .i64 ((k + 1 : Nat) : Int), .int .i64 0, .int .i64 (s (getI x 15 5)), .int .i64 (s (getI x 20 5)), .int .i64 (s (immK k x))] M10 rfl (by kernel_rfl) (by kernel_rfl) (show 3 < 5 from by decide) (by kernel_rfl) rfl (by kernel_rfl) (by kernel_rfl) fun w11 M11 => ?_
      refine KS.n4 ?_
      refine KS.la 41 B6 _ M11 0 Try.underlying41 ?_
      refine KS.c (.tuple #[.int .u32 (u (wordK k 0#64 (getI x 15 5) (getI x 20 5) (immK k x) &&& 4294967295#64)), .bool (okB k 0#64 (getI x 15 5) (getI x 20 5) (immK k x))]) 26 #[.agg #[.int .i64 ((k + 1 : Nat) : Int), .int .i64 0, .int .i64 (s (getI x 15 5)), .int .i64 (s (getI x 20 5)), .int .i64 (s (immK k x))]] M11 (renc_t k hk69 0#64 (getI x 15 5) (getI x 20 5) (immK k x) w11) fun w12 M12 => ?_
      refine KS.p (.tuple #[.int .u32 (u (wordK k 0#64 (getI x 15 5) (getI x 20 5) (immK k x) &&& 4294967295#64)), .bool (okB k 0#64 (getI x 15 5) (getI x 20 5) (immK k x))]) ?_
      refine KS.p (.int .u32 (u (wordK k 0#64 (getI x 15 5) (getI x 20 5) (immK k x) &&& 4294967295#64))) ?_
      refine KS.p (.bool (okB k 0#64 (getI x 15 5) (getI x 20 5) (immK k x))) ?_
      refine KS.p (.int .u32 (u (wordK k 0#64 (getI x 15 5) (getI x 20 5) (immK k x) &&& 4294967295#64))) ?_
      refine KS.p (.bool (okB k 0#64 (getI x 15 5) (getI x 20 5) (immK k x))) ?_
      refine KS.n4 ?_
      refine KS.p (.bool (okB k 0#64 (getI x 15 5) (getI x 20 5) (immK k x))) ?_
      rcases Bool.eq_false_or_eq_true ((okB k 0#64 (getI x 15 5) (getI x 20 5) (immK k x))) with h13 | h13
      · skip
        refine Kw.pure (.bool true) (by kernel_rfl) (Kw.eqv (v := .bool ((okB k 0#64 (getI x 15 5) (getI x 20 5) (immK k x)))) (by kernel_rfl) (congrArg Value.bool h13)) ?_
        refine KS.p (.int .u32 (u (wordK k 0#64 (getI x 15 5) (getI x 20 5) (immK k x) &&& 4294967295#64))) ?_
        refine KS.p (.int .u32 (u x)) ?_
        refine KS.p (.bool ((u (wordK k 0#64 (getI x 15 5) (getI x 20 5) (immK k x) &&& 4294967295#64)) == (u x))) ?_
        refine KS.p (.bool ((u (wordK k 0#64 (getI x 15 5) (getI x 20 5) (immK k x) &&& 4294967295#64)) == (u x))) ?_
        refine KS.n2 ?_
        refine wp_cond_split (t := ((u (wordK k 0#64 (getI x 15 5) (getI x 20 5) (immK k x) &&& 4294967295#64)) == (u x))) (by kernel_rfl) (fun h14 => ?_) (fun h14 => ?_)
        · skip
          refine wp_seq (Kw.region ?_)
          refine KS.la 41 B6 _ M12 0 Try.underlying41 ?_
          refine Kw.storeAll 2 41 #[.int .i64 ((k + 1 : Nat) : Int), .int .i64 0, .int .i64 (s (getI x 15 5)), .int .i64 (s (getI x 20 5)), .int .i64 (s (immK k x))] M12 rfl (by kernel_rfl) (by kernel_rfl) (Eq.trans (b := 5) (by kernel_rfl) (by kernel_rfl)) (by kernel_rfl) (by kernel_rfl) fun w15 M15 => ?_
          refine KS.p (.bool true) ?_
          refine Kw.fin (Kw.then_normal (wp_ret (Kw.block_ret (Kw.then_ret (Kw.then_ret (Kw.block_ret (Kw.then_ret ?_)))))))
          have hr16 : (loadVar 41 ⟨B1, 0, none⟩).run Try.prog w15 = .ok (.agg #[.int .i64 ((k + 1 : Nat) : Int), .int .i64 0, .int .i64 (s (getI x 15 5)), .int .i64 (s (getI x 20 5)), .int .i64 (s (immK k x))]) w15 := run_loadVar_row w15 B1 41 41 _ (0, 0) _ (M15.get 2 rfl) Try.underlying41 rfl (by kernel_rfl)
          exact KS.r2 (.bool true) Try.results28 hr16 ⟨(by rw [decV_at x k hk69 (decN_at x k hk69 (eq_of_beq (D.symm.trans (by rw [h13, h14]; rfl)))), eA, eB, eC]; try rfl), M15.drop⟩
        · skip
          refine wp_skip (Kw.block_normal (Kw.then_normal (Kw.region ?_)))
          refine KS.p (.int .i64 ((k : Nat) : Int)) ?_
          refine Kw.pure (.int .i64 ((k + 1 : Nat) : Int)) (by kernel_rfl) (Kw.eqv (v := .int .i64 (IntKind.i64.wrap (((k : Nat) : Int) + (1 : Int)))) (by kernel_rfl) (congrArg (Value.int .i64) (by rw [IntWalk.i64_in _ (by omega)]; rfl))) ?_
          refine KS.p (.int .i64 ((k + 1 : Nat) : Int)) ?_
          refine KS.n2 ?_
          exact ⟨⟨k + 1, by omega, fun j hj => (by rcases Nat.lt_or_ge j k with h | h; { exact hno j h }; { obtain rfl : j = k := (by omega); rw [← D, h13, h14]; rfl }), KwJ.mkFr (by kernel_rfl), (Held.mem_tail M12)⟩, Kw.mlt (69 - (k + 1)) (69 - k) (by kernel_rfl) (by kernel_rfl) (by omega)⟩
      · skip
        refine Kw.pure (.bool false) (by kernel_rfl) (Kw.eqv (v := .bool ((okB k 0#64 (getI x 15 5) (getI x 20 5) (immK k x)))) (by kernel_rfl) (congrArg Value.bool h13)) ?_
        refine KS.k ?_
        refine KS.k ?_
        refine KS.k ?_
        refine KS.p (.bool false) ?_
        refine KS.n2 ?_
        refine wp_cond_false (by kernel_rfl) ?_
        refine wp_skip (Kw.block_normal (Kw.then_normal (Kw.region ?_)))
        refine KS.p (.int .i64 ((k : Nat) : Int)) ?_
        refine Kw.pure (.int .i64 ((k + 1 : Nat) : Int)) (by kernel_rfl) (Kw.eqv (v := .int .i64 (IntKind.i64.wrap (((k : Nat) : Int) + (1 : Int)))) (by kernel_rfl) (congrArg (Value.int .i64) (by rw [IntWalk.i64_in _ (by omega)]; rfl))) ?_
        refine KS.p (.int .i64 ((k + 1 : Nat) : Int)) ?_
        refine KS.n2 ?_
        exact ⟨⟨k + 1, by omega, fun j hj => (by rcases Nat.lt_or_ge j k with h | h; { exact hno j h }; { obtain rfl : j = k := (by omega); rw [← D, h13]; rfl }), KwJ.mkFr (by kernel_rfl), (Held.mem_tail M12)⟩, Kw.mlt (69 - (k + 1)) (69 - k) (by kernel_rfl) (by kernel_rfl) (by omega)⟩
    · skip
      have D := dec_iff k hk69 x xx
      have eA := rdK_B k hs x
      have eB := rs1K_B k hs x
      have eC := rs2K_B k hs x
      rw [eA, eB, eC] at D
      refine Kw.region ?_
      refine KS.p (.int .i64 ((k : Nat) : Int)) ?_
      refine Kw.pure (.int .i64 ((k + 1 : Nat) : Int)) (by kernel_rfl) (Kw.eqv (v := .int .i64 (IntKind.i64.wrap (((k : Nat) : Int) + (1 : Int)))) (by kernel_rfl) (congrArg (Value.int .i64) (by rw [IntWalk.i64_in _ (by omega)]; rfl))) ?_
      refine KS.p (.int .u32 (u x)) ?_
      refine KS.p (.int .u8 (sh k)) ?_
      refine KS.c (.int .i64 (s (immK k x))) 55 #[.int .u32 (u x), .int .u8 (sh k)] M3 (imm_c k hk69 x w3) fun w17 M17 => ?_
      refine KS.p (.agg #[.int .i64 ((k + 1 : Nat) : Int), .int .i64 0, .int .i64 0, .int .i64 0, .int .i64 (s (immK k x))]) ?_
      refine Kw.alloc #[.int .i64 0, .int .i64 0, .int .i64 0, .int .i64 0, .int .i64 0] 41 M17 (by kernel_rfl) (by kernel_rfl) fun w18 B18 M18 => ?_
      refine Kw.storeAll 0 41 #[.int .i64 ((k + 1 : Nat) : Int), .int .i64 0, .int .i64 0, .int .i64 0, .int .i64 (s (immK k x))] M18 rfl (by kernel_rfl) (by kernel_rfl) (Eq.trans (b := 5) (by kernel_rfl) (by kernel_rfl)) (by kernel_rfl) (by kernel_rfl) fun w19 M19 => ?_
      refine KS.n5 ?_
      refine KS.p (.int .u8 (sh k)) ?_
      refine Kw.pure (.bool true) (by kernel_rfl) (Kw.eqv (v := .bool ((sh k) != (83 : Int))) (by kernel_rfl) (congrArg Value.bool (by rw [hs]; rfl))) ?_
      refine KS.p (.bool true) ?_
      refine KS.p (.int .u8 (sh k)) ?_
      refine Kw.pure (.bool false) (by kernel_rfl) (Kw.eqv (v := .bool ((sh k) != (66 : Int))) (by kernel_rfl) (congrArg Value.bool (by rw [hs]; rfl))) ?_
      refine KS.p (.bool false) ?_
      refine KS.p (.bool false) ?_
      refine KS.k ?_
      refine KS.k ?_
      refine KS.p (.bool false) ?_
      refine KS.n2 ?_
      refine wp_cond_false (by kernel_rfl) ?_
      refine wp_skip (Kw.then_normal (wp_seq (wp_seq (Kw.region ?_))))
      refine KS.p (.int .u8 (sh k)) ?_
      refine Kw.pure (.bool true) (by kernel_rfl) (Kw.eqv (v := .bool ((sh k) != (85 : Int))) (by kernel_rfl) (congrArg Value.bool (by rw [hs]; rfl))) ?_
      refine KS.p (.bool true) ?_
      refine KS.p (.int .u8 (sh k)) ?_
      refine Kw.pure (.bool true) (by kernel_rfl) (Kw.eqv (v := .bool ((sh k) != (74 : Int))) (by kernel_rfl) (congrArg Value.bool (by rw [hs]; rfl))) ?_
      refine KS.p (.bool true) ?_
      refine KS.p (.bool true) ?_
      refine KS.p (.int .u8 (sh k)) ?_
      refine Kw.pure (.bool true) (by kernel_rfl) (Kw.eqv (v := .bool ((sh k) != (78 : Int))) (by kernel_rfl) (congrArg Value.bool (by rw [hs]; rfl))) ?_
      refine KS.p (.bool true) ?_
      refine KS.n2 ?_
      refine wp_cond_true (by kernel_rfl) ?_
      refine Kw.region ?_
      refine KS.p (.int .u32 (u x)) ?_
      refine KS.c (.int .u64 (u (getI x 15 5))) 56 #[.int .u32 (u x), .int .i64 15, .int .i64 5] M19 (get13_c x 15 5 w19) fun w20 M20 => ?_
      refine Kw.pure (.int .i64 (s (getI x 15 5))) (by kernel_rfl) (Kw.eqv (v := .int .i64 (IntKind.i64.wrap (u (getI x 15 5)))) (by kernel_rfl) (congrArg (Value.int .i64) (wrapi_u (getI x 15 5)))) ?_
      refine KS.p (.pointer (some ⟨B18, 2, none⟩)) ?_
      refine Kw.storeCell 0 3 2 (.int .i64 (s (getI x 15 5))) #[.int .i64 ((k + 1 : Nat) : Int), .int .i64 0, .int .i64 (s (getI x 15 5)), .int .i64 0, .int .i64 (s (immK k x))] M20 rfl (by kernel_rfl) (by kernel_rfl) (show 2 < 5 from by decide) (by kernel_rfl) rfl (by kernel_rfl) (by kernel_rfl) fun w21 M21 => ?_
      refine KS.n5 ?_
      refine KS.p (.int .u8 (sh k)) ?_
      refine Kw.pure (.bool false) (by kernel_rfl) (Kw.eqv (v := .bool ((sh k) == (82 : Int))) (by kernel_rfl) (congrArg Value.bool (by rw [hs]; rfl))) ?_
      refine KS.p (.bool false) ?_
      refine KS.p (.int .u8 (sh k)) ?_
      refine Kw.pure (.bool false) (by kernel_rfl) (Kw.eqv (v := .bool ((sh k) == (83 : Int))) (by kernel_rfl) (congrArg Value.bool (by rw [hs]; rfl))) ?_
      refine KS.p (.bool false) ?_
      refine KS.p (.bool false) ?_
      refine KS.p (.int .u8 (sh k)) ?_
      refine Kw.pure (.bool true) (by kernel_rfl) (Kw.eqv (v := .bool ((sh k) == (66 : Int))) (by kernel_rfl) (congrArg Value.bool (by rw [hs]; rfl))) ?_
      refine KS.p (.bool true) ?_
      refine KS.n2 ?_
      refine wp_cond_true (by kernel_rfl) ?_
      refine Kw.region ?_
      refine KS.p (.int .u32 (u x)) ?_
      refine KS.c (.int .u64 (u (getI x 20 5))) 56 #[.int .u32 (u x), .int .i64 20, .int .i64 5] M21 (get13_c x 20 5 w21) fun w22 M22 => ?_
      refine Kw.pure (.int .i64 (s (getI x 20 5))) (by kernel_rfl) (Kw.eqv (v := .int .i64 (IntKind.i64.wrap (u (getI x 20 5)))) (by kernel_rfl) (congrArg (Value.int .i64) (wrapi_u (getI x 20 5)))) ?_
      refine KS.p (.pointer (some ⟨B18, 3, none⟩)) ?_
      refine Kw.storeCell 0 3 3 (.int .i64 (s (getI x 20 5))) #[.int .i64 ((k + 1 : Nat) : Int), .int .i64 0, .int .i64 (s (getI x 15 5)), .int .i64 (s (getI x 20 5)), .int .i64 (s (immK k x))] M22 rfl (by kernel_rfl) (by kernel_rfl) (show 3 < 5 from by decide) (by kernel_rfl) rfl (by kernel_rfl) (by kernel_rfl) fun w23 M23 => ?_
      refine KS.n4 ?_
      refine KS.la 41 B18 _ M23 0 Try.underlying41 ?_
      refine KS.c (.tuple #[.int .u32 (u (wordK k 0#64 (getI x 15 5) (getI x 20 5) (immK k x) &&& 4294967295#64)), .bool (okB k 0#64 (getI x 15 5) (getI x 20 5) (immK k x))]) 26 #[.agg #[.int .i64 ((k + 1 : Nat) : Int), .int .i64 0, .int .i64 (s (getI x 15 5)), .int .i64 (s (getI x 20 5)), .int .i64 (s (immK k x))]] M23 (renc_t k hk69 0#64 (getI x 15 5) (getI x 20 5) (immK k x) w23) fun w24 M24 => ?_
      refine KS.p (.tuple #[.int .u32 (u (wordK k 0#64 (getI x 15 5) (getI x 20 5) (immK k x) &&& 4294967295#64)), .bool (okB k 0#64 (getI x 15 5) (getI x 20 5) (immK k x))]) ?_
      refine KS.p (.int .u32 (u (wordK k 0#64 (getI x 15 5) (getI x 20 5) (immK k x) &&& 4294967295#64))) ?_
      refine KS.p (.bool (okB k 0#64 (getI x 15 5) (getI x 20 5) (immK k x))) ?_
      refine KS.p (.int .u32 (u (wordK k 0#64 (getI x 15 5) (getI x 20 5) (immK k x) &&& 4294967295#64))) ?_
      refine KS.p (.bool (okB k 0#64 (getI x 15 5) (getI x 20 5) (immK k x))) ?_
      refine KS.n4 ?_
      refine KS.p (.bool (okB k 0#64 (getI x 15 5) (getI x 20 5) (immK k x))) ?_
      rcases Bool.eq_false_or_eq_true ((okB k 0#64 (getI x 15 5) (getI x 20 5) (immK k x))) with h25 | h25
      · skip
        refine Kw.pure (.bool true) (by kernel_rfl) (Kw.eqv (v := .bool ((okB k 0#64 (getI x 15 5) (getI x 20 5) (immK k x)))) (by kernel_rfl) (congrArg Value.bool h25)) ?_
        refine KS.p (.int .u32 (u (wordK k 0#64 (getI x 15 5) (getI x 20 5) (immK k x) &&& 4294967295#64))) ?_
        refine KS.p (.int .u32 (u x)) ?_
        refine KS.p (.bool ((u (wordK k 0#64 (getI x 15 5) (getI x 20 5) (immK k x) &&& 4294967295#64)) == (u x))) ?_
        refine KS.p (.bool ((u (wordK k 0#64 (getI x 15 5) (getI x 20 5) (immK k x) &&& 4294967295#64)) == (u x))) ?_
        refine KS.n2 ?_
        refine wp_cond_split (t := ((u (wordK k 0#64 (getI x 15 5) (getI x 20 5) (immK k x) &&& 4294967295#64)) == (u x))) (by kernel_rfl) (fun h26 => ?_) (fun h26 => ?_)
        · skip
          refine wp_seq (Kw.region ?_)
          refine KS.la 41 B18 _ M24 0 Try.underlying41 ?_
          refine Kw.storeAll 2 41 #[.int .i64 ((k + 1 : Nat) : Int), .int .i64 0, .int .i64 (s (getI x 15 5)), .int .i64 (s (getI x 20 5)), .int .i64 (s (immK k x))] M24 rfl (by kernel_rfl) (by kernel_rfl) (Eq.trans (b := 5) (by kernel_rfl) (by kernel_rfl)) (by kernel_rfl) (by kernel_rfl) fun w27 M27 => ?_
          refine KS.p (.bool true) ?_
          refine Kw.fin (Kw.then_normal (wp_ret (Kw.block_ret (Kw.then_ret (Kw.then_ret (Kw.block_ret (Kw.then_ret ?_)))))))
          have hr28 : (loadVar 41 ⟨B1, 0, none⟩).run Try.prog w27 = .ok (.agg #[.int .i64 ((k + 1 : Nat) : Int), .int .i64 0, .int .i64 (s (getI x 15 5)), .int .i64 (s (getI x 20 5)), .int .i64 (s (immK k x))]) w27 := run_loadVar_row w27 B1 41 41 _ (0, 0) _ (M27.get 2 rfl) Try.underlying41 rfl (by kernel_rfl)
          exact KS.r2 (.bool true) Try.results28 hr28 ⟨(by rw [decV_at x k hk69 (decN_at x k hk69 (eq_of_beq (D.symm.trans (by rw [h25, h26]; rfl)))), eA, eB, eC]; try rfl), M27.drop⟩
        · skip
          refine wp_skip (Kw.block_normal (Kw.then_normal (Kw.region ?_)))
          refine KS.p (.int .i64 ((k : Nat) : Int)) ?_
          refine Kw.pure (.int .i64 ((k + 1 : Nat) : Int)) (by kernel_rfl) (Kw.eqv (v := .int .i64 (IntKind.i64.wrap (((k : Nat) : Int) + (1 : Int)))) (by kernel_rfl) (congrArg (Value.int .i64) (by rw [IntWalk.i64_in _ (by omega)]; rfl))) ?_
          refine KS.p (.int .i64 ((k + 1 : Nat) : Int)) ?_
          refine KS.n2 ?_
          exact ⟨⟨k + 1, by omega, fun j hj => (by rcases Nat.lt_or_ge j k with h | h; { exact hno j h }; { obtain rfl : j = k := (by omega); rw [← D, h25, h26]; rfl }), KwJ.mkFr (by kernel_rfl), (Held.mem_tail M24)⟩, Kw.mlt (69 - (k + 1)) (69 - k) (by kernel_rfl) (by kernel_rfl) (by omega)⟩
      · skip
        refine Kw.pure (.bool false) (by kernel_rfl) (Kw.eqv (v := .bool ((okB k 0#64 (getI x 15 5) (getI x 20 5) (immK k x)))) (by kernel_rfl) (congrArg Value.bool h25)) ?_
        refine KS.k ?_
        refine KS.k ?_
        refine KS.k ?_
        refine KS.p (.bool false) ?_
        refine KS.n2 ?_
        refine wp_cond_false (by kernel_rfl) ?_
        refine wp_skip (Kw.block_normal (Kw.then_normal (Kw.region ?_)))
        refine KS.p (.int .i64 ((k : Nat) : Int)) ?_
        refine Kw.pure (.int .i64 ((k + 1 : Nat) : Int)) (by kernel_rfl) (Kw.eqv (v := .int .i64 (IntKind.i64.wrap (((k : Nat) : Int) + (1 : Int)))) (by kernel_rfl) (congrArg (Value.int .i64) (by rw [IntWalk.i64_in _ (by omega)]; rfl))) ?_
        refine KS.p (.int .i64 ((k + 1 : Nat) : Int)) ?_
        refine KS.n2 ?_
        exact ⟨⟨k + 1, by omega, fun j hj => (by rcases Nat.lt_or_ge j k with h | h; { exact hno j h }; { obtain rfl : j = k := (by omega); rw [← D, h25]; rfl }), KwJ.mkFr (by kernel_rfl), (Held.mem_tail M24)⟩, Kw.mlt (69 - (k + 1)) (69 - k) (by kernel_rfl) (by kernel_rfl) (by omega)⟩
    · skip
      have D := dec_iff k hk69 x xx
      have eA := rdK_N k hs x
      have eB := rs1K_N k hs x
      have eC := rs2K_N k hs x
      rw [eA, eB, eC] at D
      refine Kw.region ?_
      refine KS.p (.int .i64 ((k : Nat) : Int)) ?_
      refine Kw.pure (.int .i64 ((k + 1 : Nat) : Int)) (by kernel_rfl) (Kw.eqv (v := .int .i64 (IntKind.i64.wrap (((k : Nat) : Int) + (1 : Int)))) (by kernel_rfl) (congrArg (Value.int .i64) (by rw [IntWalk.i64_in _ (by omega)]; rfl))) ?_
      refine KS.p (.int .u32 (u x)) ?_
      refine KS.p (.int .u8 (sh k)) ?_
      refine KS.c (.int .i64 (s (immK k x))) 55 #[.int .u32 (u x), .int .u8 (sh k)] M3 (imm_c k hk69 x w3) fun w29 M29 => ?_
      refine KS.p (.agg #[.int .i64 ((k + 1 : Nat) : Int), .int .i64 0, .int .i64 0, .int .i64 0, .int .i64 (s (immK k x))]) ?_
      refine Kw.alloc #[.int .i64 0, .int .i64 0, .int .i64 0, .int .i64 0, .int .i64 0] 41 M29 (by kernel_rfl) (by kernel_rfl) fun w30 B30 M30 => ?_
      refine Kw.storeAll 0 41 #[.int .i64 ((k + 1 : Nat) : Int), .int .i64 0, .int .i64 0, .int .i64 0, .int .i64 (s (immK k x))] M30 rfl (by kernel_rfl) (by kernel_rfl) (Eq.trans (b := 5) (by kernel_rfl) (by kernel_rfl)) (by kernel_rfl) (by kernel_rfl) fun w31 M31 => ?_
      refine KS.n5 ?_
      refine KS.p (.int .u8 (sh k)) ?_
      refine Kw.pure (.bool true) (by kernel_rfl) (Kw.eqv (v := .bool ((sh k) != (83 : Int))) (by kernel_rfl) (congrArg Value.bool (by rw [hs]; rfl))) ?_
      refine KS.p (.bool true) ?_
      refine KS.p (.int .u8 (sh k)) ?_
      refine Kw.pure (.bool true) (by kernel_rfl) (Kw.eqv (v := .bool ((sh k) != (66 : Int))) (by kernel_rfl) (congrArg Value.bool (by rw [hs]; rfl))) ?_
      refine KS.p (.bool true) ?_
      refine KS.p (.bool true) ?_
      refine KS.p (.int .u8 (sh k)) ?_
      refine Kw.pure (.bool false) (by kernel_rfl) (Kw.eqv (v := .bool ((sh k) != (78 : Int))) (by kernel_rfl) (congrArg Value.bool (by rw [hs]; rfl))) ?_
      refine KS.p (.bool false) ?_
      refine KS.n2 ?_
      refine wp_cond_false (by kernel_rfl) ?_
      refine wp_skip (Kw.then_normal (wp_seq (wp_seq (Kw.region ?_))))
      refine KS.p (.int .u8 (sh k)) ?_
      refine Kw.pure (.bool true) (by kernel_rfl) (Kw.eqv (v := .bool ((sh k) != (85 : Int))) (by kernel_rfl) (congrArg Value.bool (by rw [hs]; rfl))) ?_
      refine KS.p (.bool true) ?_
      refine KS.p (.int .u8 (sh k)) ?_
      refine Kw.pure (.bool true) (by kernel_rfl) (Kw.eqv (v := .bool ((sh k) != (74 : Int))) (by kernel_rfl) (congrArg Value.bool (by rw [hs]; rfl))) ?_
      refine KS.p (.bool true) ?_
      refine KS.p (.bool true) ?_
      refine KS.p (.int .u8 (sh k)) ?_
      refine Kw.pure (.bool false) (by kernel_rfl) (Kw.eqv (v := .bool ((sh k) != (78 : Int))) (by kernel_rfl) (congrArg Value.bool (by rw [hs]; rfl))) ?_
      refine KS.p (.bool false) ?_
      refine KS.n2 ?_
      refine wp_cond_false (by kernel_rfl) ?_
      refine wp_skip (Kw.then_normal (wp_seq (wp_seq (Kw.region ?_))))
      refine KS.p (.int .u8 (sh k)) ?_
      refine Kw.pure (.bool false) (by kernel_rfl) (Kw.eqv (v := .bool ((sh k) == (82 : Int))) (by kernel_rfl) (congrArg Value.bool (by rw [hs]; rfl))) ?_
      refine KS.p (.bool false) ?_
      refine KS.p (.int .u8 (sh k)) ?_
      refine Kw.pure (.bool false) (by kernel_rfl) (Kw.eqv (v := .bool ((sh k) == (83 : Int))) (by kernel_rfl) (congrArg Value.bool (by rw [hs]; rfl))) ?_
      refine KS.p (.bool false) ?_
      refine KS.p (.bool false) ?_
      refine KS.p (.int .u8 (sh k)) ?_
      refine Kw.pure (.bool false) (by kernel_rfl) (Kw.eqv (v := .bool ((sh k) == (66 : Int))) (by kernel_rfl) (congrArg Value.bool (by rw [hs]; rfl))) ?_
      refine KS.p (.bool false) ?_
      refine KS.n2 ?_
      refine wp_cond_false (by kernel_rfl) ?_
      refine wp_skip (Kw.then_normal (wp_seq (Kw.region ?_)))
      refine KS.la 41 B30 _ M31 0 Try.underlying41 ?_
      refine KS.c (.tuple #[.int .u32 (u (wordK k 0#64 0#64 0#64 (immK k x) &&& 4294967295#64)), .bool (okB k 0#64 0#64 0#64 (immK k x))]) 26 #[.agg #[.int .i64 ((k + 1 : Nat) : Int), .int .i64 0, .int .i64 0, .int .i64 0, .int .i64 (s (immK k x))]] M31 (renc_t k hk69 0#64 0#64 0#64 (immK k x) w31) fun w32 M32 => ?_
      refine KS.p (.tuple #[.int .u32 (u (wordK k 0#64 0#64 0#64 (immK k x) &&& 4294967295#64)), .bool (okB k 0#64 0#64 0#64 (immK k x))]) ?_
      refine KS.p (.int .u32 (u (wordK k 0#64 0#64 0#64 (immK k x) &&& 4294967295#64))) ?_
      refine KS.p (.bool (okB k 0#64 0#64 0#64 (immK k x))) ?_
      refine KS.p (.int .u32 (u (wordK k 0#64 0#64 0#64 (immK k x) &&& 4294967295#64))) ?_
      refine KS.p (.bool (okB k 0#64 0#64 0#64 (immK k x))) ?_
      refine KS.n4 ?_
      refine KS.p (.bool (okB k 0#64 0#64 0#64 (immK k x))) ?_
      rcases Bool.eq_false_or_eq_true ((okB k 0#64 0#64 0#64 (immK k x))) with h33 | h33
      · skip
        refine Kw.pure (.bool true) (by kernel_rfl) (Kw.eqv (v := .bool ((okB k 0#64 0#64 0#64 (immK k x)))) (by kernel_rfl) (congrArg Value.bool h33)) ?_
        refine KS.p (.int .u32 (u (wordK k 0#64 0#64 0#64 (immK k x) &&& 4294967295#64))) ?_
        refine KS.p (.int .u32 (u x)) ?_
        refine KS.p (.bool ((u (wordK k 0#64 0#64 0#64 (immK k x) &&& 4294967295#64)) == (u x))) ?_
        refine KS.p (.bool ((u (wordK k 0#64 0#64 0#64 (immK k x) &&& 4294967295#64)) == (u x))) ?_
        refine KS.n2 ?_
        refine wp_cond_split (t := ((u (wordK k 0#64 0#64 0#64 (immK k x) &&& 4294967295#64)) == (u x))) (by kernel_rfl) (fun h34 => ?_) (fun h34 => ?_)
        · skip
          refine wp_seq (Kw.region ?_)
          refine KS.la 41 B30 _ M32 0 Try.underlying41 ?_
          refine Kw.storeAll 2 41 #[.int .i64 ((k + 1 : Nat) : Int), .int .i64 0, .int .i64 0, .int .i64 0, .int .i64 (s (immK k x))] M32 rfl (by kernel_rfl) (by kernel_rfl) (Eq.trans (b := 5) (by kernel_rfl) (by kernel_rfl)) (by kernel_rfl) (by kernel_rfl) fun w35 M35 => ?_
          refine KS.p (.bool true) ?_
          refine Kw.fin (Kw.then_normal (wp_ret (Kw.block_ret (Kw.then_ret (Kw.then_ret (Kw.block_ret (Kw.then_ret ?_)))))))
          have hr36 : (loadVar 41 ⟨B1, 0, none⟩).run Try.prog w35 = .ok (.agg #[.int .i64 ((k + 1 : Nat) : Int), .int .i64 0, .int .i64 0, .int .i64 0, .int .i64 (s (immK k x))]) w35 := run_loadVar_row w35 B1 41 41 _ (0, 0) _ (M35.get 2 rfl) Try.underlying41 rfl (by kernel_rfl)
          exact KS.r2 (.bool true) Try.results28 hr36 ⟨(by rw [decV_at x k hk69 (decN_at x k hk69 (eq_of_beq (D.symm.trans (by rw [h33, h34]; rfl)))), eA, eB, eC]; try rfl), M35.drop⟩
        · skip
          refine wp_skip (Kw.block_normal (Kw.then_normal (Kw.region ?_)))
          refine KS.p (.int .i64 ((k : Nat) : Int)) ?_
          refine Kw.pure (.int .i64 ((k + 1 : Nat) : Int)) (by kernel_rfl) (Kw.eqv (v := .int .i64 (IntKind.i64.wrap (((k : Nat) : Int) + (1 : Int)))) (by kernel_rfl) (congrArg (Value.int .i64) (by rw [IntWalk.i64_in _ (by omega)]; rfl))) ?_
          refine KS.p (.int .i64 ((k + 1 : Nat) : Int)) ?_
          refine KS.n2 ?_
          exact ⟨⟨k + 1, by omega, fun j hj => (by rcases Nat.lt_or_ge j k with h | h; { exact hno j h }; { obtain rfl : j = k := (by omega); rw [← D, h33, h34]; rfl }), KwJ.mkFr (by kernel_rfl), (Held.mem_tail M32)⟩, Kw.mlt (69 - (k + 1)) (69 - k) (by kernel_rfl) (by kernel_rfl) (by omega)⟩
      · skip
        refine Kw.pure (.bool false) (by kernel_rfl) (Kw.eqv (v := .bool ((okB k 0#64 0#64 0#64 (immK k x)))) (by kernel_rfl) (congrArg Value.bool h33)) ?_
        refine KS.k ?_
        refine KS.k ?_
        refine KS.k ?_
        refine KS.p (.bool false) ?_
        refine KS.n2 ?_
        refine wp_cond_false (by kernel_rfl) ?_
        refine wp_skip (Kw.block_normal (Kw.then_normal (Kw.region ?_)))
        refine KS.p (.int .i64 ((k : Nat) : Int)) ?_
        refine Kw.pure (.int .i64 ((k + 1 : Nat) : Int)) (by kernel_rfl) (Kw.eqv (v := .int .i64 (IntKind.i64.wrap (((k : Nat) : Int) + (1 : Int)))) (by kernel_rfl) (congrArg (Value.int .i64) (by rw [IntWalk.i64_in _ (by omega)]; rfl))) ?_
        refine KS.p (.int .i64 ((k + 1 : Nat) : Int)) ?_
        refine KS.n2 ?_
        exact ⟨⟨k + 1, by omega, fun j hj => (by rcases Nat.lt_or_ge j k with h | h; { exact hno j h }; { obtain rfl : j = k := (by omega); rw [← D, h33]; rfl }), KwJ.mkFr (by kernel_rfl), (Held.mem_tail M32)⟩, Kw.mlt (69 - (k + 1)) (69 - k) (by kernel_rfl) (by kernel_rfl) (by omega)⟩
    · skip
      have D := dec_iff k hk69 x xx
      have eA := rdK_U k hs x
      have eB := rs1K_U k hs x
      have eC := rs2K_U k hs x
      rw [eA, eB, eC] at D
      refine Kw.region ?_
      refine KS.p (.int .i64 ((k : Nat) : Int)) ?_
      refine Kw.pure (.int .i64 ((k + 1 : Nat) : Int)) (by kernel_rfl) (Kw.eqv (v := .int .i64 (IntKind.i64.wrap (((k : Nat) : Int) + (1 : Int)))) (by kernel_rfl) (congrArg (Value.int .i64) (by rw [IntWalk.i64_in _ (by omega)]; rfl))) ?_
      refine KS.p (.int .u32 (u x)) ?_
      refine KS.p (.int .u8 (sh k)) ?_
      refine KS.c (.int .i64 (s (immK k x))) 55 #[.int .u32 (u x), .int .u8 (sh k)] M3 (imm_c k hk69 x w3) fun w37 M37 => ?_
      refine KS.p (.agg #[.int .i64 ((k + 1 : Nat) : Int), .int .i64 0, .int .i64 0, .int .i64 0, .int .i64 (s (immK k x))]) ?_
      refine Kw.alloc #[.int .i64 0, .int .i64 0, .int .i64 0, .int .i64 0, .int .i64 0] 41 M37 (by kernel_rfl) (by kernel_rfl) fun w38 B38 M38 => ?_
      refine Kw.storeAll 0 41 #[.int .i64 ((k + 1 : Nat) : Int), .int .i64 0, .int .i64 0, .int .i64 0, .int .i64 (s (immK k x))] M38 rfl (by kernel_rfl) (by kernel_rfl) (Eq.trans (b := 5) (by kernel_rfl) (by kernel_rfl)) (by kernel_rfl) (by kernel_rfl) fun w39 M39 => ?_
      refine KS.n5 ?_
      refine KS.p (.int .u8 (sh k)) ?_
      refine Kw.pure (.bool true) (by kernel_rfl) (Kw.eqv (v := .bool ((sh k) != (83 : Int))) (by kernel_rfl) (congrArg Value.bool (by rw [hs]; rfl))) ?_
      refine KS.p (.bool true) ?_
      refine KS.p (.int .u8 (sh k)) ?_
      refine Kw.pure (.bool true) (by kernel_rfl) (Kw.eqv (v := .bool ((sh k) != (66 : Int))) (by kernel_rfl) (congrArg Value.bool (by rw [hs]; rfl))) ?_
      refine KS.p (.bool true) ?_
      refine KS.p (.bool true) ?_
      refine KS.p (.int .u8 (sh k)) ?_
      refine Kw.pure (.bool true) (by kernel_rfl) (Kw.eqv (v := .bool ((sh k) != (78 : Int))) (by kernel_rfl) (congrArg Value.bool (by rw [hs]; rfl))) ?_
      refine KS.p (.bool true) ?_
      refine KS.n2 ?_
      refine wp_cond_true (by kernel_rfl) ?_
      refine Kw.region ?_
      refine KS.p (.int .u32 (u x)) ?_
      refine KS.c (.int .u64 (u (getI x 7 5))) 56 #[.int .u32 (u x), .int .i64 7, .int .i64 5] M39 (get13_c x 7 5 w39) fun w40 M40 => ?_
      refine Kw.pure (.int .i64 (s (getI x 7 5))) (by kernel_rfl) (Kw.eqv (v := .int .i64 (IntKind.i64.wrap (u (getI x 7 5)))) (by kernel_rfl) (congrArg (Value.int .i64) (wrapi_u (getI x 7 5)))) ?_
      refine KS.p (.pointer (some ⟨B38, 1, none⟩)) ?_
      refine Kw.storeCell 0 3 1 (.int .i64 (s (getI x 7 5))) #[.int .i64 ((k + 1 : Nat) : Int), .int .i64 (s (getI x 7 5)), .int .i64 0, .int .i64 0, .int .i64 (s (immK k x))] M40 rfl (by kernel_rfl) (by kernel_rfl) (show 1 < 5 from by decide) (by kernel_rfl) rfl (by kernel_rfl) (by kernel_rfl) fun w41 M41 => ?_
      refine KS.n5 ?_
      refine KS.p (.int .u8 (sh k)) ?_
      refine Kw.pure (.bool false) (by kernel_rfl) (Kw.eqv (v := .bool ((sh k) != (85 : Int))) (by kernel_rfl) (congrArg Value.bool (by rw [hs]; rfl))) ?_
      refine KS.p (.bool false) ?_
      refine KS.k ?_
      refine KS.k ?_
      refine KS.p (.bool false) ?_
      refine KS.p (.bool false) ?_
      refine KS.k ?_
      refine KS.k ?_
      refine KS.p (.bool false) ?_
      refine KS.n2 ?_
      refine wp_cond_false (by kernel_rfl) ?_
      refine wp_skip (Kw.then_normal (wp_seq (wp_seq (Kw.region ?_))))
      refine KS.p (.int .u8 (sh k)) ?_
      refine Kw.pure (.bool false) (by kernel_rfl) (Kw.eqv (v := .bool ((sh k) == (82 : Int))) (by kernel_rfl) (congrArg Value.bool (by rw [hs]; rfl))) ?_
      refine KS.p (.bool false) ?_
      refine KS.p (.int .u8 (sh k)) ?_
      refine Kw.pure (.bool false) (by kernel_rfl) (Kw.eqv (v := .bool ((sh k) == (83 : Int))) (by kernel_rfl) (congrArg Value.bool (by rw [hs]; rfl))) ?_
      refine KS.p (.bool false) ?_
      refine KS.p (.bool false) ?_
      refine KS.p (.int .u8 (sh k)) ?_
      refine Kw.pure (.bool false) (by kernel_rfl) (Kw.eqv (v := .bool ((sh k) == (66 : Int))) (by kernel_rfl) (congrArg Value.bool (by rw [hs]; rfl))) ?_
      refine KS.p (.bool false) ?_
      refine KS.n2 ?_
      refine wp_cond_false (by kernel_rfl) ?_
      refine wp_skip (Kw.then_normal (wp_seq (Kw.region ?_)))
      refine KS.la 41 B38 _ M41 0 Try.underlying41 ?_
      refine KS.c (.tuple #[.int .u32 (u (wordK k (getI x 7 5) 0#64 0#64 (immK k x) &&& 4294967295#64)), .bool (okB k (getI x 7 5) 0#64 0#64 (immK k x))]) 26 #[.agg #[.int .i64 ((k + 1 : Nat) : Int), .int .i64 (s (getI x 7 5)), .int .i64 0, .int .i64 0, .int .i64 (s (immK k x))]] M41 (renc_t k hk69 (getI x 7 5) 0#64 0#64 (immK k x) w41) fun w42 M42 => ?_
      refine KS.p (.tuple #[.int .u32 (u (wordK k (getI x 7 5) 0#64 0#64 (immK k x) &&& 4294967295#64)), .bool (okB k (getI x 7 5) 0#64 0#64 (immK k x))]) ?_
      refine KS.p (.int .u32 (u (wordK k (getI x 7 5) 0#64 0#64 (immK k x) &&& 4294967295#64))) ?_
      refine KS.p (.bool (okB k (getI x 7 5) 0#64 0#64 (immK k x))) ?_
      refine KS.p (.int .u32 (u (wordK k (getI x 7 5) 0#64 0#64 (immK k x) &&& 4294967295#64))) ?_
      refine KS.p (.bool (okB k (getI x 7 5) 0#64 0#64 (immK k x))) ?_
      refine KS.n4 ?_
      refine KS.p (.bool (okB k (getI x 7 5) 0#64 0#64 (immK k x))) ?_
      rcases Bool.eq_false_or_eq_true ((okB k (getI x 7 5) 0#64 0#64 (immK k x))) with h43 | h43
      · skip
        refine Kw.pure (.bool true) (by kernel_rfl) (Kw.eqv (v := .bool ((okB k (getI x 7 5) 0#64 0#64 (immK k x)))) (by kernel_rfl) (congrArg Value.bool h43)) ?_
        refine KS.p (.int .u32 (u (wordK k (getI x 7 5) 0#64 0#64 (immK k x) &&& 4294967295#64))) ?_
        refine KS.p (.int .u32 (u x)) ?_
        refine KS.p (.bool ((u (wordK k (getI x 7 5) 0#64 0#64 (immK k x) &&& 4294967295#64)) == (u x))) ?_
        refine KS.p (.bool ((u (wordK k (getI x 7 5) 0#64 0#64 (immK k x) &&& 4294967295#64)) == (u x))) ?_
        refine KS.n2 ?_
        refine wp_cond_split (t := ((u (wordK k (getI x 7 5) 0#64 0#64 (immK k x) &&& 4294967295#64)) == (u x))) (by kernel_rfl) (fun h44 => ?_) (fun h44 => ?_)
        · skip
          refine wp_seq (Kw.region ?_)
          refine KS.la 41 B38 _ M42 0 Try.underlying41 ?_
          refine Kw.storeAll 2 41 #[.int .i64 ((k + 1 : Nat) : Int), .int .i64 (s (getI x 7 5)), .int .i64 0, .int .i64 0, .int .i64 (s (immK k x))] M42 rfl (by kernel_rfl) (by kernel_rfl) (Eq.trans (b := 5) (by kernel_rfl) (by kernel_rfl)) (by kernel_rfl) (by kernel_rfl) fun w45 M45 => ?_
          refine KS.p (.bool true) ?_
          refine Kw.fin (Kw.then_normal (wp_ret (Kw.block_ret (Kw.then_ret (Kw.then_ret (Kw.block_ret (Kw.then_ret ?_)))))))
          have hr46 : (loadVar 41 ⟨B1, 0, none⟩).run Try.prog w45 = .ok (.agg #[.int .i64 ((k + 1 : Nat) : Int), .int .i64 (s (getI x 7 5)), .int .i64 0, .int .i64 0, .int .i64 (s (immK k x))]) w45 := run_loadVar_row w45 B1 41 41 _ (0, 0) _ (M45.get 2 rfl) Try.underlying41 rfl (by kernel_rfl)
          exact KS.r2 (.bool true) Try.results28 hr46 ⟨(by rw [decV_at x k hk69 (decN_at x k hk69 (eq_of_beq (D.symm.trans (by rw [h43, h44]; rfl)))), eA, eB, eC]; try rfl), M45.drop⟩
        · skip
          refine wp_skip (Kw.block_normal (Kw.then_normal (Kw.region ?_)))
          refine KS.p (.int .i64 ((k : Nat) : Int)) ?_
          refine Kw.pure (.int .i64 ((k + 1 : Nat) : Int)) (by kernel_rfl) (Kw.eqv (v := .int .i64 (IntKind.i64.wrap (((k : Nat) : Int) + (1 : Int)))) (by kernel_rfl) (congrArg (Value.int .i64) (by rw [IntWalk.i64_in _ (by omega)]; rfl))) ?_
          refine KS.p (.int .i64 ((k + 1 : Nat) : Int)) ?_
          refine KS.n2 ?_
          exact ⟨⟨k + 1, by omega, fun j hj => (by rcases Nat.lt_or_ge j k with h | h; { exact hno j h }; { obtain rfl : j = k := (by omega); rw [← D, h43, h44]; rfl }), KwJ.mkFr (by kernel_rfl), (Held.mem_tail M42)⟩, Kw.mlt (69 - (k + 1)) (69 - k) (by kernel_rfl) (by kernel_rfl) (by omega)⟩
      · skip
        refine Kw.pure (.bool false) (by kernel_rfl) (Kw.eqv (v := .bool ((okB k (getI x 7 5) 0#64 0#64 (immK k x)))) (by kernel_rfl) (congrArg Value.bool h43)) ?_
        refine KS.k ?_
        refine KS.k ?_
        refine KS.k ?_
        refine KS.p (.bool false) ?_
        refine KS.n2 ?_
        refine wp_cond_false (by kernel_rfl) ?_
        refine wp_skip (Kw.block_normal (Kw.then_normal (Kw.region ?_)))
        refine KS.p (.int .i64 ((k : Nat) : Int)) ?_
        refine Kw.pure (.int .i64 ((k + 1 : Nat) : Int)) (by kernel_rfl) (Kw.eqv (v := .int .i64 (IntKind.i64.wrap (((k : Nat) : Int) + (1 : Int)))) (by kernel_rfl) (congrArg (Value.int .i64) (by rw [IntWalk.i64_in _ (by omega)]; rfl))) ?_
        refine KS.p (.int .i64 ((k + 1 : Nat) : Int)) ?_
        refine KS.n2 ?_
        exact ⟨⟨k + 1, by omega, fun j hj => (by rcases Nat.lt_or_ge j k with h | h; { exact hno j h }; { obtain rfl : j = k := (by omega); rw [← D, h43]; rfl }), KwJ.mkFr (by kernel_rfl), (Held.mem_tail M42)⟩, Kw.mlt (69 - (k + 1)) (69 - k) (by kernel_rfl) (by kernel_rfl) (by omega)⟩
    · skip
      have D := dec_iff k hk69 x xx
      have eA := rdK_J k hs x
      have eB := rs1K_J k hs x
      have eC := rs2K_J k hs x
      rw [eA, eB, eC] at D
      refine Kw.region ?_
      refine KS.p (.int .i64 ((k : Nat) : Int)) ?_
      refine Kw.pure (.int .i64 ((k + 1 : Nat) : Int)) (by kernel_rfl) (Kw.eqv (v := .int .i64 (IntKind.i64.wrap (((k : Nat) : Int) + (1 : Int)))) (by kernel_rfl) (congrArg (Value.int .i64) (by rw [IntWalk.i64_in _ (by omega)]; rfl))) ?_
      refine KS.p (.int .u32 (u x)) ?_
      refine KS.p (.int .u8 (sh k)) ?_
      refine KS.c (.int .i64 (s (immK k x))) 55 #[.int .u32 (u x), .int .u8 (sh k)] M3 (imm_c k hk69 x w3) fun w47 M47 => ?_
      refine KS.p (.agg #[.int .i64 ((k + 1 : Nat) : Int), .int .i64 0, .int .i64 0, .int .i64 0, .int .i64 (s (immK k x))]) ?_
      refine Kw.alloc #[.int .i64 0, .int .i64 0, .int .i64 0, .int .i64 0, .int .i64 0] 41 M47 (by kernel_rfl) (by kernel_rfl) fun w48 B48 M48 => ?_
      refine Kw.storeAll 0 41 #[.int .i64 ((k + 1 : Nat) : Int), .int .i64 0, .int .i64 0, .int .i64 0, .int .i64 (s (immK k x))] M48 rfl (by kernel_rfl) (by kernel_rfl) (Eq.trans (b := 5) (by kernel_rfl) (by kernel_rfl)) (by kernel_rfl) (by kernel_rfl) fun w49 M49 => ?_
      refine KS.n5 ?_
      refine KS.p (.int .u8 (sh k)) ?_
      refine Kw.pure (.bool true) (by kernel_rfl) (Kw.eqv (v := .bool ((sh k) != (83 : Int))) (by kernel_rfl) (congrArg Value.bool (by rw [hs]; rfl))) ?_
      refine KS.p (.bool true) ?_
      refine KS.p (.int .u8 (sh k)) ?_
      refine Kw.pure (.bool true) (by kernel_rfl) (Kw.eqv (v := .bool ((sh k) != (66 : Int))) (by kernel_rfl) (congrArg Value.bool (by rw [hs]; rfl))) ?_
      refine KS.p (.bool true) ?_
      refine KS.p (.bool true) ?_
      refine KS.p (.int .u8 (sh k)) ?_
      refine Kw.pure (.bool true) (by kernel_rfl) (Kw.eqv (v := .bool ((sh k) != (78 : Int))) (by kernel_rfl) (congrArg Value.bool (by rw [hs]; rfl))) ?_
      refine KS.p (.bool true) ?_
      refine KS.n2 ?_
      refine wp_cond_true (by kernel_rfl) ?_
      refine Kw.region ?_
      refine KS.p (.int .u32 (u x)) ?_
      refine KS.c (.int .u64 (u (getI x 7 5))) 56 #[.int .u32 (u x), .int .i64 7, .int .i64 5] M49 (get13_c x 7 5 w49) fun w50 M50 => ?_
      refine Kw.pure (.int .i64 (s (getI x 7 5))) (by kernel_rfl) (Kw.eqv (v := .int .i64 (IntKind.i64.wrap (u (getI x 7 5)))) (by kernel_rfl) (congrArg (Value.int .i64) (wrapi_u (getI x 7 5)))) ?_
      refine KS.p (.pointer (some ⟨B48, 1, none⟩)) ?_
      refine Kw.storeCell 0 3 1 (.int .i64 (s (getI x 7 5))) #[.int .i64 ((k + 1 : Nat) : Int), .int .i64 (s (getI x 7 5)), .int .i64 0, .int .i64 0, .int .i64 (s (immK k x))] M50 rfl (by kernel_rfl) (by kernel_rfl) (show 1 < 5 from by decide) (by kernel_rfl) rfl (by kernel_rfl) (by kernel_rfl) fun w51 M51 => ?_
      refine KS.n5 ?_
      refine KS.p (.int .u8 (sh k)) ?_
      refine Kw.pure (.bool true) (by kernel_rfl) (Kw.eqv (v := .bool ((sh k) != (85 : Int))) (by kernel_rfl) (congrArg Value.bool (by rw [hs]; rfl))) ?_
      refine KS.p (.bool true) ?_
      refine KS.p (.int .u8 (sh k)) ?_
      refine Kw.pure (.bool false) (by kernel_rfl) (Kw.eqv (v := .bool ((sh k) != (74 : Int))) (by kernel_rfl) (congrArg Value.bool (by rw [hs]; rfl))) ?_
      refine KS.p (.bool false) ?_
      refine KS.p (.bool false) ?_
      refine KS.k ?_
      refine KS.k ?_
      refine KS.p (.bool false) ?_
      refine KS.n2 ?_
      refine wp_cond_false (by kernel_rfl) ?_
      refine wp_skip (Kw.then_normal (wp_seq (wp_seq (Kw.region ?_))))
      refine KS.p (.int .u8 (sh k)) ?_
      refine Kw.pure (.bool false) (by kernel_rfl) (Kw.eqv (v := .bool ((sh k) == (82 : Int))) (by kernel_rfl) (congrArg Value.bool (by rw [hs]; rfl))) ?_
      refine KS.p (.bool false) ?_
      refine KS.p (.int .u8 (sh k)) ?_
      refine Kw.pure (.bool false) (by kernel_rfl) (Kw.eqv (v := .bool ((sh k) == (83 : Int))) (by kernel_rfl) (congrArg Value.bool (by rw [hs]; rfl))) ?_
      refine KS.p (.bool false) ?_
      refine KS.p (.bool false) ?_
      refine KS.p (.int .u8 (sh k)) ?_
      refine Kw.pure (.bool false) (by kernel_rfl) (Kw.eqv (v := .bool ((sh k) == (66 : Int))) (by kernel_rfl) (congrArg Value.bool (by rw [hs]; rfl))) ?_
      refine KS.p (.bool false) ?_
      refine KS.n2 ?_
      refine wp_cond_false (by kernel_rfl) ?_
      refine wp_skip (Kw.then_normal (wp_seq (Kw.region ?_)))
      refine KS.la 41 B48 _ M51 0 Try.underlying41 ?_
      refine KS.c (.tuple #[.int .u32 (u (wordK k (getI x 7 5) 0#64 0#64 (immK k x) &&& 4294967295#64)), .bool (okB k (getI x 7 5) 0#64 0#64 (immK k x))]) 26 #[.agg #[.int .i64 ((k + 1 : Nat) : Int), .int .i64 (s (getI x 7 5)), .int .i64 0, .int .i64 0, .int .i64 (s (immK k x))]] M51 (renc_t k hk69 (getI x 7 5) 0#64 0#64 (immK k x) w51) fun w52 M52 => ?_
      refine KS.p (.tuple #[.int .u32 (u (wordK k (getI x 7 5) 0#64 0#64 (immK k x) &&& 4294967295#64)), .bool (okB k (getI x 7 5) 0#64 0#64 (immK k x))]) ?_
      refine KS.p (.int .u32 (u (wordK k (getI x 7 5) 0#64 0#64 (immK k x) &&& 4294967295#64))) ?_
      refine KS.p (.bool (okB k (getI x 7 5) 0#64 0#64 (immK k x))) ?_
      refine KS.p (.int .u32 (u (wordK k (getI x 7 5) 0#64 0#64 (immK k x) &&& 4294967295#64))) ?_
      refine KS.p (.bool (okB k (getI x 7 5) 0#64 0#64 (immK k x))) ?_
      refine KS.n4 ?_
      refine KS.p (.bool (okB k (getI x 7 5) 0#64 0#64 (immK k x))) ?_
      rcases Bool.eq_false_or_eq_true ((okB k (getI x 7 5) 0#64 0#64 (immK k x))) with h53 | h53
      · skip
        refine Kw.pure (.bool true) (by kernel_rfl) (Kw.eqv (v := .bool ((okB k (getI x 7 5) 0#64 0#64 (immK k x)))) (by kernel_rfl) (congrArg Value.bool h53)) ?_
        refine KS.p (.int .u32 (u (wordK k (getI x 7 5) 0#64 0#64 (immK k x) &&& 4294967295#64))) ?_
        refine KS.p (.int .u32 (u x)) ?_
        refine KS.p (.bool ((u (wordK k (getI x 7 5) 0#64 0#64 (immK k x) &&& 4294967295#64)) == (u x))) ?_
        refine KS.p (.bool ((u (wordK k (getI x 7 5) 0#64 0#64 (immK k x) &&& 4294967295#64)) == (u x))) ?_
        refine KS.n2 ?_
        refine wp_cond_split (t := ((u (wordK k (getI x 7 5) 0#64 0#64 (immK k x) &&& 4294967295#64)) == (u x))) (by kernel_rfl) (fun h54 => ?_) (fun h54 => ?_)
        · skip
          refine wp_seq (Kw.region ?_)
          refine KS.la 41 B48 _ M52 0 Try.underlying41 ?_
          refine Kw.storeAll 2 41 #[.int .i64 ((k + 1 : Nat) : Int), .int .i64 (s (getI x 7 5)), .int .i64 0, .int .i64 0, .int .i64 (s (immK k x))] M52 rfl (by kernel_rfl) (by kernel_rfl) (Eq.trans (b := 5) (by kernel_rfl) (by kernel_rfl)) (by kernel_rfl) (by kernel_rfl) fun w55 M55 => ?_
          refine KS.p (.bool true) ?_
          refine Kw.fin (Kw.then_normal (wp_ret (Kw.block_ret (Kw.then_ret (Kw.then_ret (Kw.block_ret (Kw.then_ret ?_)))))))
          have hr56 : (loadVar 41 ⟨B1, 0, none⟩).run Try.prog w55 = .ok (.agg #[.int .i64 ((k + 1 : Nat) : Int), .int .i64 (s (getI x 7 5)), .int .i64 0, .int .i64 0, .int .i64 (s (immK k x))]) w55 := run_loadVar_row w55 B1 41 41 _ (0, 0) _ (M55.get 2 rfl) Try.underlying41 rfl (by kernel_rfl)
          exact KS.r2 (.bool true) Try.results28 hr56 ⟨(by rw [decV_at x k hk69 (decN_at x k hk69 (eq_of_beq (D.symm.trans (by rw [h53, h54]; rfl)))), eA, eB, eC]; try rfl), M55.drop⟩
        · skip
          refine wp_skip (Kw.block_normal (Kw.then_normal (Kw.region ?_)))
          refine KS.p (.int .i64 ((k : Nat) : Int)) ?_
          refine Kw.pure (.int .i64 ((k + 1 : Nat) : Int)) (by kernel_rfl) (Kw.eqv (v := .int .i64 (IntKind.i64.wrap (((k : Nat) : Int) + (1 : Int)))) (by kernel_rfl) (congrArg (Value.int .i64) (by rw [IntWalk.i64_in _ (by omega)]; rfl))) ?_
          refine KS.p (.int .i64 ((k + 1 : Nat) : Int)) ?_
          refine KS.n2 ?_
          exact ⟨⟨k + 1, by omega, fun j hj => (by rcases Nat.lt_or_ge j k with h | h; { exact hno j h }; { obtain rfl : j = k := (by omega); rw [← D, h53, h54]; rfl }), KwJ.mkFr (by kernel_rfl), (Held.mem_tail M52)⟩, Kw.mlt (69 - (k + 1)) (69 - k) (by kernel_rfl) (by kernel_rfl) (by omega)⟩
      · skip
        refine Kw.pure (.bool false) (by kernel_rfl) (Kw.eqv (v := .bool ((okB k (getI x 7 5) 0#64 0#64 (immK k x)))) (by kernel_rfl) (congrArg Value.bool h53)) ?_
        refine KS.k ?_
        refine KS.k ?_
        refine KS.k ?_
        refine KS.p (.bool false) ?_
        refine KS.n2 ?_
        refine wp_cond_false (by kernel_rfl) ?_
        refine wp_skip (Kw.block_normal (Kw.then_normal (Kw.region ?_)))
        refine KS.p (.int .i64 ((k : Nat) : Int)) ?_
        refine Kw.pure (.int .i64 ((k + 1 : Nat) : Int)) (by kernel_rfl) (Kw.eqv (v := .int .i64 (IntKind.i64.wrap (((k : Nat) : Int) + (1 : Int)))) (by kernel_rfl) (congrArg (Value.int .i64) (by rw [IntWalk.i64_in _ (by omega)]; rfl))) ?_
        refine KS.p (.int .i64 ((k + 1 : Nat) : Int)) ?_
        refine KS.n2 ?_
        exact ⟨⟨k + 1, by omega, fun j hj => (by rcases Nat.lt_or_ge j k with h | h; { exact hno j h }; { obtain rfl : j = k := (by omega); rw [← D, h53]; rfl }), KwJ.mkFr (by kernel_rfl), (Held.mem_tail M52)⟩, Kw.mlt (69 - (k + 1)) (69 - k) (by kernel_rfl) (by kernel_rfl) (by omega)⟩
    · skip
      have D := dec_iff k hk69 x xx
      have eA := rdK_R k hs x
      have eB := rs1K_R k hs x
      have eC := rs2K_R k hs x
      rw [eA, eB, eC] at D
      refine Kw.region ?_
      refine KS.p (.int .i64 ((k : Nat) : Int)) ?_
      refine Kw.pure (.int .i64 ((k + 1 : Nat) : Int)) (by kernel_rfl) (Kw.eqv (v := .int .i64 (IntKind.i64.wrap (((k : Nat) : Int) + (1 : Int)))) (by kernel_rfl) (congrArg (Value.int .i64) (by rw [IntWalk.i64_in _ (by omega)]; rfl))) ?_
      refine KS.p (.int .u32 (u x)) ?_
      refine KS.p (.int .u8 (sh k)) ?_
      refine KS.c (.int .i64 (s (immK k x))) 55 #[.int .u32 (u x), .int .u8 (sh k)] M3 (imm_c k hk69 x w3) fun w57 M57 => ?_
      refine KS.p (.agg #[.int .i64 ((k + 1 : Nat) : Int), .int .i64 0, .int .i64 0, .int .i64 0, .int .i64 (s (immK k x))]) ?_
      refine Kw.alloc #[.int .i64 0, .int .i64 0, .int .i64 0, .int .i64 0, .int .i64 0] 41 M57 (by kernel_rfl) (by kernel_rfl) fun w58 B58 M58 => ?_
      refine Kw.storeAll 0 41 #[.int .i64 ((k + 1 : Nat) : Int), .int .i64 0, .int .i64 0, .int .i64 0, .int .i64 (s (immK k x))] M58 rfl (by kernel_rfl) (by kernel_rfl) (Eq.trans (b := 5) (by kernel_rfl) (by kernel_rfl)) (by kernel_rfl) (by kernel_rfl) fun w59 M59 => ?_
      refine KS.n5 ?_
      refine KS.p (.int .u8 (sh k)) ?_
      refine Kw.pure (.bool true) (by kernel_rfl) (Kw.eqv (v := .bool ((sh k) != (83 : Int))) (by kernel_rfl) (congrArg Value.bool (by rw [hs]; rfl))) ?_
      refine KS.p (.bool true) ?_
      refine KS.p (.int .u8 (sh k)) ?_
      refine Kw.pure (.bool true) (by kernel_rfl) (Kw.eqv (v := .bool ((sh k) != (66 : Int))) (by kernel_rfl) (congrArg Value.bool (by rw [hs]; rfl))) ?_
      refine KS.p (.bool true) ?_
      refine KS.p (.bool true) ?_
      refine KS.p (.int .u8 (sh k)) ?_
      refine Kw.pure (.bool true) (by kernel_rfl) (Kw.eqv (v := .bool ((sh k) != (78 : Int))) (by kernel_rfl) (congrArg Value.bool (by rw [hs]; rfl))) ?_
      refine KS.p (.bool true) ?_
      refine KS.n2 ?_
      refine wp_cond_true (by kernel_rfl) ?_
      refine Kw.region ?_
      refine KS.p (.int .u32 (u x)) ?_
      refine KS.c (.int .u64 (u (getI x 7 5))) 56 #[.int .u32 (u x), .int .i64 7, .int .i64 5] M59 (get13_c x 7 5 w59) fun w60 M60 => ?_
      refine Kw.pure (.int .i64 (s (getI x 7 5))) (by kernel_rfl) (Kw.eqv (v := .int .i64 (IntKind.i64.wrap (u (getI x 7 5)))) (by kernel_rfl) (congrArg (Value.int .i64) (wrapi_u (getI x 7 5)))) ?_
      refine KS.p (.pointer (some ⟨B58, 1, none⟩)) ?_
      refine Kw.storeCell 0 3 1 (.int .i64 (s (getI x 7 5))) #[.int .i64 ((k + 1 : Nat) : Int), .int .i64 (s (getI x 7 5)), .int .i64 0, .int .i64 0, .int .i64 (s (immK k x))] M60 rfl (by kernel_rfl) (by kernel_rfl) (show 1 < 5 from by decide) (by kernel_rfl) rfl (by kernel_rfl) (by kernel_rfl) fun w61 M61 => ?_
      refine KS.n5 ?_
      refine KS.p (.int .u8 (sh k)) ?_
      refine Kw.pure (.bool true) (by kernel_rfl) (Kw.eqv (v := .bool ((sh k) != (85 : Int))) (by kernel_rfl) (congrArg Value.bool (by rw [hs]; rfl))) ?_
      refine KS.p (.bool true) ?_
      refine KS.p (.int .u8 (sh k)) ?_
      refine Kw.pure (.bool true) (by kernel_rfl) (Kw.eqv (v := .bool ((sh k) != (74 : Int))) (by kernel_rfl) (congrArg Value.bool (by rw [hs]; rfl))) ?_
      refine KS.p (.bool true) ?_
      refine KS.p (.bool true) ?_
      refine KS.p (.int .u8 (sh k)) ?_
      refine Kw.pure (.bool true) (by kernel_rfl) (Kw.eqv (v := .bool ((sh k) != (78 : Int))) (by kernel_rfl) (congrArg Value.bool (by rw [hs]; rfl))) ?_
      refine KS.p (.bool true) ?_
      refine KS.n2 ?_
      refine wp_cond_true (by kernel_rfl) ?_
      refine Kw.region ?_
      refine KS.p (.int .u32 (u x)) ?_
      refine KS.c (.int .u64 (u (getI x 15 5))) 56 #[.int .u32 (u x), .int .i64 15, .int .i64 5] M61 (get13_c x 15 5 w61) fun w62 M62 => ?_
      refine Kw.pure (.int .i64 (s (getI x 15 5))) (by kernel_rfl) (Kw.eqv (v := .int .i64 (IntKind.i64.wrap (u (getI x 15 5)))) (by kernel_rfl) (congrArg (Value.int .i64) (wrapi_u (getI x 15 5)))) ?_
      refine KS.p (.pointer (some ⟨B58, 2, none⟩)) ?_
      refine Kw.storeCell 0 3 2 (.int .i64 (s (getI x 15 5))) #[.int .i64 ((k + 1 : Nat) : Int), .int .i64 (s (getI x 7 5)), .int .i64 (s (getI x 15 5)), .int .i64 0, .int .i64 (s (immK k x))] M62 rfl (by kernel_rfl) (by kernel_rfl) (show 2 < 5 from by decide) (by kernel_rfl) rfl (by kernel_rfl) (by kernel_rfl) fun w63 M63 => ?_
      refine KS.n5 ?_
      refine KS.p (.int .u8 (sh k)) ?_
      refine Kw.pure (.bool true) (by kernel_rfl) (Kw.eqv (v := .bool ((sh k) == (82 : Int))) (by kernel_rfl) (congrArg Value.bool (by rw [hs]; rfl))) ?_
      refine KS.p (.bool true) ?_
      refine KS.k ?_
      refine KS.k ?_
      refine KS.p (.bool true) ?_
      refine KS.p (.bool true) ?_
      refine KS.k ?_
      refine KS.k ?_
      refine KS.p (.bool true) ?_
      refine KS.n2 ?_
      refine wp_cond_true (by kernel_rfl) ?_
      refine Kw.region ?_
      refine KS.p (.int .u32 (u x)) ?_
      refine KS.c (.int .u64 (u (getI x 20 5))) 56 #[.int .u32 (u x), .int .i64 20, .int .i64 5] M63 (get13_c x 20 5 w63) fun w64 M64 => ?_
      refine Kw.pure (.int .i64 (s (getI x 20 5))) (by kernel_rfl) (Kw.eqv (v := .int .i64 (IntKind.i64.wrap (u (getI x 20 5)))) (by kernel_rfl) (congrArg (Value.int .i64) (wrapi_u (getI x 20 5)))) ?_
      refine KS.p (.pointer (some ⟨B58, 3, none⟩)) ?_
      refine Kw.storeCell 0 3 3 (.int .i64 (s (getI x 20 5))) #[.int .i64 ((k + 1 : Nat) : Int), .int .i64 (s (getI x 7 5)), .int .i64 (s (getI x 15 5)), .int .i64 (s (getI x 20 5)), .int .i64 (s (immK k x))] M64 rfl (by kernel_rfl) (by kernel_rfl) (show 3 < 5 from by decide) (by kernel_rfl) rfl (by kernel_rfl) (by kernel_rfl) fun w65 M65 => ?_
      refine KS.n4 ?_
      refine KS.la 41 B58 _ M65 0 Try.underlying41 ?_
      refine KS.c (.tuple #[.int .u32 (u (wordK k (getI x 7 5) (getI x 15 5) (getI x 20 5) (immK k x) &&& 4294967295#64)), .bool (okB k (getI x 7 5) (getI x 15 5) (getI x 20 5) (immK k x))]) 26 #[.agg #[.int .i64 ((k + 1 : Nat) : Int), .int .i64 (s (getI x 7 5)), .int .i64 (s (getI x 15 5)), .int .i64 (s (getI x 20 5)), .int .i64 (s (immK k x))]] M65 (renc_t k hk69 (getI x 7 5) (getI x 15 5) (getI x 20 5) (immK k x) w65) fun w66 M66 => ?_
      refine KS.p (.tuple #[.int .u32 (u (wordK k (getI x 7 5) (getI x 15 5) (getI x 20 5) (immK k x) &&& 4294967295#64)), .bool (okB k (getI x 7 5) (getI x 15 5) (getI x 20 5) (immK k x))]) ?_
      refine KS.p (.int .u32 (u (wordK k (getI x 7 5) (getI x 15 5) (getI x 20 5) (immK k x) &&& 4294967295#64))) ?_
      refine KS.p (.bool (okB k (getI x 7 5) (getI x 15 5) (getI x 20 5) (immK k x))) ?_
      refine KS.p (.int .u32 (u (wordK k (getI x 7 5) (getI x 15 5) (getI x 20 5) (immK k x) &&& 4294967295#64))) ?_
      refine KS.p (.bool (okB k (getI x 7 5) (getI x 15 5) (getI x 20 5) (immK k x))) ?_
      refine KS.n4 ?_
      refine KS.p (.bool (okB k (getI x 7 5) (getI x 15 5) (getI x 20 5) (immK k x))) ?_
      rcases Bool.eq_false_or_eq_true ((okB k (getI x 7 5) (getI x 15 5) (getI x 20 5) (immK k x))) with h67 | h67
      · skip
        refine Kw.pure (.bool true) (by kernel_rfl) (Kw.eqv (v := .bool ((okB k (getI x 7 5) (getI x 15 5) (getI x 20 5) (immK k x)))) (by kernel_rfl) (congrArg Value.bool h67)) ?_
        refine KS.p (.int .u32 (u (wordK k (getI x 7 5) (getI x 15 5) (getI x 20 5) (immK k x) &&& 4294967295#64))) ?_
        refine KS.p (.int .u32 (u x)) ?_
        refine KS.p (.bool ((u (wordK k (getI x 7 5) (getI x 15 5) (getI x 20 5) (immK k x) &&& 4294967295#64)) == (u x))) ?_
        refine KS.p (.bool ((u (wordK k (getI x 7 5) (getI x 15 5) (getI x 20 5) (immK k x) &&& 4294967295#64)) == (u x))) ?_
        refine KS.n2 ?_
        refine wp_cond_split (t := ((u (wordK k (getI x 7 5) (getI x 15 5) (getI x 20 5) (immK k x) &&& 4294967295#64)) == (u x))) (by kernel_rfl) (fun h68 => ?_) (fun h68 => ?_)
        · skip
          refine wp_seq (Kw.region ?_)
          refine KS.la 41 B58 _ M66 0 Try.underlying41 ?_
          refine Kw.storeAll 2 41 #[.int .i64 ((k + 1 : Nat) : Int), .int .i64 (s (getI x 7 5)), .int .i64 (s (getI x 15 5)), .int .i64 (s (getI x 20 5)), .int .i64 (s (immK k x))] M66 rfl (by kernel_rfl) (by kernel_rfl) (Eq.trans (b := 5) (by kernel_rfl) (by kernel_rfl)) (by kernel_rfl) (by kernel_rfl) fun w69 M69 => ?_
          refine KS.p (.bool true) ?_
          refine Kw.fin (Kw.then_normal (wp_ret (Kw.block_ret (Kw.then_ret (Kw.then_ret (Kw.block_ret (Kw.then_ret ?_)))))))
          have hr70 : (loadVar 41 ⟨B1, 0, none⟩).run Try.prog w69 = .ok (.agg #[.int .i64 ((k + 1 : Nat) : Int), .int .i64 (s (getI x 7 5)), .int .i64 (s (getI x 15 5)), .int .i64 (s (getI x 20 5)), .int .i64 (s (immK k x))]) w69 := run_loadVar_row w69 B1 41 41 _ (0, 0) _ (M69.get 2 rfl) Try.underlying41 rfl (by kernel_rfl)
          exact KS.r2 (.bool true) Try.results28 hr70 ⟨(by rw [decV_at x k hk69 (decN_at x k hk69 (eq_of_beq (D.symm.trans (by rw [h67, h68]; rfl)))), eA, eB, eC]; try rfl), M69.drop⟩
        · skip
          refine wp_skip (Kw.block_normal (Kw.then_normal (Kw.region ?_)))
          refine KS.p (.int .i64 ((k : Nat) : Int)) ?_
          refine Kw.pure (.int .i64 ((k + 1 : Nat) : Int)) (by kernel_rfl) (Kw.eqv (v := .int .i64 (IntKind.i64.wrap (((k : Nat) : Int) + (1 : Int)))) (by kernel_rfl) (congrArg (Value.int .i64) (by rw [IntWalk.i64_in _ (by omega)]; rfl))) ?_
          refine KS.p (.int .i64 ((k + 1 : Nat) : Int)) ?_
          refine KS.n2 ?_
          exact ⟨⟨k + 1, by omega, fun j hj => (by rcases Nat.lt_or_ge j k with h | h; { exact hno j h }; { obtain rfl : j = k := (by omega); rw [← D, h67, h68]; rfl }), KwJ.mkFr (by kernel_rfl), (Held.mem_tail M66)⟩, Kw.mlt (69 - (k + 1)) (69 - k) (by kernel_rfl) (by kernel_rfl) (by omega)⟩
      · skip
        refine Kw.pure (.bool false) (by kernel_rfl) (Kw.eqv (v := .bool ((okB k (getI x 7 5) (getI x 15 5) (getI x 20 5) (immK k x)))) (by kernel_rfl) (congrArg Value.bool h67)) ?_
        refine KS.k ?_
        refine KS.k ?_
        refine KS.k ?_
        refine KS.p (.bool false) ?_
        refine KS.n2 ?_
        refine wp_cond_false (by kernel_rfl) ?_
        refine wp_skip (Kw.block_normal (Kw.then_normal (Kw.region ?_)))
        refine KS.p (.int .i64 ((k : Nat) : Int)) ?_
        refine Kw.pure (.int .i64 ((k + 1 : Nat) : Int)) (by kernel_rfl) (Kw.eqv (v := .int .i64 (IntKind.i64.wrap (((k : Nat) : Int) + (1 : Int)))) (by kernel_rfl) (congrArg (Value.int .i64) (by rw [IntWalk.i64_in _ (by omega)]; rfl))) ?_
        refine KS.p (.int .i64 ((k + 1 : Nat) : Int)) ?_
        refine KS.n2 ?_
        exact ⟨⟨k + 1, by omega, fun j hj => (by rcases Nat.lt_or_ge j k with h | h; { exact hno j h }; { obtain rfl : j = k := (by omega); rw [← D, h67]; rfl }), KwJ.mkFr (by kernel_rfl), (Held.mem_tail M66)⟩, Kw.mlt (69 - (k + 1)) (69 - k) (by kernel_rfl) (by kernel_rfl) (by omega)⟩
    · skip
      have D := dec_iff k hk69 x xx
      obtain ⟨eA, eB, eC⟩ := fields_O k hk69 h83 h66 h78 h85 h74 h82 x
      rw [eA, eB, eC] at D
      refine Kw.region ?_
      refine KS.p (.int .i64 ((k : Nat) : Int)) ?_
      refine Kw.pure (.int .i64 ((k + 1 : Nat) : Int)) (by kernel_rfl) (Kw.eqv (v := .int .i64 (IntKind.i64.wrap (((k : Nat) : Int) + (1 : Int)))) (by kernel_rfl) (congrArg (Value.int .i64) (by rw [IntWalk.i64_in _ (by omega)]; rfl))) ?_
      refine KS.p (.int .u32 (u x)) ?_
      refine KS.p (.int .u8 (sh k)) ?_
      refine KS.c (.int .i64 (s (immK k x))) 55 #[.int .u32 (u x), .int .u8 (sh k)] M3 (imm_c k hk69 x w3) fun w71 M71 => ?_
      refine KS.p (.agg #[.int .i64 ((k + 1 : Nat) : Int), .int .i64 0, .int .i64 0, .int .i64 0, .int .i64 (s (immK k x))]) ?_
      refine Kw.alloc #[.int .i64 0, .int .i64 0, .int .i64 0, .int .i64 0, .int .i64 0] 41 M71 (by kernel_rfl) (by kernel_rfl) fun w72 B72 M72 => ?_
      refine Kw.storeAll 0 41 #[.int .i64 ((k + 1 : Nat) : Int), .int .i64 0, .int .i64 0, .int .i64 0, .int .i64 (s (immK k x))] M72 rfl (by kernel_rfl) (by kernel_rfl) (Eq.trans (b := 5) (by kernel_rfl) (by kernel_rfl)) (by kernel_rfl) (by kernel_rfl) fun w73 M73 => ?_
      refine KS.n5 ?_
      refine KS.p (.int .u8 (sh k)) ?_
      refine Kw.pure (.bool true) (by kernel_rfl) (Kw.eqv (v := .bool ((sh k) != (83 : Int))) (by kernel_rfl) (congrArg Value.bool (KwJ.bne_of (beq_false_of_ne h83)))) ?_
      refine KS.p (.bool true) ?_
      refine KS.p (.int .u8 (sh k)) ?_
      refine Kw.pure (.bool true) (by kernel_rfl) (Kw.eqv (v := .bool ((sh k) != (66 : Int))) (by kernel_rfl) (congrArg Value.bool (KwJ.bne_of (beq_false_of_ne h66)))) ?_
      refine KS.p (.bool true) ?_
      refine KS.p (.bool true) ?_
      refine KS.p (.int .u8 (sh k)) ?_
      refine Kw.pure (.bool true) (by kernel_rfl) (Kw.eqv (v := .bool ((sh k) != (78 : Int))) (by kernel_rfl) (congrArg Value.bool (KwJ.bne_of (beq_false_of_ne h78)))) ?_
      refine KS.p (.bool true) ?_
      refine KS.n2 ?_
      refine wp_cond_true (by kernel_rfl) ?_
      refine Kw.region ?_
      refine KS.p (.int .u32 (u x)) ?_
      refine KS.c (.int .u64 (u (getI x 7 5))) 56 #[.int .u32 (u x), .int .i64 7, .int .i64 5] M73 (get13_c x 7 5 w73) fun w74 M74 => ?_
      refine Kw.pure (.int .i64 (s (getI x 7 5))) (by kernel_rfl) (Kw.eqv (v := .int .i64 (IntKind.i64.wrap (u (getI x 7 5)))) (by kernel_rfl) (congrArg (Value.int .i64) (wrapi_u (getI x 7 5)))) ?_
      refine KS.p (.pointer (some ⟨B72, 1, none⟩)) ?_
      refine Kw.storeCell 0 3 1 (.int .i64 (s (getI x 7 5))) #[.int .i64 ((k + 1 : Nat) : Int), .int .i64 (s (getI x 7 5)), .int .i64 0, .int .i64 0, .int .i64 (s (immK k x))] M74 rfl (by kernel_rfl) (by kernel_rfl) (show 1 < 5 from by decide) (by kernel_rfl) rfl (by kernel_rfl) (by kernel_rfl) fun w75 M75 => ?_
      refine KS.n5 ?_
      refine KS.p (.int .u8 (sh k)) ?_
      refine Kw.pure (.bool true) (by kernel_rfl) (Kw.eqv (v := .bool ((sh k) != (85 : Int))) (by kernel_rfl) (congrArg Value.bool (KwJ.bne_of (beq_false_of_ne h85)))) ?_
      refine KS.p (.bool true) ?_
      refine KS.p (.int .u8 (sh k)) ?_
      refine Kw.pure (.bool true) (by kernel_rfl) (Kw.eqv (v := .bool ((sh k) != (74 : Int))) (by kernel_rfl) (congrArg Value.bool (KwJ.bne_of (beq_false_of_ne h74)))) ?_
      refine KS.p (.bool true) ?_
      refine KS.p (.bool true) ?_
      refine KS.p (.int .u8 (sh k)) ?_
      refine Kw.pure (.bool true) (by kernel_rfl) (Kw.eqv (v := .bool ((sh k) != (78 : Int))) (by kernel_rfl) (congrArg Value.bool (KwJ.bne_of (beq_false_of_ne h78)))) ?_
      refine KS.p (.bool true) ?_
      refine KS.n2 ?_
      refine wp_cond_true (by kernel_rfl) ?_
      refine Kw.region ?_
      refine KS.p (.int .u32 (u x)) ?_
      refine KS.c (.int .u64 (u (getI x 15 5))) 56 #[.int .u32 (u x), .int .i64 15, .int .i64 5] M75 (get13_c x 15 5 w75) fun w76 M76 => ?_
      refine Kw.pure (.int .i64 (s (getI x 15 5))) (by kernel_rfl) (Kw.eqv (v := .int .i64 (IntKind.i64.wrap (u (getI x 15 5)))) (by kernel_rfl) (congrArg (Value.int .i64) (wrapi_u (getI x 15 5)))) ?_
      refine KS.p (.pointer (some ⟨B72, 2, none⟩)) ?_
      refine Kw.storeCell 0 3 2 (.int .i64 (s (getI x 15 5))) #[.int .i64 ((k + 1 : Nat) : Int), .int .i64 (s (getI x 7 5)), .int .i64 (s (getI x 15 5)), .int .i64 0, .int .i64 (s (immK k x))] M76 rfl (by kernel_rfl) (by kernel_rfl) (show 2 < 5 from by decide) (by kernel_rfl) rfl (by kernel_rfl) (by kernel_rfl) fun w77 M77 => ?_
      refine KS.n5 ?_
      refine KS.p (.int .u8 (sh k)) ?_
      refine Kw.pure (.bool false) (by kernel_rfl) (Kw.eqv (v := .bool ((sh k) == (82 : Int))) (by kernel_rfl) (congrArg Value.bool (beq_false_of_ne h82))) ?_
      refine KS.p (.bool false) ?_
      refine KS.p (.int .u8 (sh k)) ?_
      refine Kw.pure (.bool false) (by kernel_rfl) (Kw.eqv (v := .bool ((sh k) == (83 : Int))) (by kernel_rfl) (congrArg Value.bool (beq_false_of_ne h83))) ?_
      refine KS.p (.bool false) ?_
      refine KS.p (.bool false) ?_
      refine KS.p (.int .u8 (sh k)) ?_
      refine Kw.pure (.bool false) (by kernel_rfl) (Kw.eqv (v := .bool ((sh k) == (66 : Int))) (by kernel_rfl) (congrArg Value.bool (beq_false_of_ne h66))) ?_
      refine KS.p (.bool false) ?_
      refine KS.n2 ?_
      refine wp_cond_false (by kernel_rfl) ?_
      refine wp_skip (Kw.then_normal (wp_seq (Kw.region ?_)))
      refine KS.la 41 B72 _ M77 0 Try.underlying41 ?_
      refine KS.c (.tuple #[.int .u32 (u (wordK k (getI x 7 5) (getI x 15 5) 0#64 (immK k x) &&& 4294967295#64)), .bool (okB k (getI x 7 5) (getI x 15 5) 0#64 (immK k x))]) 26 #[.agg #[.int .i64 ((k + 1 : Nat) : Int), .int .i64 (s (getI x 7 5)), .int .i64 (s (getI x 15 5)), .int .i64 0, .int .i64 (s (immK k x))]] M77 (renc_t k hk69 (getI x 7 5) (getI x 15 5) 0#64 (immK k x) w77) fun w78 M78 => ?_
      refine KS.p (.tuple #[.int .u32 (u (wordK k (getI x 7 5) (getI x 15 5) 0#64 (immK k x) &&& 4294967295#64)), .bool (okB k (getI x 7 5) (getI x 15 5) 0#64 (immK k x))]) ?_
      refine KS.p (.int .u32 (u (wordK k (getI x 7 5) (getI x 15 5) 0#64 (immK k x) &&& 4294967295#64))) ?_
      refine KS.p (.bool (okB k (getI x 7 5) (getI x 15 5) 0#64 (immK k x))) ?_
      refine KS.p (.int .u32 (u (wordK k (getI x 7 5) (getI x 15 5) 0#64 (immK k x) &&& 4294967295#64))) ?_
      refine KS.p (.bool (okB k (getI x 7 5) (getI x 15 5) 0#64 (immK k x))) ?_
      refine KS.n4 ?_
      refine KS.p (.bool (okB k (getI x 7 5) (getI x 15 5) 0#64 (immK k x))) ?_
      rcases Bool.eq_false_or_eq_true ((okB k (getI x 7 5) (getI x 15 5) 0#64 (immK k x))) with h79 | h79
      · skip
        refine Kw.pure (.bool true) (by kernel_rfl) (Kw.eqv (v := .bool ((okB k (getI x 7 5) (getI x 15 5) 0#64 (immK k x)))) (by kernel_rfl) (congrArg Value.bool h79)) ?_
        refine KS.p (.int .u32 (u (wordK k (getI x 7 5) (getI x 15 5) 0#64 (immK k x) &&& 4294967295#64))) ?_
        refine KS.p (.int .u32 (u x)) ?_
        refine KS.p (.bool ((u (wordK k (getI x 7 5) (getI x 15 5) 0#64 (immK k x) &&& 4294967295#64)) == (u x))) ?_
        refine KS.p (.bool ((u (wordK k (getI x 7 5) (getI x 15 5) 0#64 (immK k x) &&& 4294967295#64)) == (u x))) ?_
        refine KS.n2 ?_
        refine wp_cond_split (t := ((u (wordK k (getI x 7 5) (getI x 15 5) 0#64 (immK k x) &&& 4294967295#64)) == (u x))) (by kernel_rfl) (fun h80 => ?_) (fun h80 => ?_)
        · skip
          refine wp_seq (Kw.region ?_)
          refine KS.la 41 B72 _ M78 0 Try.underlying41 ?_
          refine Kw.storeAll 2 41 #[.int .i64 ((k + 1 : Nat) : Int), .int .i64 (s (getI x 7 5)), .int .i64 (s (getI x 15 5)), .int .i64 0, .int .i64 (s (immK k x))] M78 rfl (by kernel_rfl) (by kernel_rfl) (Eq.trans (b := 5) (by kernel_rfl) (by kernel_rfl)) (by kernel_rfl) (by kernel_rfl) fun w81 M81 => ?_
          refine KS.p (.bool true) ?_
          refine Kw.fin (Kw.then_normal (wp_ret (Kw.block_ret (Kw.then_ret (Kw.then_ret (Kw.block_ret (Kw.then_ret ?_)))))))
          have hr82 : (loadVar 41 ⟨B1, 0, none⟩).run Try.prog w81 = .ok (.agg #[.int .i64 ((k + 1 : Nat) : Int), .int .i64 (s (getI x 7 5)), .int .i64 (s (getI x 15 5)), .int .i64 0, .int .i64 (s (immK k x))]) w81 := run_loadVar_row w81 B1 41 41 _ (0, 0) _ (M81.get 2 rfl) Try.underlying41 rfl (by kernel_rfl)
          exact KS.r2 (.bool true) Try.results28 hr82 ⟨(by rw [decV_at x k hk69 (decN_at x k hk69 (eq_of_beq (D.symm.trans (by rw [h79, h80]; rfl)))), eA, eB, eC]; try rfl), M81.drop⟩
        · skip
          refine wp_skip (Kw.block_normal (Kw.then_normal (Kw.region ?_)))
          refine KS.p (.int .i64 ((k : Nat) : Int)) ?_
          refine Kw.pure (.int .i64 ((k + 1 : Nat) : Int)) (by kernel_rfl) (Kw.eqv (v := .int .i64 (IntKind.i64.wrap (((k : Nat) : Int) + (1 : Int)))) (by kernel_rfl) (congrArg (Value.int .i64) (by rw [IntWalk.i64_in _ (by omega)]; rfl))) ?_
          refine KS.p (.int .i64 ((k + 1 : Nat) : Int)) ?_
          refine KS.n2 ?_
          exact ⟨⟨k + 1, by omega, fun j hj => (by rcases Nat.lt_or_ge j k with h | h; { exact hno j h }; { obtain rfl : j = k := (by omega); rw [← D, h79, h80]; rfl }), KwJ.mkFr (by kernel_rfl), (Held.mem_tail M78)⟩, Kw.mlt (69 - (k + 1)) (69 - k) (by kernel_rfl) (by kernel_rfl) (by omega)⟩
      · skip
        refine Kw.pure (.bool false) (by kernel_rfl) (Kw.eqv (v := .bool ((okB k (getI x 7 5) (getI x 15 5) 0#64 (immK k x)))) (by kernel_rfl) (congrArg Value.bool h79)) ?_
        refine KS.k ?_
        refine KS.k ?_
        refine KS.k ?_
        refine KS.p (.bool false) ?_
        refine KS.n2 ?_
        refine wp_cond_false (by kernel_rfl) ?_
        refine wp_skip (Kw.block_normal (Kw.then_normal (Kw.region ?_)))
        refine KS.p (.int .i64 ((k : Nat) : Int)) ?_
        refine Kw.pure (.int .i64 ((k + 1 : Nat) : Int)) (by kernel_rfl) (Kw.eqv (v := .int .i64 (IntKind.i64.wrap (((k : Nat) : Int) + (1 : Int)))) (by kernel_rfl) (congrArg (Value.int .i64) (by rw [IntWalk.i64_in _ (by omega)]; rfl))) ?_
        refine KS.p (.int .i64 ((k + 1 : Nat) : Int)) ?_
        refine KS.n2 ?_
        exact ⟨⟨k + 1, by omega, fun j hj => (by rcases Nat.lt_or_ge j k with h | h; { exact hno j h }; { obtain rfl : j = k := (by omega); rw [← D, h79]; rfl }), KwJ.mkFr (by kernel_rfl), (Held.mem_tail M78)⟩, Kw.mlt (69 - (k + 1)) (69 - k) (by kernel_rfl) (by kernel_rfl) (by omega)⟩
  · skip
    have hk69 : ¬ k < 69 := by have := of_decide_eq_false h4; omega
    refine wp_exit (Kw.then_exit (Kw.then_exit (Kw.block_hit (Kw.then_normal (wp_seq (Kw.region ?_))))))
    refine KS.p (.agg #[.int .i64 0, .int .i64 0, .int .i64 0, .int .i64 0, .int .i64 0]) ?_
    refine Kw.storeAll 1 41 #[.int .i64 0, .int .i64 0, .int .i64 0, .int .i64 0, .int .i64 0] M3 rfl (by kernel_rfl) (by kernel_rfl) rfl (by kernel_rfl) (by kernel_rfl) fun w83 M83 => ?_
    refine KS.p (.bool false) ?_
    refine Kw.fin (Kw.then_normal (wp_ret ?_))
    have hr84 : (loadVar 41 ⟨B1, 0, none⟩).run Try.prog w83 = .ok (.agg #[.int .i64 0, .int .i64 0, .int .i64 0, .int .i64 0, .int .i64 0]) w83 := run_loadVar_row w83 B1 41 41 _ (0, 0) _ (M83.get 1 rfl) Try.underlying41 rfl (by kernel_rfl)
    exact KS.r2 (.bool false) Try.results28 hr84 ⟨by rw [dec_none x (fun j hj => hno j (by omega))], M83.drop⟩
end Go.Proofs.Ytpmpibcfmejbfaa.Inst
