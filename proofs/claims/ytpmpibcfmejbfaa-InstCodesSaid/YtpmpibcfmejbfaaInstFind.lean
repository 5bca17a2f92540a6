/- The number of an instruction's name, or 0: what the program's function answers. No condition. -/
import Derived.Test.YtpmpibcfmejbfaaInstHas
import Derived.Test.YtpmpibcfmejbfaaKS
namespace Go.Proofs.Ytpmpibcfmejbfaa.Inst
open Go.RowKit Go.Proofs.Ytpmpibcfmejbfaa.Bits
attribute [local irreducible] Go.wpList
set_option linter.unusedVariables false
/-- The number of a name in the table, from line k on. -/
def findN (t : ByteArray) : Nat := ((List.range 69).find? fun k => (nm k).toList == t.toList).elim 0 (· + 1)
theorem find_none (t : ByteArray) (h : ∀ j, j < 69 → ((nm j).toList == t.toList) = false) : findN t = 0 := by
  unfold findN
  rw [List.find?_eq_none.2 (fun j hj => by rw [h j (List.mem_range.1 hj)]; exact Bool.false_ne_true)]
  rfl
theorem find_at (t : ByteArray) (k : Nat) (hk : k < 69) (h : ∀ j, j < k → ((nm j).toList == t.toList) = false) (he : ((nm k).toList == t.toList) = true) : findN t = k + 1 := by
  unfold findN
  have : (List.range 69).find? (fun k => (nm k).toList == t.toList) = some k := by
    rw [List.find?_range_eq_some]
    exact ⟨he, List.mem_range.2 hk, fun j hj => by rw [h j hj]; rfl⟩
  rw [this]; rfl
set_option maxRecDepth 100000 in
set_option maxHeartbeats 1000000 in
theorem find_c (t : ByteArray) (W : World) : Calls Try.prog 31 #[.string t] W fun e W' => e = .returned (.int .i64 ((findN t : Nat) : Int)) ∧ Kw.Mem [] W W' [] := by
  refine calls_of_wp Try.func31 rfl ?_
  have M0 : Kw.Mem [] W W [] := Kw.Mem.start _ _
  refine Kw.to (b := ⟨#[.string t, undef, undef, undef, undef, undef, undef, undef, undef, undef, undef, undef, undef, undef, undef, undef, undef], []⟩) (by kernel_rfl) ?_
  refine wp_seq (Kw.region ?_)
  refine KS.p (.int .i64 0) ?_
  refine KS.n5 ?_
  refine KS.c (.agg rowsCells) 53 #[] M0 (rows_c W) fun w1 M1 => ?_
  refine KS.p (.int .i64 0) ?_
  refine Kw.fin (Kw.then_normal (wp_block ?_))
  refine Kw.to (b := ⟨#[.string t, undef, .int .i64 0, undef, undef, .agg rowsCells, .int .i64 0, undef, undef, undef, undef, undef, undef, undef, undef, undef, undef], []⟩) (by kernel_rfl) ?_
  refine wp_loop (fun a w => ∃ (k : Nat) (x2 x3 x4 x7 x8 x9 x10 x11 x12 x13 x14 x15 x16 : Value), k ≤ 69 ∧ (∀ j, j < k → ((nm j).toList == t.toList) = false) ∧ a = ⟨#[.string t, undef, x2, x3, x4, .agg rowsCells, .int .i64 ((k : Nat) : Int), x7, x8, x9, x10, x11, x12, x13, x14, x15, x16], []⟩ ∧ Kw.Mem [] W w []) (fun a _ => 69 - (intOf (a.tmps.getD 6 undef)).toNat) ⟨0, .int .i64 0, undef, undef, undef, undef, undef, undef, undef, undef, undef, undef, undef, undef, by omega, fun j hj => by omega, rfl, M1⟩ (fun a w hI => ?_)
  obtain ⟨k, x2, x3, x4, x7, x8, x9, x10, x11, x12, x13, x14, x15, x16, hk, hno, rfl, M⟩ := hI
  clear M0
  by_cases hlt : k < 69
  · skip
    refine wp_seq (Kw.region ?_)
    refine KS.s (Canon.opS .lss 3 (.tmp 6) (.const (.int .i64 69)) (.int .i64 ((k : Nat) : Int)) (.int .i64 69)) (.bool true) (Kw.eqv (v := .bool (decide (((k : Nat) : Int) < (69 : Int)))) (by kernel_rfl) (by rw [decide_eq_true (by omega)])) ?_
    refine Kw.fin (Kw.then_normal (wp_seq ?_))
    refine wp_cond_true (by kernel_rfl) ?_
    refine wp_skip (Kw.then_normal (wp_seq (wp_block (wp_seq (Kw.region ?_)))))
    refine KS.p (.int .i64 ((k : Nat) : Int)) ?_
    refine KS.s (Kw.ixS 81 (.agg rowsCells) (.int .i64 ((k : Nat) : Int))) (.agg #[.string (nm k), .int .u8 (sh k), .int .u64 (u (cd k)), .int .u64 (u (ff k)), .int .u64 (u (ot k))]) (index_rows k hlt w) ?_
    refine Kw.alloc #[.string ⟨#[]⟩, .int .u8 0, .int .u64 0, .int .u64 0, .int .u64 0] 59 M (by kernel_rfl) (by kernel_rfl) fun w2 B2 M2 => ?_
    refine KS.p (.int .i64 ((k : Nat) : Int)) ?_
    refine Kw.storeAll 0 59 #[.string (nm k), .int .u8 (sh k), .int .u64 (u (cd k)), .int .u64 (u (ff k)), .int .u64 (u (ot k))] M2 rfl (by kernel_rfl) (by kernel_rfl) (by kernel_rfl) (by kernel_rfl) (by kernel_rfl) fun w3 M3 => ?_
    refine KS.n4 ?_
    refine KS.p (.pointer (some ⟨B2, 0, none⟩)) ?_
    refine KS.l 9 B2 0 (.string (nm k)) M3 0 Try.underlying9 ?_
    refine KS.p (.string t) ?_
    refine KS.s (Canon.opS .eql 9 (.tmp 11) (.tmp 12) (.string (nm k)) (.string t)) (.bool ((nm k).toList == t.toList)) (by kernel_rfl) ?_
    refine KS.n2 ?_
    refine wp_cond_split (t := ((nm k).toList == t.toList)) (by kernel_rfl) (fun h4 => ?_) (fun h4 => ?_)
    · skip
      refine wp_seq (Kw.region ?_)
      refine KS.p (.int .i64 ((k : Nat) : Int)) ?_
      refine KS.s (Canon.opS .add 3 (.tmp 14) (.const (.int .i64 1)) (.int .i64 ((k : Nat) : Int)) (.int .i64 1)) (.int .i64 ((k + 1 : Nat) : Int)) (Kw.eqv (v := .int .i64 (IntKind.i64.wrap (((k : Nat) : Int) + (1 : Int)))) (by kernel_rfl) (by rw [IntWalk.i64_in _ (by omega)]; rfl)) ?_
      refine KS.p (.int .i64 ((k + 1 : Nat) : Int)) ?_
      refine Kw.fin (Kw.then_normal (wp_ret (Kw.block_ret (Kw.then_ret (Kw.then_ret (Kw.block_ret (Kw.then_ret ?_)))))))
      exact bodyPost_ret (v := .int .i64 ((k + 1 : Nat) : Int)) (by kernel_rfl) (by kernel_rfl) ⟨by rw [find_at t k hlt hno (by assumption)], M3.drop⟩
    · skip
      refine wp_skip (Kw.block_normal (Kw.then_normal (Kw.region ?_)))
      refine KS.s (Canon.opS .add 3 (.tmp 6) (.const (.int .i64 1)) (.int .i64 ((k : Nat) : Int)) (.int .i64 1)) (.int .i64 ((k + 1 : Nat) : Int)) (Kw.eqv (v := .int .i64 (IntKind.i64.wrap (((k : Nat) : Int) + (1 : Int)))) (by kernel_rfl) (by rw [IntWalk.i64_in _ (by omega)]; rfl)) ?_
      refine KS.p (.int .i64 ((k + 1 : Nat) : Int)) ?_
      refine KS.n2 ?_
      exact ⟨⟨k + 1, x2, .int .i64 ((k : Nat) : Int), .pointer (some ⟨B2, 0, none⟩), .bool true, .int .i64 ((k : Nat) : Int), .agg #[.string (nm k), .int .u8 (sh k), .int .u64 (u (cd k)), .int .u64 (u (ff k)), .int .u64 (u (ot k))], .pointer (some ⟨B2, 0, none⟩), .string (nm k), .string t, .bool ((nm k).toList == t.toList), x14, x15, .int .i64 ((k + 1 : Nat) : Int), by omega, fun j hj => (by rcases Nat.lt_or_ge j k with h | h; { exact hno j h }; { obtain rfl : j = k := (by omega); assumption }), by kernel_rfl, M3.drop⟩, Kw.mlt (69 - (k + 1)) (69 - k) (by kernel_rfl) (by kernel_rfl) (by omega)⟩
  · skip
    refine wp_seq (Kw.region ?_)
    refine KS.s (Canon.opS .lss 3 (.tmp 6) (.const (.int .i64 69)) (.int .i64 ((k : Nat) : Int)) (.int .i64 69)) (.bool false) (Kw.eqv (v := .bool (decide (((k : Nat) : Int) < (69 : Int)))) (by kernel_rfl) (by rw [decide_eq_false (by omega)])) ?_
    refine Kw.fin (Kw.then_normal (wp_seq ?_))
    refine wp_cond_false (by kernel_rfl) ?_
    refine wp_exit (Kw.then_exit (Kw.then_exit (Kw.block_hit (Kw.then_normal (wp_seq (Kw.region ?_))))))
    refine KS.p (.int .i64 0) ?_
    refine Kw.fin (Kw.then_normal (wp_ret ?_))
    exact bodyPost_ret (v := .int .i64 0) (by kernel_rfl) (by kernel_rfl) ⟨by rw [find_none t (fun j hj => hno j (by omega))]; rfl, M.drop⟩
end Go.Proofs.Ytpmpibcfmejbfaa.Inst
