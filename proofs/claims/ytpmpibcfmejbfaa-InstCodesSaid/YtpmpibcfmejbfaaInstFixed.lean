/- What a word must be by a line of the table, and in which bits: what the program's functions answer. No condition. -/
import Derived.Test.YtpmpibcfmejbfaaInstFieldC
import Derived.Test.YtpmpibcfmejbfaaKS
namespace Go.Proofs.Ytpmpibcfmejbfaa.Inst
open Go.RowKit Go.Proofs.Ytpmpibcfmejbfaa.Bits
attribute [local irreducible] Go.wpList
set_option linter.unusedVariables false
theorem fixed1 (x m v : BitVec 64) (a n : Int) (B1 B2 : Nat) (W : World) (h1 : W.heap[B1]? = some (.cells #[.int .u64 (u x)] 22 (0, 0))) (h2 : W.heap[B2]? = some (.cells #[.int .u64 (u m)] 22 (0, 0))) (hne : B1 ≠ B2) :
    Calls Try.prog 60 #[.int .i64 a, .int .i64 n, .int .u64 (u v), .pointer (some ⟨B1, 0, none⟩), .pointer (some ⟨B2, 0, none⟩)] W fun e W' => e = .returned (.tuple #[]) ∧ Kw.Mem [B1, B2] W W' [(B1, #[.int .u64 (u (putI x a n v))], 22), (B2, #[.int .u64 (u (putI m a n 18446744073709551615#64))], 22)] := by
  refine calls_of_wp Try.func60 rfl ?_
  have M0 : Kw.Mem [B1, B2] W W [(B1, #[.int .u64 (u x)], 22), (B2, #[.int .u64 (u m)], 22)] := Held.begin2 h1 h2 hne
  refine Kw.to (b := ⟨#[.int .i64 a, .int .i64 n, .int .u64 (u v), .pointer (some ⟨B1, 0, none⟩), .pointer (some ⟨B2, 0, none⟩), undef, undef, undef, undef, undef, undef, undef, undef, undef, undef, undef, undef], []⟩) (by kernel_rfl) ?_
  refine CanonT.region_canonT (I := fun w => Kw.Mem [B1, B2] W w [(B1, #[.int .u64 (u x)], 22), (B2, #[.int .u64 (u m)], 22)]) 9 (by kernel_rfl) (by decide +kernel) (by decide +kernel) M0.drew' ?_
  refine CanonT.readsS (Canon.ldS 22 (.pointer (some ⟨B1, 0, none⟩))) (.int .u64 (u x)) (by kernel_rfl) (by kernel_rfl) (fun w hw => Kw.ld_cell 22 0 (.int .u64 (u x)) (hw.get 0 rfl) (by kernel_rfl) _ Try.underlying22 rfl) ?_
  refine CanonT.pure (.int .i64 a) (by kernel_rfl) (fun w => by kernel_rfl) ?_
  refine CanonT.pure (.int .i64 n) (by kernel_rfl) (fun w => by kernel_rfl) ?_
  refine CanonT.pure (.int .u64 (u v)) (by kernel_rfl) (fun w => by kernel_rfl) ?_
  refine CanonT.call (.int .u64 (u (putI x a n v))) 48 #[.int .u64 (u x), .int .i64 a, .int .i64 n, .int .u64 (u v)] (by kernel_rfl) (fun w => by kernel_rfl) (fun w hw => (put_c x a n v w).mono fun r w1 ⟨he, hb⟩ => ⟨he, hw.call hb⟩) ?_
  refine CanonT.readsS (Canon.ldS 22 (.pointer (some ⟨B2, 0, none⟩))) (.int .u64 (u m)) (by kernel_rfl) (by kernel_rfl) (fun w hw => Kw.ld_cell 22 0 (.int .u64 (u m)) (hw.get 1 rfl) (by kernel_rfl) _ Try.underlying22 rfl) ?_
  refine CanonT.pure (.int .i64 a) (by kernel_rfl) (fun w => by kernel_rfl) ?_
  refine CanonT.pure (.int .i64 n) (by kernel_rfl) (fun w => by kernel_rfl) ?_
  refine CanonT.call (.int .u64 (u (putI m a n 18446744073709551615#64))) 48 #[.int .u64 (u m), .int .i64 a, .int .i64 n, .int .u64 18446744073709551615] (by kernel_rfl) (fun w => by kernel_rfl) (fun w hw => (put_c m a n 18446744073709551615#64 w).mono fun r w1 ⟨he, hb⟩ => ⟨he, hw.call hb⟩) ?_
  refine CanonT.tail fun w1 M1 => ?_
  refine Kw.storeCell 0 22 0 (.int .u64 (u (putI x a n v))) #[.int .u64 (u (putI x a n v))] M1 rfl (by kernel_rfl) (by kernel_rfl) (show 0 < 1 from by decide) (by kernel_rfl) rfl (by kernel_rfl) (by kernel_rfl) fun w2 M2 => ?_
  refine Kw.storeCell 1 22 0 (.int .u64 (u (putI m a n 18446744073709551615#64))) #[.int .u64 (u (putI m a n 18446744073709551615#64))] M2 rfl (by kernel_rfl) (by kernel_rfl) (show 0 < 1 from by decide) (by kernel_rfl) rfl (by kernel_rfl) (by kernel_rfl) fun w3 M3 => ?_
  refine Kw.fin ?_
  -- the end
  exact bodyPost_end (v := .tuple #[]) (by kernel_rfl) (by kernel_rfl) ⟨rfl, M3⟩
set_option maxRecDepth 100000 in
theorem fixed_I (nm : ByteArray) (c f o : BitVec 64) (W : World) : Calls Try.prog 44 #[.agg #[.string nm, .int .u8 73, .int .u64 (u c), .int .u64 (u f), .int .u64 (u o)]] W fun e W' => e = .returned (.tuple #[.int .u64 (u (putI (putI 0#64 0 7 c) 12 3 f)), .int .u64 (u (putI (putI 0#64 0 7 18446744073709551615#64) 12 3 18446744073709551615#64))]) ∧ Kw.Mem [] W W' [] := by
  refine calls_of_wp Try.func44 rfl ?_
  have M0 : Kw.Mem [] W W [] := Kw.Mem.start _ _
  refine Kw.to (b := ⟨#[.agg #[.string nm, .int .u8 73, .int .u64 (u c), .int .u64 (u f), .int .u64 (u o)], undef, undef, undef, undef, undef, undef, undef, undef, undef, undef, undef, undef, undef, undef, undef, undef, undef, undef, undef, undef, undef, undef, undef, undef, undef, undef, undef, undef, undef, undef, undef, undef, undef, undef, undef, undef, undef, undef, undef, undef, undef, undef, undef, undef, undef, undef, undef, undef, undef, undef, undef, undef, undef, undef], []⟩) (by kernel_rfl) ?_
  refine wp_seq (Kw.region ?_)
  refine Kw.alloc #[.string nm, .int .u8 73, .int .u64 (u c), .int .u64 (u f), .int .u64 (u o)] 59 M0 (by kernel_rfl) (by kernel_rfl) fun w1 B1 M1 => ?_
  refine Kw.alloc #[.int .u64 0] 22 M1 (by kernel_rfl) (by kernel_rfl) fun w2 B2 M2 => ?_
  refine Kw.alloc #[.int .u64 0] 22 M2 (by kernel_rfl) (by kernel_rfl) fun w3 B3 M3 => ?_
  refine KS.n4 ?_
  refine KS.p (.func (.func 60) #[] #[.pointer (some ⟨B2, 0, none⟩), .pointer (some ⟨B3, 0, none⟩)]) ?_
  refine KS.p (.func (.func 60) #[] #[.pointer (some ⟨B2, 0, none⟩), .pointer (some ⟨B3, 0, none⟩)]) ?_
  refine KS.n4 ?_
  refine KS.p (.func (.func 60) #[] #[.pointer (some ⟨B2, 0, none⟩), .pointer (some ⟨B3, 0, none⟩)]) ?_
  refine KS.p (.pointer (some ⟨B1, 2, none⟩)) ?_
  refine KS.l 22 B1 2 (.int .u64 (u c)) M3 2 Try.underlying22 ?_
  refine Held.callC2 (.tuple #[]) 60 #[.int .i64 0, .int .i64 7, .int .u64 (u c), .pointer (some ⟨B2, 0, none⟩), .pointer (some ⟨B3, 0, none⟩)] 1 0 #[.int .u64 (u (putI 0#64 0 7 c))] #[.int .u64 (u (putI 0#64 0 7 18446744073709551615#64))] M3 (by decide) rfl rfl (by kernel_rfl) (by kernel_rfl) (fun h1 h2 hne => fixed1 0#64 0#64 c 0 7 B2 B3 w3 h1 h2 hne) fun w4 M4 => ?_
  refine KS.n5 ?_
  refine KS.p (.pointer (some ⟨B1, 1, none⟩)) ?_
  refine KS.l 5 B1 1 (.int .u8 73) M4 2 Try.underlying5 ?_
  refine Kw.fin (Kw.then_normal (wp_block (wp_seq (wp_seq (Kw.region ?_)))))
  refine KS.p (.bool false) ?_
  refine KS.p (.bool false) ?_
  refine KS.n2 ?_
  refine wp_cond_false (by kernel_rfl) ?_
  refine Kw.region ?_
  refine KS.p (.bool false) ?_
  refine KS.p (.bool false) ?_
  refine KS.n2 ?_
  refine wp_cond_false (by kernel_rfl) ?_
  refine wp_seq (Kw.region ?_)
  refine KS.p (.bool false) ?_
  refine KS.p (.bool false) ?_
  refine KS.n2 ?_
  refine wp_cond_false (by kernel_rfl) ?_
  refine wp_skip (Kw.block_normal (Kw.then_normal (wp_seq (Kw.region ?_))))
  refine KS.p (.func (.func 60) #[] #[.pointer (some ⟨B2, 0, none⟩), .pointer (some ⟨B3, 0, none⟩)]) ?_
  refine KS.p (.pointer (some ⟨B1, 3, none⟩)) ?_
  refine KS.l 22 B1 3 (.int .u64 (u f)) M4 2 Try.underlying22 ?_
  refine Held.callC2 (.tuple #[]) 60 #[.int .i64 12, .int .i64 3, .int .u64 (u f), .pointer (some ⟨B2, 0, none⟩), .pointer (some ⟨B3, 0, none⟩)] 1 0 #[.int .u64 (u (putI (putI 0#64 0 7 c) 12 3 f))] #[.int .u64 (u (putI (putI 0#64 0 7 18446744073709551615#64) 12 3 18446744073709551615#64))] M4 (by decide) rfl rfl (by kernel_rfl) (by kernel_rfl) (fun h1 h2 hne => fixed1 (putI 0#64 0 7 c) (putI 0#64 0 7 18446744073709551615#64) f 12 3 B2 B3 w4 h1 h2 hne) fun w5 M5 => ?_
  refine KS.n5 ?_
  refine KS.p (.pointer (some ⟨B1, 1, none⟩)) ?_
  refine KS.l 5 B1 1 (.int .u8 73) M5 2 Try.underlying5 ?_
  refine Kw.fin (Kw.then_normal (wp_block (wp_seq (Kw.region ?_))))
  refine KS.p (.bool false) ?_
  refine KS.p (.bool false) ?_
  refine KS.n2 ?_
  refine wp_cond_false (by kernel_rfl) ?_
  refine wp_seq (Kw.region ?_)
  refine KS.p (.bool false) ?_
  refine KS.p (.bool false) ?_
  refine KS.n2 ?_
  refine wp_cond_false (by kernel_rfl) ?_
  refine wp_seq (Kw.region ?_)
  refine KS.p (.bool false) ?_
  refine KS.p (.bool false) ?_
  refine KS.n2 ?_
  refine wp_cond_false (by kernel_rfl) ?_
  refine wp_skip (Kw.block_normal (Kw.then_normal (wp_seq ?_)))
  refine Held.start (fun w => Kw.Mem [] W w [(B3, #[.int .u64 (u (putI (putI 0#64 0 7 18446744073709551615#64) 12 3 18446744073709551615#64))], 22), (B2, #[.int .u64 (u (putI (putI 0#64 0 7 c) 12 3 f))], 22), (B1, #[.string nm, .int .u8 73, .int .u64 (u c), .int .u64 (u f), .int .u64 (u o)], 59)]) (by kernel_rfl) ?_
  have M6 := M5.drew
  have MS := M6
  refine Held.take 0 (Canon.ldS 22 (.pointer (some ⟨B2, 0, none⟩))) (.int .u64 (u (putI (putI 0#64 0 7 c) 12 3 f))) rfl (by decide +kernel) (by decide +kernel) (by decide +kernel) (by kernel_rfl) (by kernel_rfl) (fun w hw => Kw.ld_cell 22 0 (.int .u64 (u (putI (putI 0#64 0 7 c) 12 3 f))) (hw.get 1 rfl) (by kernel_rfl) _ Try.underlying22 rfl) MS ?_
  refine Held.take 1 (Canon.ldS 22 (.pointer (some ⟨B3, 0, none⟩))) (.int .u64 (u (putI (putI 0#64 0 7 18446744073709551615#64) 12 3 18446744073709551615#64))) rfl (by decide +kernel) (by decide +kernel) (by decide +kernel) (by kernel_rfl) (by kernel_rfl) (fun w hw => Kw.ld_cell 22 0 (.int .u64 (u (putI (putI 0#64 0 7 18446744073709551615#64) 12 3 18446744073709551615#64))) (hw.get 0 rfl) (by kernel_rfl) _ Try.underlying22 rfl) MS ?_
  refine Held.oneStoreCell 2 1 22 0 (.int .u64 (u (putI (putI 0#64 0 7 c) 12 3 f))) #[.int .u64 (u (putI (putI 0#64 0 7 c) 12 3 f))] M6 rfl rfl (by decide +kernel) (by kernel_rfl) (by kernel_rfl) (show 0 < 1 from by decide) (by kernel_rfl) rfl (by kernel_rfl) (by kernel_rfl) fun w7 M7 => ⟨M7, ?_⟩
  refine Held.oneStoreCell 3 0 22 0 (.int .u64 (u (putI (putI 0#64 0 7 18446744073709551615#64) 12 3 18446744073709551615#64))) #[.int .u64 (u (putI (putI 0#64 0 7 18446744073709551615#64) 12 3 18446744073709551615#64))] M7 rfl rfl (by decide +kernel) (by kernel_rfl) (by kernel_rfl) (show 0 < 1 from by decide) (by kernel_rfl) rfl (by kernel_rfl) (by kernel_rfl) fun w8 M8 => ⟨M8, ?_⟩
  refine Held.done (by decide +kernel) ?_
  refine Kw.then_normal (wp_ret ?_)
  have hr9 : (loadVar 22 ⟨B2, 0, none⟩).run Try.prog w8 = .ok (.int .u64 (u (putI (putI 0#64 0 7 c) 12 3 f))) w8 := Kw.lv_cell 22 0 (.int .u64 (u (putI (putI 0#64 0 7 c) 12 3 f))) (M8.get 1 rfl) rfl _ Try.underlying22 rfl
  have hr10 : (loadVar 22 ⟨B3, 0, none⟩).run Try.prog w8 = .ok (.int .u64 (u (putI (putI 0#64 0 7 18446744073709551615#64) 12 3 18446744073709551615#64))) w8 := Kw.lv_cell 22 0 (.int .u64 (u (putI (putI 0#64 0 7 18446744073709551615#64) 12 3 18446744073709551615#64))) (M8.get 0 rfl) rfl _ Try.underlying22 rfl
  exact KS.r3 Try.results44 hr9 hr10 ⟨rfl, M8.drop⟩
set_option maxRecDepth 100000 in
theorem fixed_C (nm : ByteArray) (c f o : BitVec 64) (W : World) : Calls Try.prog 44 #[.agg #[.string nm, .int .u8 67, .int .u64 (u c), .int .u64 (u f), .int .u64 (u o)]] W fun e W' => e = .returned (.tuple #[.int .u64 (u (putI (putI 0#64 0 7 c) 12 3 f)), .int .u64 (u (putI (putI 0#64 0 7 18446744073709551615#64) 12 3 18446744073709551615#64))]) ∧ Kw.Mem [] W W' [] := by
  refine calls_of_wp Try.func44 rfl ?_
  have M0 : Kw.Mem [] W W [] := Kw.Mem.start _ _
  refine Kw.to (b := ⟨#[.agg #[.string nm, .int .u8 67, .int .u64 (u c), .int .u64 (u f), .int .u64 (u o)], undef, undef, undef, undef, undef, undef, undef, undef, undef, undef, undef, undef, undef, undef, undef, undef, undef, undef, undef, undef, undef, undef, undef, undef, undef, undef, undef, undef, undef, undef, undef, undef, undef, undef, undef, undef, undef, undef, undef, undef, undef, undef, undef, undef, undef, undef, undef, undef, undef, undef, undef, undef, undef, undef], []⟩) (by kernel_rfl) ?_
  refine wp_seq (Kw.region ?_)
  refine Kw.alloc #[.string nm, .int .u8 67, .int .u64 (u c), .int .u64 (u f), .int .u64 (u o)] 59 M0 (by kernel_rfl) (by kernel_rfl) fun w1 B1 M1 => ?_
  refine Kw.alloc #[.int .u64 0] 22 M1 (by kernel_rfl) (by kernel_rfl) fun w2 B2 M2 => ?_
  refine Kw.alloc #[.int .u64 0] 22 M2 (by kernel_rfl) (by kernel_rfl) fun w3 B3 M3 => ?_
  refine KS.n4 ?_
  refine KS.p (.func (.func 60) #[] #[.pointer (some ⟨B2, 0, none⟩), .pointer (some ⟨B3, 0, none⟩)]) ?_
  refine KS.p (.func (.func 60) #[] #[.pointer (some ⟨B2, 0, none⟩), .pointer (some ⟨B3, 0, none⟩)]) ?_
  refine KS.n4 ?_
  refine KS.p (.func (.func 60) #[] #[.pointer (some ⟨B2, 0, none⟩), .pointer (some ⟨B3, 0, none⟩)]) ?_
  refine KS.p (.pointer (some ⟨B1, 2, none⟩)) ?_
  refine KS.l 22 B1 2 (.int .u64 (u c)) M3 2 Try.underlying22 ?_
  refine Held.callC2 (.tuple #[]) 60 #[.int .i64 0, .int .i64 7, .int .u64 (u c), .pointer (some ⟨B2, 0, none⟩), .pointer (some ⟨B3, 0, none⟩)] 1 0 #[.int .u64 (u (putI 0#64 0 7 c))] #[.int .u64 (u (putI 0#64 0 7 18446744073709551615#64))] M3 (by decide) rfl rfl (by kernel_rfl) (by kernel_rfl) (fun h1 h2 hne => fixed1 0#64 0#64 c 0 7 B2 B3 w3 h1 h2 hne) fun w4 M4 => ?_
  refine KS.n5 ?_
  refine KS.p (.pointer (some ⟨B1, 1, none⟩)) ?_
  refine KS.l 5 B1 1 (.int .u8 67) M4 2 Try.underlying5 ?_
  refine Kw.fin (Kw.then_normal (wp_block (wp_seq (wp_seq (Kw.region ?_)))))
  refine KS.p (.bool false) ?_
  refine KS.p (.bool false) ?_
  refine KS.n2 ?_
  refine wp_cond_false (by kernel_rfl) ?_
  refine Kw.region ?_
  refine KS.p (.bool false) ?_
  refine KS.p (.bool false) ?_
  refine KS.n2 ?_
  refine wp_cond_false (by kernel_rfl) ?_
  refine wp_seq (Kw.region ?_)
  refine KS.p (.bool false) ?_
  refine KS.p (.bool false) ?_
  refine KS.n2 ?_
  refine wp_cond_false (by kernel_rfl) ?_
  refine wp_skip (Kw.block_normal (Kw.then_normal (wp_seq (Kw.region ?_))))
  refine KS.p (.func (.func 60) #[] #[.pointer (some ⟨B2, 0, none⟩), .pointer (some ⟨B3, 0, none⟩)]) ?_
  refine KS.p (.pointer (some ⟨B1, 3, none⟩)) ?_
  refine KS.l 22 B1 3 (.int .u64 (u f)) M4 2 Try.underlying22 ?_
  refine Held.callC2 (.tuple #[]) 60 #[.int .i64 12, .int .i64 3, .int .u64 (u f), .pointer (some ⟨B2, 0, none⟩), .pointer (some ⟨B3, 0, none⟩)] 1 0 #[.int .u64 (u (putI (putI 0#64 0 7 c) 12 3 f))] #[.int .u64 (u (putI (putI 0#64 0 7 18446744073709551615#64) 12 3 18446744073709551615#64))] M4 (by decide) rfl rfl (by kernel_rfl) (by kernel_rfl) (fun h1 h2 hne => fixed1 (putI 0#64 0 7 c) (putI 0#64 0 7 18446744073709551615#64) f 12 3 B2 B3 w4 h1 h2 hne) fun w5 M5 => ?_
  refine KS.n5 ?_
  refine KS.p (.pointer (some ⟨B1, 1, none⟩)) ?_
  refine KS.l 5 B1 1 (.int .u8 67) M5 2 Try.underlying5 ?_
  refine Kw.fin (Kw.then_normal (wp_block (wp_seq (Kw.region ?_))))
  refine KS.p (.bool false) ?_
  refine KS.p (.bool false) ?_
  refine KS.n2 ?_
  refine wp_cond_false (by kernel_rfl) ?_
  refine wp_seq (Kw.region ?_)
  refine KS.p (.bool false) ?_
  refine KS.p (.bool false) ?_
  refine KS.n2 ?_
  refine wp_cond_false (by kernel_rfl) ?_
  refine wp_seq (Kw.region ?_)
  refine KS.p (.bool false) ?_
  refine KS.p (.bool false) ?_
  refine KS.n2 ?_
  refine wp_cond_false (by kernel_rfl) ?_
  refine wp_skip (Kw.block_normal (Kw.then_normal (wp_seq ?_)))
  refine Held.start (fun w => Kw.Mem [] W w [(B3, #[.int .u64 (u (putI (putI 0#64 0 7 18446744073709551615#64) 12 3 18446744073709551615#64))], 22), (B2, #[.int .u64 (u (putI (putI 0#64 0 7 c) 12 3 f))], 22), (B1, #[.string nm, .int .u8 67, .int .u64 (u c), .int .u64 (u f), .int .u64 (u o)], 59)]) (by kernel_rfl) ?_
  have M6 := M5.drew
  have MS := M6
  refine Held.take 0 (Canon.ldS 22 (.pointer (some ⟨B2, 0, none⟩))) (.int .u64 (u (putI (putI 0#64 0 7 c) 12 3 f))) rfl (by decide +kernel) (by decide +kernel) (by decide +kernel) (by kernel_rfl) (by kernel_rfl) (fun w hw => Kw.ld_cell 22 0 (.int .u64 (u (putI (putI 0#64 0 7 c) 12 3 f))) (hw.get 1 rfl) (by kernel_rfl) _ Try.underlying22 rfl) MS ?_
  refine Held.take 1 (Canon.ldS 22 (.pointer (some ⟨B3, 0, none⟩))) (.int .u64 (u (putI (putI 0#64 0 7 18446744073709551615#64) 12 3 18446744073709551615#64))) rfl (by decide +kernel) (by decide +kernel) (by decide +kernel) (by kernel_rfl) (by kernel_rfl) (fun w hw => Kw.ld_cell 22 0 (.int .u64 (u (putI (putI 0#64 0 7 18446744073709551615#64) 12 3 18446744073709551615#64))) (hw.get 0 rfl) (by kernel_rfl) _ Try.underlying22 rfl) MS ?_
  refine Held.oneStoreCell 2 1 22 0 (.int .u64 (u (putI (putI 0#64 0 7 c) 12 3 f))) #[.int .u64 (u (putI (putI 0#64 0 7 c) 12 3 f))] M6 rfl rfl (by decide +kernel) (by kernel_rfl) (by kernel_rfl) (show 0 < 1 from by decide) (by kernel_rfl) rfl (by kernel_rfl) (by kernel_rfl) fun w7 M7 => ⟨M7, ?_⟩
  refine Held.oneStoreCell 3 0 22 0 (.int .u64 (u (putI (putI 0#64 0 7 18446744073709551615#64) 12 3 18446744073709551615#64))) #[.int .u64 (u (putI (putI 0#64 0 7 18446744073709551615#64) 12 3 18446744073709551615#64))] M7 rfl rfl (by decide +kernel) (by kernel_rfl) (by kernel_rfl) (show 0 < 1 from by decide) (by kernel_rfl) rfl (by kernel_rfl) (by kernel_rfl) fun w8 M8 => ⟨M8, ?_⟩
  refine Held.done (by decide +kernel) ?_
  refine Kw.then_normal (wp_ret ?_)
  have hr9 : (loadVar 22 ⟨B2, 0, none⟩).run Try.prog w8 = .ok (.int .u64 (u (putI (putI 0#64 0 7 c) 12 3 f))) w8 := Kw.lv_cell 22 0 (.int .u64 (u (putI (putI 0#64 0 7 c) 12 3 f))) (M8.get 1 rfl) rfl _ Try.underlying22 rfl
  have hr10 : (loadVar 22 ⟨B3, 0, none⟩).run Try.prog w8 = .ok (.int .u64 (u (putI (putI 0#64 0 7 18446744073709551615#64) 12 3 18446744073709551615#64))) w8 := Kw.lv_cell 22 0 (.int .u64 (u (putI (putI 0#64 0 7 18446744073709551615#64) 12 3 18446744073709551615#64))) (M8.get 0 rfl) rfl _ Try.underlying22 rfl
  exact KS.r3 Try.results44 hr9 hr10 ⟨rfl, M8.drop⟩
set_option maxRecDepth 100000 in
theorem fixed_H (nm : ByteArray) (c f o : BitVec 64) (W : World) : Calls Try.prog 44 #[.agg #[.string nm, .int .u8 72, .int .u64 (u c), .int .u64 (u f), .int .u64 (u o)]] W fun e W' => e = .returned (.tuple #[.int .u64 (u (putI (putI (putI 0#64 0 7 c) 12 3 f) 26 6 o)), .int .u64 (u (putI (putI (putI 0#64 0 7 18446744073709551615#64) 12 3 18446744073709551615#64) 26 6 18446744073709551615#64))]) ∧ Kw.Mem [] W W' [] := by
  refine calls_of_wp Try.func44 rfl ?_
  have M0 : Kw.Mem [] W W [] := Kw.Mem.start _ _
  refine Kw.to (b := ⟨#[.agg #[.string nm, .int .u8 72, .int .u64 (u c), .int .u64 (u f), .int .u64 (u o)], undef, undef, undef, undef, undef, undef, undef, undef, undef, undef, undef, undef, undef, undef, undef, undef, undef, undef, undef, undef, undef, undef, undef, undef, undef, undef, undef, undef, undef, undef, undef, undef, undef, undef, undef, undef, undef, undef, undef, undef, undef, undef, undef, undef, undef, undef, undef, undef, undef, undef, undef, undef, undef, undef], []⟩) (by kernel_rfl) ?_
  refine wp_seq (Kw.region ?_)
  refine Kw.alloc #[.string nm, .int .u8 72, .int .u64 (u c), .int .u64 (u f), .int .u64 (u o)] 59 M0 (by kernel_rfl) (by kernel_rfl) fun w1 B1 M1 => ?_
  refine Kw.alloc #[.int .u64 0] 22 M1 (by kernel_rfl) (by kernel_rfl) fun w2 B2 M2 => ?_
  refine Kw.alloc #[.int .u64 0] 22 M2 (by kernel_rfl) (by kernel_rfl) fun w3 B3 M3 => ?_
  refine KS.n4 ?_
  refine KS.p (.func (.func 60) #[] #[.pointer (some ⟨B2, 0, none⟩), .pointer (some ⟨B3, 0, none⟩)]) ?_
  refine KS.p (.func (.func 60) #[] #[.pointer (some ⟨B2, 0, none⟩), .pointer (some ⟨B3, 0, none⟩)]) ?_
  refine KS.n4 ?_
  refine KS.p (.func (.func 60) #[] #[.pointer (some ⟨B2, 0, none⟩), .pointer (some ⟨B3, 0, none⟩)]) ?_
  refine KS.p (.pointer (some ⟨B1, 2, none⟩)) ?_
  refine KS.l 22 B1 2 (.int .u64 (u c)) M3 2 Try.underlying22 ?_
  refine Held.callC2 (.tuple #[]) 60 #[.int .i64 0, .int .i64 7, .int .u64 (u c), .pointer (some ⟨B2, 0, none⟩), .pointer (some ⟨B3, 0, none⟩)] 1 0 #[.int .u64 (u (putI 0#64 0 7 c))] #[.int .u64 (u (putI 0#64 0 7 18446744073709551615#64))] M3 (by decide) rfl rfl (by kernel_rfl) (by kernel_rfl) (fun h1 h2 hne => fixed1 0#64 0#64 c 0 7 B2 B3 w3 h1 h2 hne) fun w4 M4 => ?_
  refine KS.n5 ?_
  refine KS.p (.pointer (some ⟨B1, 1, none⟩)) ?_
  refine KS.l 5 B1 1 (.int .u8 72) M4 2 Try.underlying5 ?_
  refine Kw.fin (Kw.then_normal (wp_block (wp_seq (wp_seq (Kw.region ?_)))))
  refine KS.p (.bool false) ?_
  refine KS.p (.bool false) ?_
  refine KS.n2 ?_
  refine wp_cond_false (by kernel_rfl) ?_
  refine Kw.region ?_
  refine KS.p (.bool false) ?_
  refine KS.p (.bool false) ?_
  refine KS.n2 ?_
  refine wp_cond_false (by kernel_rfl) ?_
  refine wp_seq (Kw.region ?_)
  refine KS.p (.bool false) ?_
  refine KS.p (.bool false) ?_
  refine KS.n2 ?_
  refine wp_cond_false (by kernel_rfl) ?_
  refine wp_skip (Kw.block_normal (Kw.then_normal (wp_seq (Kw.region ?_))))
  refine KS.p (.func (.func 60) #[] #[.pointer (some ⟨B2, 0, none⟩), .pointer (some ⟨B3, 0, none⟩)]) ?_
  refine KS.p (.pointer (some ⟨B1, 3, none⟩)) ?_
  refine KS.l 22 B1 3 (.int .u64 (u f)) M4 2 Try.underlying22 ?_
  refine Held.callC2 (.tuple #[]) 60 #[.int .i64 12, .int .i64 3, .int .u64 (u f), .pointer (some ⟨B2, 0, none⟩), .pointer (some ⟨B3, 0, none⟩)] 1 0 #[.int .u64 (u (putI (putI 0#64 0 7 c) 12 3 f))] #[.int .u64 (u (putI (putI 0#64 0 7 18446744073709551615#64) 12 3 18446744073709551615#64))] M4 (by decide) rfl rfl (by kernel_rfl) (by kernel_rfl) (fun h1 h2 hne => fixed1 (putI 0#64 0 7 c) (putI 0#64 0 7 18446744073709551615#64) f 12 3 B2 B3 w4 h1 h2 hne) fun w5 M5 => ?_
  refine KS.n5 ?_
  refine KS.p (.pointer (some ⟨B1, 1, none⟩)) ?_
  refine KS.l 5 B1 1 (.int .u8 72) M5 2 Try.underlying5 ?_
  refine Kw.fin (Kw.then_normal (wp_block (wp_seq (Kw.region ?_))))
  refine KS.p (.bool false) ?_
  refine KS.p (.bool false) ?_
  refine KS.n2 ?_
  refine wp_cond_false (by kernel_rfl) ?_
  refine wp_seq (Kw.region ?_)
  refine KS.p (.bool false) ?_
  refine KS.p (.bool false) ?_
  refine KS.n2 ?_
  refine wp_cond_false (by kernel_rfl) ?_
  refine wp_seq (Kw.region ?_)
  refine KS.p (.bool true) ?_
  refine KS.p (.bool true) ?_
  refine KS.n2 ?_
  refine wp_cond_true (by kernel_rfl) ?_
  refine Kw.region ?_
  refine KS.p (.func (.func 60) #[] #[.pointer (some ⟨B2, 0, none⟩), .pointer (some ⟨B3, 0, none⟩)]) ?_
  refine KS.p (.pointer (some ⟨B1, 4, none⟩)) ?_
  refine KS.l 22 B1 4 (.int .u64 (u o)) M5 2 Try.underlying22 ?_
  refine Held.callC2 (.tuple #[]) 60 #[.int .i64 26, .int .i64 6, .int .u64 (u o), .pointer (some ⟨B2, 0, none⟩), .pointer (some ⟨B3, 0, none⟩)] 1 0 #[.int .u64 (u (putI (putI (putI 0#64 0 7 c) 12 3 f) 26 6 o))] #[.int .u64 (u (putI (putI (putI 0#64 0 7 18446744073709551615#64) 12 3 18446744073709551615#64) 26 6 18446744073709551615#64))] M5 (by decide) rfl rfl (by kernel_rfl) (by kernel_rfl) (fun h1 h2 hne => fixed1 (putI (putI 0#64 0 7 c) 12 3 f) (putI (putI 0#64 0 7 18446744073709551615#64) 12 3 18446744073709551615#64) o 26 6 B2 B3 w5 h1 h2 hne) fun w6 M6 => ?_
  refine Kw.fin (Kw.block_normal (Kw.then_normal (wp_seq ?_)))
  refine Held.start (fun w => Kw.Mem [] W w [(B3, #[.int .u64 (u (putI (putI (putI 0#64 0 7 18446744073709551615#64) 12 3 18446744073709551615#64) 26 6 18446744073709551615#64))], 22), (B2, #[.int .u64 (u (putI (putI (putI 0#64 0 7 c) 12 3 f) 26 6 o))], 22), (B1, #[.string nm, .int .u8 72, .int .u64 (u c), .int .u64 (u f), .int .u64 (u o)], 59)]) (by kernel_rfl) ?_
  have M7 := M6.drew
  have MS := M7
  refine Held.take 0 (Canon.ldS 22 (.pointer (some ⟨B2, 0, none⟩))) (.int .u64 (u (putI (putI (putI 0#64 0 7 c) 12 3 f) 26 6 o))) rfl (by decide +kernel) (by decide +kernel) (by decide +kernel) (by kernel_rfl) (by kernel_rfl) (fun w hw => Kw.ld_cell 22 0 (.int .u64 (u (putI (putI (putI 0#64 0 7 c) 12 3 f) 26 6 o))) (hw.get 1 rfl) (by kernel_rfl) _ Try.underlying22 rfl) MS ?_
  refine Held.take 1 (Canon.ldS 22 (.pointer (some ⟨B3, 0, none⟩))) (.int .u64 (u (putI (putI (putI 0#64 0 7 18446744073709551615#64) 12 3 18446744073709551615#64) 26 6 18446744073709551615#64))) rfl (by decide +kernel) (by decide +kernel) (by decide +kernel) (by kernel_rfl) (by kernel_rfl) (fun w hw => Kw.ld_cell 22 0 (.int .u64 (u (putI (putI (putI 0#64 0 7 18446744073709551615#64) 12 3 18446744073709551615#64) 26 6 18446744073709551615#64))) (hw.get 0 rfl) (by kernel_rfl) _ Try.underlying22 rfl) MS ?_
  refine Held.oneStoreCell 2 1 22 0 (.int .u64 (u (putI (putI (putI 0#64 0 7 c) 12 3 f) 26 6 o))) #[.int .u64 (u (putI (putI (putI 0#64 0 7 c) 12 3 f) 26 6 o))] M7 rfl rfl (by decide +kernel) (by kernel_rfl) (by kernel_rfl) (show 0 < 1 from by decide) (by kernel_rfl) rfl (by kernel_rfl) (by kernel_rfl) fun w8 M8 => ⟨M8, ?_⟩
  refine Held.oneStoreCell 3 0 22 0 (.int .u64 (u (putI (putI (putI 0#64 0 7 18446744073709551615#64) 12 3 18446744073709551615#64) 26 6 18446744073709551615#64))) #[.int .u64 (u (putI (putI (putI 0#64 0 7 18446744073709551615#64) 12 3 18446744073709551615#64) 26 6 18446744073709551615#64))] M8 rfl rfl (by decide +kernel) (by kernel_rfl) (by kernel_rfl) (show 0 < 1 from by decide) (by kernel_rfl) rfl (by kernel_rfl) (by kernel_rfl) fun w9 M9 => ⟨M9, ?_⟩
  refine Held.done (by decide +kernel) ?_
  refine Kw.then_normal (wp_ret ?_)
  have hr10 : (loadVar 22 ⟨B2, 0, none⟩).run Try.prog w9 = .ok (.int .u64 (u (putI (putI (putI 0#64 0 7 c) 12 3 f) 26 6 o))) w9 := Kw.lv_cell 22 0 (.int .u64 (u (putI (putI (putI 0#64 0 7 c) 12 3 f) 26 6 o))) (M9.get 1 rfl) rfl _ Try.underlying22 rfl
  have hr11 : (loadVar 22 ⟨B3, 0, none⟩).run Try.prog w9 = .ok (.int .u64 (u (putI (putI (putI 0#64 0 7 18446744073709551615#64) 12 3 18446744073709551615#64) 26 6 18446744073709551615#64))) w9 := Kw.lv_cell 22 0 (.int .u64 (u (putI (putI (putI 0#64 0 7 18446744073709551615#64) 12 3 18446744073709551615#64) 26 6 18446744073709551615#64))) (M9.get 0 rfl) rfl _ Try.underlying22 rfl
  exact KS.r3 Try.results44 hr10 hr11 ⟨rfl, M9.drop⟩
set_option maxRecDepth 100000 in
theorem fixed_S (nm : ByteArray) (c f o : BitVec 64) (W : World) : Calls Try.prog 44 #[.agg #[.string nm, .int .u8 83, .int .u64 (u c), .int .u64 (u f), .int .u64 (u o)]] W fun e W' => e = .returned (.tuple #[.int .u64 (u (putI (putI 0#64 0 7 c) 12 3 f)), .int .u64 (u (putI (putI 0#64 0 7 18446744073709551615#64) 12 3 18446744073709551615#64))]) ∧ Kw.Mem [] W W' [] := by
  refine calls_of_wp Try.func44 rfl ?_
  have M0 : Kw.Mem [] W W [] := Kw.Mem.start _ _
  refine Kw.to (b := ⟨#[.agg #[.string nm, .int .u8 83, .int .u64 (u c), .int .u64 (u f), .int .u64 (u o)], undef, undef, undef, undef, undef, undef, undef, undef, undef, undef, undef, undef, undef, undef, undef, undef, undef, undef, undef, undef, undef, undef, undef, undef, undef, undef, undef, undef, undef, undef, undef, undef, undef, undef, undef, undef, undef, undef, undef, undef, undef, undef, undef, undef, undef, undef, undef, undef, undef, undef, undef, undef, undef, undef], []⟩) (by kernel_rfl) ?_
  refine wp_seq (Kw.region ?_)
  refine Kw.alloc #[.string nm, .int .u8 83, .int .u64 (u c), .int .u64 (u f), .int .u64 (u o)] 59 M0 (by kernel_rfl) (by kernel_rfl) fun w1 B1 M1 => ?_
  refine Kw.alloc #[.int .u64 0] 22 M1 (by kernel_rfl) (by kernel_rfl) fun w2 B2 M2 => ?_
  refine Kw.alloc #[.int .u64 0] 22 M2 (by kernel_rfl) (by kernel_rfl) fun w3 B3 M3 => ?_
  refine KS.n4 ?_
  refine KS.p (.func (.func 60) #[] #[.pointer (some ⟨B2, 0, none⟩), .pointer (some ⟨B3, 0, none⟩)]) ?_
  refine KS.p (.func (.func 60) #[] #[.pointer (some ⟨B2, 0, none⟩), .pointer (some ⟨B3, 0, none⟩)]) ?_
  refine KS.n4 ?_
  refine KS.p (.func (.func 60) #[] #[.pointer (some ⟨B2, 0, none⟩), .pointer (some ⟨B3, 0, none⟩)]) ?_
  refine KS.p (.pointer (some ⟨B1, 2, none⟩)) ?_
  refine KS.l 22 B1 2 (.int .u64 (u c)) M3 2 Try.underlying22 ?_
  refine Held.callC2 (.tuple #[]) 60 #[.int .i64 0, .int .i64 7, .int .u64 (u c), .pointer (some ⟨B2, 0, none⟩), .pointer (some ⟨B3, 0, none⟩)] 1 0 #[.int .u64 (u (putI 0#64 0 7 c))] #[.int .u64 (u (putI 0#64 0 7 18446744073709551615#64))] M3 (by decide) rfl rfl (by kernel_rfl) (by kernel_rfl) (fun h1 h2 hne => fixed1 0#64 0#64 c 0 7 B2 B3 w3 h1 h2 hne) fun w4 M4 => ?_
  refine KS.n5 ?_
  refine KS.p (.pointer (some ⟨B1, 1, none⟩)) ?_
  refine KS.l 5 B1 1 (.int .u8 83) M4 2 Try.underlying5 ?_
  refine Kw.fin (Kw.then_normal (wp_block (wp_seq (wp_seq (Kw.region ?_)))))
  refine KS.p (.bool false) ?_
  refine KS.p (.bool false) ?_
  refine KS.n2 ?_
  refine wp_cond_false (by kernel_rfl) ?_
  refine Kw.region ?_
  refine KS.p (.bool false) ?_
  refine KS.p (.bool false) ?_
  refine KS.n2 ?_
  refine wp_cond_false (by kernel_rfl) ?_
  refine wp_seq (Kw.region ?_)
  refine KS.p (.bool false) ?_
  refine KS.p (.bool false) ?_
  refine KS.n2 ?_
  refine wp_cond_false (by kernel_rfl) ?_
  refine wp_skip (Kw.block_normal (Kw.then_normal (wp_seq (Kw.region ?_))))
  refine KS.p (.func (.func 60) #[] #[.pointer (some ⟨B2, 0, none⟩), .pointer (some ⟨B3, 0, none⟩)]) ?_
  refine KS.p (.pointer (some ⟨B1, 3, none⟩)) ?_
  refine KS.l 22 B1 3 (.int .u64 (u f)) M4 2 Try.underlying22 ?_
  refine Held.callC2 (.tuple #[]) 60 #[.int .i64 12, .int .i64 3, .int .u64 (u f), .pointer (some ⟨B2, 0, none⟩), .pointer (some ⟨B3, 0, none⟩)] 1 0 #[.int .u64 (u (putI (putI 0#64 0 7 c) 12 3 f))] #[.int .u64 (u (putI (putI 0#64 0 7 18446744073709551615#64) 12 3 18446744073709551615#64))] M4 (by decide) rfl rfl (by kernel_rfl) (by kernel_rfl) (fun h1 h2 hne => fixed1 (putI 0#64 0 7 c) (putI 0#64 0 7 18446744073709551615#64) f 12 3 B2 B3 w4 h1 h2 hne) fun w5 M5 => ?_
  refine KS.n5 ?_
  refine KS.p (.pointer (some ⟨B1, 1, none⟩)) ?_
  refine KS.l 5 B1 1 (.int .u8 83) M5 2 Try.underlying5 ?_
  refine Kw.fin (Kw.then_normal (wp_block (wp_seq (Kw.region ?_))))
  refine KS.p (.bool false) ?_
  refine KS.p (.bool false) ?_
  refine KS.n2 ?_
  refine wp_cond_false (by kernel_rfl) ?_
  refine wp_seq (Kw.region ?_)
  refine KS.p (.bool false) ?_
  refine KS.p (.bool false) ?_
  refine KS.n2 ?_
  refine wp_cond_false (by kernel_rfl) ?_
  refine wp_seq (Kw.region ?_)
  refine KS.p (.bool false) ?_
  refine KS.p (.bool false) ?_
  refine KS.n2 ?_
  refine wp_cond_false (by kernel_rfl) ?_
  refine wp_skip (Kw.block_normal (Kw.then_normal (wp_seq ?_)))
  refine Held.start (fun w => Kw.Mem [] W w [(B3, #[.int .u64 (u (putI (putI 0#64 0 7 18446744073709551615#64) 12 3 18446744073709551615#64))], 22), (B2, #[.int .u64 (u (putI (putI 0#64 0 7 c) 12 3 f))], 22), (B1, #[.string nm, .int .u8 83, .int .u64 (u c), .int .u64 (u f), .int .u64 (u o)], 59)]) (by kernel_rfl) ?_
  have M6 := M5.drew
  have MS := M6
  refine Held.take 0 (Canon.ldS 22 (.pointer (some ⟨B2, 0, none⟩))) (.int .u64 (u (putI (putI 0#64 0 7 c) 12 3 f))) rfl (by decide +kernel) (by decide +kernel) (by decide +kernel) (by kernel_rfl) (by kernel_rfl) (fun w hw => Kw.ld_cell 22 0 (.int .u64 (u (putI (putI 0#64 0 7 c) 12 3 f))) (hw.get 1 rfl) (by kernel_rfl) _ Try.underlying22 rfl) MS ?_
  refine Held.take 1 (Canon.ldS 22 (.pointer (some ⟨B3, 0, none⟩))) (.int .u64 (u (putI (putI 0#64 0 7 18446744073709551615#64) 12 3 18446744073709551615#64))) rfl (by decide +kernel) (by decide +kernel) (by decide +kernel) (by kernel_rfl) (by kernel_rfl) (fun w hw => Kw.ld_cell 22 0 (.int .u64 (u (putI (putI 0#64 0 7 18446744073709551615#64) 12 3 18446744073709551615#64))) (hw.get 0 rfl) (by kernel_rfl) _ Try.underlying22 rfl) MS ?_
  refine Held.oneStoreCell 2 1 22 0 (.int .u64 (u (putI (putI 0#64 0 7 c) 12 3 f))) #[.int .u64 (u (putI (putI 0#64 0 7 c) 12 3 f))] M6 rfl rfl (by decide +kernel) (by kernel_rfl) (by kernel_rfl) (show 0 < 1 from by decide) (by kernel_rfl) rfl (by kernel_rfl) (by kernel_rfl) fun w7 M7 => ⟨M7, ?_⟩
  refine Held.oneStoreCell 3 0 22 0 (.int .u64 (u (putI (putI 0#64 0 7 18446744073709551615#64) 12 3 18446744073709551615#64))) #[.int .u64 (u (putI (putI 0#64 0 7 18446744073709551615#64) 12 3 18446744073709551615#64))] M7 rfl rfl (by decide +kernel) (by kernel_rfl) (by kernel_rfl) (show 0 < 1 from by decide) (by kernel_rfl) rfl (by kernel_rfl) (by kernel_rfl) fun w8 M8 => ⟨M8, ?_⟩
  refine Held.done (by decide +kernel) ?_
  refine Kw.then_normal (wp_ret ?_)
  have hr9 : (loadVar 22 ⟨B2, 0, none⟩).run Try.prog w8 = .ok (.int .u64 (u (putI (putI 0#64 0 7 c) 12 3 f))) w8 := Kw.lv_cell 22 0 (.int .u64 (u (putI (putI 0#64 0 7 c) 12 3 f))) (M8.get 1 rfl) rfl _ Try.underlying22 rfl
  have hr10 : (loadVar 22 ⟨B3, 0, none⟩).run Try.prog w8 = .ok (.int .u64 (u (putI (putI 0#64 0 7 18446744073709551615#64) 12 3 18446744073709551615#64))) w8 := Kw.lv_cell 22 0 (.int .u64 (u (putI (putI 0#64 0 7 18446744073709551615#64) 12 3 18446744073709551615#64))) (M8.get 0 rfl) rfl _ Try.underlying22 rfl
  exact KS.r3 Try.results44 hr9 hr10 ⟨rfl, M8.drop⟩
set_option maxRecDepth 100000 in
theorem fixed_B (nm : ByteArray) (c f o : BitVec 64) (W : World) : Calls Try.prog 44 #[.agg #[.string nm, .int .u8 66, .int .u64 (u c), .int .u64 (u f), .int .u64 (u o)]] W fun e W' => e = .returned (.tuple #[.int .u64 (u (putI (putI 0#64 0 7 c) 12 3 f)), .int .u64 (u (putI (putI 0#64 0 7 18446744073709551615#64) 12 3 18446744073709551615#64))]) ∧ Kw.Mem [] W W' [] := by
  refine calls_of_wp Try.func44 rfl ?_
  have M0 : Kw.Mem [] W W [] := Kw.Mem.start _ _
  refine Kw.to (b := ⟨#[.agg #[.string nm, .int .u8 66, .int .u64 (u c), .int .u64 (u f), .int .u64 (u o)], undef, undef, undef, undef, undef, undef, undef, undef, undef, undef, undef, undef, undef, undef, undef, undef, undef, undef, undef, undef, undef, undef, undef, undef, undef, undef, undef, undef, undef, undef, undef, undef, undef, undef, undef, undef, undef, undef, undef, undef, undef, undef, undef, undef, undef, undef, undef, undef, undef, undef, undef, undef, undef, undef], []⟩) (by kernel_rfl) ?_
  refine wp_seq (Kw.region ?_)
  refine Kw.alloc #[.string nm, .int .u8 66, .int .u64 (u c), .int .u64 (u f), .int .u64 (u o)] 59 M0 (by kernel_rfl) (by kernel_rfl) fun w1 B1 M1 => ?_
  refine Kw.alloc #[.int .u64 0] 22 M1 (by kernel_rfl) (by kernel_rfl) fun w2 B2 M2 => ?_
  refine Kw.alloc #[.int .u64 0] 22 M2 (by kernel_rfl) (by kernel_rfl) fun w3 B3 M3 => ?_
  refine KS.n4 ?_
  refine KS.p (.func (.func 60) #[] #[.pointer (some ⟨B2, 0, none⟩), .pointer (some ⟨B3, 0, none⟩)]) ?_
  refine KS.p (.func (.func 60) #[] #[.pointer (some ⟨B2, 0, none⟩), .pointer (some ⟨B3, 0, none⟩)]) ?_
  refine KS.n4 ?_
  refine KS.p (.func (.func 60) #[] #[.pointer (some ⟨B2, 0, none⟩), .pointer (some ⟨B3, 0, none⟩)]) ?_
  refine KS.p (.pointer (some ⟨B1, 2, none⟩)) ?_
  refine KS.l 22 B1 2 (.int .u64 (u c)) M3 2 Try.underlying22 ?_
  refine Held.callC2 (.tuple #[]) 60 #[.int .i64 0, .int .i64 7, .int .u64 (u c), .pointer (some ⟨B2, 0, none⟩), .pointer (some ⟨B3, 0, none⟩)] 1 0 #[.int .u64 (u (putI 0#64 0 7 c))] #[.int .u64 (u (putI 0#64 0 7 18446744073709551615#64))] M3 (by decide) rfl rfl (by kernel_rfl) (by kernel_rfl) (fun h1 h2 hne => fixed1 0#64 0#64 c 0 7 B2 B3 w3 h1 h2 hne) fun w4 M4 => ?_
  refine KS.n5 ?_
  refine KS.p (.pointer (some ⟨B1, 1, none⟩)) ?_
  refine KS.l 5 B1 1 (.int .u8 66) M4 2 Try.underlying5 ?_
  refine Kw.fin (Kw.then_normal (wp_block (wp_seq (wp_seq (Kw.region ?_)))))
  refine KS.p (.bool false) ?_
  refine KS.p (.bool false) ?_
  refine KS.n2 ?_
  refine wp_cond_false (by kernel_rfl) ?_
  refine Kw.region ?_
  refine KS.p (.bool false) ?_
  refine KS.p (.bool false) ?_
  refine KS.n2 ?_
  refine wp_cond_false (by kernel_rfl) ?_
  refine wp_seq (Kw.region ?_)
  refine KS.p (.bool false) ?_
  refine KS.p (.bool false) ?_
  refine KS.n2 ?_
  refine wp_cond_false (by kernel_rfl) ?_
  refine wp_skip (Kw.block_normal (Kw.then_normal (wp_seq (Kw.region ?_))))
  refine KS.p (.func (.func 60) #[] #[.pointer (some ⟨B2, 0, none⟩), .pointer (some ⟨B3, 0, none⟩)]) ?_
  refine KS.p (.pointer (some ⟨B1, 3, none⟩)) ?_
  refine KS.l 22 B1 3 (.int .u64 (u f)) M4 2 Try.underlying22 ?_
  refine Held.callC2 (.tuple #[]) 60 #[.int .i64 12, .int .i64 3, .int .u64 (u f), .pointer (some ⟨B2, 0, none⟩), .pointer (some ⟨B3, 0, none⟩)] 1 0 #[.int .u64 (u (putI (putI 0#64 0 7 c) 12 3 f))] #[.int .u64 (u (putI (putI 0#64 0 7 18446744073709551615#64) 12 3 18446744073709551615#64))] M4 (by decide) rfl rfl (by kernel_rfl) (by kernel_rfl) (fun h1 h2 hne => fixed1 (putI 0#64 0 7 c) (putI 0#64 0 7 18446744073709551615#64) f 12 3 B2 B3 w4 h1 h2 hne) fun w5 M5 => ?_
  refine KS.n5 ?_
  refine KS.p (.pointer (some ⟨B1, 1, none⟩)) ?_
  refine KS.l 5 B1 1 (.int .u8 66) M5 2 Try.underlying5 ?_
  refine Kw.fin (Kw.then_normal (wp_block (wp_seq (Kw.region ?_))))
  refine KS.p (.bool false) ?_
  refine KS.p (.bool false) ?_
  refine KS.n2 ?_
  refine wp_cond_false (by kernel_rfl) ?_
  refine wp_seq (Kw.region ?_)
  refine KS.p (.bool false) ?_
  refine KS.p (.bool false) ?_
  refine KS.n2 ?_
  refine wp_cond_false (by kernel_rfl) ?_
  refine wp_seq (Kw.region ?_)
  refine KS.p (.bool false) ?_
  refine KS.p (.bool false) ?_
  refine KS.n2 ?_
  refine wp_cond_false (by kernel_rfl) ?_
  refine wp_skip (Kw.block_normal (Kw.then_normal (wp_seq ?_)))
  refine Held.start (fun w => Kw.Mem [] W w [(B3, #[.int .u64 (u (putI (putI 0#64 0 7 18446744073709551615#64) 12 3 18446744073709551615#64))], 22), (B2, #[.int .u64 (u (putI (putI 0#64 0 7 c) 12 3 f))], 22), (B1, #[.string nm, .int .u8 66, .int .u64 (u c), .int .u64 (u f), .int .u64 (u o)], 59)]) (by kernel_rfl) ?_
  have M6 := M5.drew
  have MS := M6
  refine Held.take 0 (Canon.ldS 22 (.pointer (some ⟨B2, 0, none⟩))) (.int .u64 (u (putI (putI 0#64 0 7 c) 12 3 f))) rfl (by decide +kernel) (by decide +kernel) (by decide +kernel) (by kernel_rfl) (by kernel_rfl) (fun w hw => Kw.ld_cell 22 0 (.int .u64 (u (putI (putI 0#64 0 7 c) 12 3 f))) (hw.get 1 rfl) (by kernel_rfl) _ Try.underlying22 rfl) MS ?_
  refine Held.take 1 (Canon.ldS 22 (.pointer (some ⟨B3, 0, none⟩))) (.int .u64 (u (putI (putI 0#64 0 7 18446744073709551615#64) 12 3 18446744073709551615#64))) rfl (by decide +kernel) (by decide +kernel) (by decide +kernel) (by kernel_rfl) (by kernel_rfl) (fun w hw => Kw.ld_cell 22 0 (.int .u64 (u (putI (putI 0#64 0 7 18446744073709551615#64) 12 3 18446744073709551615#64))) (hw.get 0 rfl) (by kernel_rfl) _ Try.underlying22 rfl) MS ?_
  refine Held.oneStoreCell 2 1 22 0 (.int .u64 (u (putI (putI 0#64 0 7 c) 12 3 f))) #[.int .u64 (u (putI (putI 0#64 0 7 c) 12 3 f))] M6 rfl rfl (by decide +kernel) (by kernel_rfl) (by kernel_rfl) (show 0 < 1 from by decide) (by kernel_rfl) rfl (by kernel_rfl) (by kernel_rfl) fun w7 M7 => ⟨M7, ?_⟩
  refine Held.oneStoreCell 3 0 22 0 (.int .u64 (u (putI (putI 0#64 0 7 18446744073709551615#64) 12 3 18446744073709551615#64))) #[.int .u64 (u (putI (putI 0#64 0 7 18446744073709551615#64) 12 3 18446744073709551615#64))] M7 rfl rfl (by decide +kernel) (by kernel_rfl) (by kernel_rfl) (show 0 < 1 from by decide) (by kernel_rfl) rfl (by kernel_rfl) (by kernel_rfl) fun w8 M8 => ⟨M8, ?_⟩
  refine Held.done (by decide +kernel) ?_
  refine Kw.then_normal (wp_ret ?_)
  have hr9 : (loadVar 22 ⟨B2, 0, none⟩).run Try.prog w8 = .ok (.int .u64 (u (putI (putI 0#64 0 7 c) 12 3 f))) w8 := Kw.lv_cell 22 0 (.int .u64 (u (putI (putI 0#64 0 7 c) 12 3 f))) (M8.get 1 rfl) rfl _ Try.underlying22 rfl
  have hr10 : (loadVar 22 ⟨B3, 0, none⟩).run Try.prog w8 = .ok (.int .u64 (u (putI (putI 0#64 0 7 18446744073709551615#64) 12 3 18446744073709551615#64))) w8 := Kw.lv_cell 22 0 (.int .u64 (u (putI (putI 0#64 0 7 18446744073709551615#64) 12 3 18446744073709551615#64))) (M8.get 0 rfl) rfl _ Try.underlying22 rfl
  exact KS.r3 Try.results44 hr9 hr10 ⟨rfl, M8.drop⟩
set_option maxRecDepth 100000 in
theorem fixed_U (nm : ByteArray) (c f o : BitVec 64) (W : World) : Calls Try.prog 44 #[.agg #[.string nm, .int .u8 85, .int .u64 (u c), .int .u64 (u f), .int .u64 (u o)]] W fun e W' => e = .returned (.tuple #[.int .u64 (u (putI 0#64 0 7 c)), .int .u64 (u (putI 0#64 0 7 18446744073709551615#64))]) ∧ Kw.Mem [] W W' [] := by
  refine calls_of_wp Try.func44 rfl ?_
  have M0 : Kw.Mem [] W W [] := Kw.Mem.start _ _
  refine Kw.to (b := ⟨#[.agg #[.string nm, .int .u8 85, .int .u64 (u c), .int .u64 (u f), .int .u64 (u o)], undef, undef, undef, undef, undef, undef, undef, undef, undef, undef, undef, undef, undef, undef, undef, undef, undef, undef, undef, undef, undef, undef, undef, undef, undef, undef, undef, undef, undef, undef, undef, undef, undef, undef, undef, undef, undef, undef, undef, undef, undef, undef, undef, undef, undef, undef, undef, undef, undef, undef, undef, undef, undef, undef], []⟩) (by kernel_rfl) ?_
  refine wp_seq (Kw.region ?_)
  refine Kw.alloc #[.string nm, .int .u8 85, .int .u64 (u c), .int .u64 (u f), .int .u64 (u o)] 59 M0 (by kernel_rfl) (by kernel_rfl) fun w1 B1 M1 => ?_
  refine Kw.alloc #[.int .u64 0] 22 M1 (by kernel_rfl) (by kernel_rfl) fun w2 B2 M2 => ?_
  refine Kw.alloc #[.int .u64 0] 22 M2 (by kernel_rfl) (by kernel_rfl) fun w3 B3 M3 => ?_
  refine KS.n4 ?_
  refine KS.p (.func (.func 60) #[] #[.pointer (some ⟨B2, 0, none⟩), .pointer (some ⟨B3, 0, none⟩)]) ?_
  refine KS.p (.func (.func 60) #[] #[.pointer (some ⟨B2, 0, none⟩), .pointer (some ⟨B3, 0, none⟩)]) ?_
  refine KS.n4 ?_
  refine KS.p (.func (.func 60) #[] #[.pointer (some ⟨B2, 0, none⟩), .pointer (some ⟨B3, 0, none⟩)]) ?_
  refine KS.p (.pointer (some ⟨B1, 2, none⟩)) ?_
  refine KS.l 22 B1 2 (.int .u64 (u c)) M3 2 Try.underlying22 ?_
  refine Held.callC2 (.tuple #[]) 60 #[.int .i64 0, .int .i64 7, .int .u64 (u c), .pointer (some ⟨B2, 0, none⟩), .pointer (some ⟨B3, 0, none⟩)] 1 0 #[.int .u64 (u (putI 0#64 0 7 c))] #[.int .u64 (u (putI 0#64 0 7 18446744073709551615#64))] M3 (by decide) rfl rfl (by kernel_rfl) (by kernel_rfl) (fun h1 h2 hne => fixed1 0#64 0#64 c 0 7 B2 B3 w3 h1 h2 hne) fun w4 M4 => ?_
  refine KS.n5 ?_
  refine KS.p (.pointer (some ⟨B1, 1, none⟩)) ?_
  refine KS.l 5 B1 1 (.int .u8 85) M4 2 Try.underlying5 ?_
  refine Kw.fin (Kw.then_normal (wp_block (wp_seq (wp_seq (Kw.region ?_)))))
  refine KS.p (.bool true) ?_
  refine KS.p (.bool true) ?_
  refine KS.n2 ?_
  refine wp_cond_true (by kernel_rfl) ?_
  refine wp_skip (Kw.then_normal ?_)
  refine wp_cond_true (by kernel_rfl) ?_
  refine wp_seq ?_
  refine Held.start (fun w => Kw.Mem [] W w [(B3, #[.int .u64 (u (putI 0#64 0 7 18446744073709551615#64))], 22), (B2, #[.int .u64 (u (putI 0#64 0 7 c))], 22), (B1, #[.string nm, .int .u8 85, .int .u64 (u c), .int .u64 (u f), .int .u64 (u o)], 59)]) (by kernel_rfl) ?_
  have M5 := M4.drew
  have MS := M5
  refine Held.take 0 (Canon.ldS 22 (.pointer (some ⟨B2, 0, none⟩))) (.int .u64 (u (putI 0#64 0 7 c))) rfl (by decide +kernel) (by decide +kernel) (by decide +kernel) (by kernel_rfl) (by kernel_rfl) (fun w hw => Kw.ld_cell 22 0 (.int .u64 (u (putI 0#64 0 7 c))) (hw.get 1 rfl) (by kernel_rfl) _ Try.underlying22 rfl) MS ?_
  refine Held.take 1 (Canon.ldS 22 (.pointer (some ⟨B3, 0, none⟩))) (.int .u64 (u (putI 0#64 0 7 18446744073709551615#64))) rfl (by decide +kernel) (by decide +kernel) (by decide +kernel) (by kernel_rfl) (by kernel_rfl) (fun w hw => Kw.ld_cell 22 0 (.int .u64 (u (putI 0#64 0 7 18446744073709551615#64))) (hw.get 0 rfl) (by kernel_rfl) _ Try.underlying22 rfl) MS ?_
  refine Held.oneStoreCell 2 1 22 0 (.int .u64 (u (putI 0#64 0 7 c))) #[.int .u64 (u (putI 0#64 0 7 c))] M5 rfl rfl (by decide +kernel) (by kernel_rfl) (by kernel_rfl) (show 0 < 1 from by decide) (by kernel_rfl) rfl (by kernel_rfl) (by kernel_rfl) fun w6 M6 => ⟨M6, ?_⟩
  refine Held.oneStoreCell 3 0 22 0 (.int .u64 (u (putI 0#64 0 7 18446744073709551615#64))) #[.int .u64 (u (putI 0#64 0 7 18446744073709551615#64))] M6 rfl rfl (by decide +kernel) (by kernel_rfl) (by kernel_rfl) (show 0 < 1 from by decide) (by kernel_rfl) rfl (by kernel_rfl) (by kernel_rfl) fun w7 M7 => ⟨M7, ?_⟩
  refine Held.done (by decide +kernel) ?_
  refine Kw.then_normal (wp_ret (Kw.block_ret (Kw.then_ret ?_)))
  have hr8 : (loadVar 22 ⟨B2, 0, none⟩).run Try.prog w7 = .ok (.int .u64 (u (putI 0#64 0 7 c))) w7 := Kw.lv_cell 22 0 (.int .u64 (u (putI 0#64 0 7 c))) (M7.get 1 rfl) rfl _ Try.underlying22 rfl
  have hr9 : (loadVar 22 ⟨B3, 0, none⟩).run Try.prog w7 = .ok (.int .u64 (u (putI 0#64 0 7 18446744073709551615#64))) w7 := Kw.lv_cell 22 0 (.int .u64 (u (putI 0#64 0 7 18446744073709551615#64))) (M7.get 0 rfl) rfl _ Try.underlying22 rfl
  exact KS.r3 Try.results44 hr8 hr9 ⟨rfl, M7.drop⟩
set_option maxRecDepth 100000 in
theorem fixed_J (nm : ByteArray) (c f o : BitVec 64) (W : World) : Calls Try.prog 44 #[.agg #[.string nm, .int .u8 74, .int .u64 (u c), .int .u64 (u f), .int .u64 (u o)]] W fun e W' => e = .returned (.tuple #[.int .u64 (u (putI 0#64 0 7 c)), .int .u64 (u (putI 0#64 0 7 18446744073709551615#64))]) ∧ Kw.Mem [] W W' [] := by
  refine calls_of_wp Try.func44 rfl ?_
  have M0 : Kw.Mem [] W W [] := Kw.Mem.start _ _
  refine Kw.to (b := ⟨#[.agg #[.string nm, .int .u8 74, .int .u64 (u c), .int .u64 (u f), .int .u64 (u o)], undef, undef, undef, undef, undef, undef, undef, undef, undef, undef, undef, undef, undef, undef, undef, undef, undef, undef, undef, undef, undef, undef, undef, undef, undef, undef, undef, undef, undef, undef, undef, undef, undef, undef, undef, undef, undef, undef, undef, undef, undef, undef, undef, undef, undef, undef, undef, undef, undef, undef, undef, undef, undef, undef], []⟩) (by kernel_rfl) ?_
  refine wp_seq (Kw.region ?_)
  refine Kw.alloc #[.string nm, .int .u8 74, .int .u64 (u c), .int .u64 (u f), .int .u64 (u o)] 59 M0 (by kernel_rfl) (by kernel_rfl) fun w1 B1 M1 => ?_
  refine Kw.alloc #[.int .u64 0] 22 M1 (by kernel_rfl) (by kernel_rfl) fun w2 B2 M2 => ?_
  refine Kw.alloc #[.int .u64 0] 22 M2 (by kernel_rfl) (by kernel_rfl) fun w3 B3 M3 => ?_
  refine KS.n4 ?_
  refine KS.p (.func (.func 60) #[] #[.pointer (some ⟨B2, 0, none⟩), .pointer (some ⟨B3, 0, none⟩)]) ?_
  refine KS.p (.func (.func 60) #[] #[.pointer (some ⟨B2, 0, none⟩), .pointer (some ⟨B3, 0, none⟩)]) ?_
  refine KS.n4 ?_
  refine KS.p (.func (.func 60) #[] #[.pointer (some ⟨B2, 0, none⟩), .pointer (some ⟨B3, 0, none⟩)]) ?_
  refine KS.p (.pointer (some ⟨B1, 2, none⟩)) ?_
  refine KS.l 22 B1 2 (.int .u64 (u c)) M3 2 Try.underlying22 ?_
  refine Held.callC2 (.tuple #[]) 60 #[.int .i64 0, .int .i64 7, .int .u64 (u c), .pointer (some ⟨B2, 0, none⟩), .pointer (some ⟨B3, 0, none⟩)] 1 0 #[.int .u64 (u (putI 0#64 0 7 c))] #[.int .u64 (u (putI 0#64 0 7 18446744073709551615#64))] M3 (by decide) rfl rfl (by kernel_rfl) (by kernel_rfl) (fun h1 h2 hne => fixed1 0#64 0#64 c 0 7 B2 B3 w3 h1 h2 hne) fun w4 M4 => ?_
  refine KS.n5 ?_
  refine KS.p (.pointer (some ⟨B1, 1, none⟩)) ?_
  refine KS.l 5 B1 1 (.int .u8 74) M4 2 Try.underlying5 ?_
  refine Kw.fin (Kw.then_normal (wp_block (wp_seq (wp_seq (Kw.region ?_)))))
  refine KS.p (.bool false) ?_
  refine KS.p (.bool false) ?_
  refine KS.n2 ?_
  refine wp_cond_false (by kernel_rfl) ?_
  refine Kw.region ?_
  refine KS.p (.bool true) ?_
  refine KS.p (.bool true) ?_
  refine KS.n2 ?_
  refine wp_cond_true (by kernel_rfl) ?_
  refine wp_seq ?_
  refine Held.start (fun w => Kw.Mem [] W w [(B3, #[.int .u64 (u (putI 0#64 0 7 18446744073709551615#64))], 22), (B2, #[.int .u64 (u (putI 0#64 0 7 c))], 22), (B1, #[.string nm, .int .u8 74, .int .u64 (u c), .int .u64 (u f), .int .u64 (u o)], 59)]) (by kernel_rfl) ?_
  have M5 := M4.drew
  have MS := M5
  refine Held.take 0 (Canon.ldS 22 (.pointer (some ⟨B2, 0, none⟩))) (.int .u64 (u (putI 0#64 0 7 c))) rfl (by decide +kernel) (by decide +kernel) (by decide +kernel) (by kernel_rfl) (by kernel_rfl) (fun w hw => Kw.ld_cell 22 0 (.int .u64 (u (putI 0#64 0 7 c))) (hw.get 1 rfl) (by kernel_rfl) _ Try.underlying22 rfl) MS ?_
  refine Held.take 1 (Canon.ldS 22 (.pointer (some ⟨B3, 0, none⟩))) (.int .u64 (u (putI 0#64 0 7 18446744073709551615#64))) rfl (by decide +kernel) (by decide +kernel) (by decide +kernel) (by kernel_rfl) (by kernel_rfl) (fun w hw => Kw.ld_cell 22 0 (.int .u64 (u (putI 0#64 0 7 18446744073709551615#64))) (hw.get 0 rfl) (by kernel_rfl) _ Try.underlying22 rfl) MS ?_
  refine Held.oneStoreCell 2 1 22 0 (.int .u64 (u (putI 0#64 0 7 c))) #[.int .u64 (u (putI 0#64 0 7 c))] M5 rfl rfl (by decide +kernel) (by kernel_rfl) (by kernel_rfl) (show 0 < 1 from by decide) (by kernel_rfl) rfl (by kernel_rfl) (by kernel_rfl) fun w6 M6 => ⟨M6, ?_⟩
  refine Held.oneStoreCell 3 0 22 0 (.int .u64 (u (putI 0#64 0 7 18446744073709551615#64))) #[.int .u64 (u (putI 0#64 0 7 18446744073709551615#64))] M6 rfl rfl (by decide +kernel) (by kernel_rfl) (by kernel_rfl) (show 0 < 1 from by decide) (by kernel_rfl) rfl (by kernel_rfl) (by kernel_rfl) fun w7 M7 => ⟨M7, ?_⟩
  refine Held.done (by decide +kernel) ?_
  refine Kw.then_normal (wp_ret (Kw.block_ret (Kw.then_ret ?_)))
  have hr8 : (loadVar 22 ⟨B2, 0, none⟩).run Try.prog w7 = .ok (.int .u64 (u (putI 0#64 0 7 c))) w7 := Kw.lv_cell 22 0 (.int .u64 (u (putI 0#64 0 7 c))) (M7.get 1 rfl) rfl _ Try.underlying22 rfl
  have hr9 : (loadVar 22 ⟨B3, 0, none⟩).run Try.prog w7 = .ok (.int .u64 (u (putI 0#64 0 7 18446744073709551615#64))) w7 := Kw.lv_cell 22 0 (.int .u64 (u (putI 0#64 0 7 18446744073709551615#64))) (M7.get 0 rfl) rfl _ Try.underlying22 rfl
  exact KS.r3 Try.results44 hr8 hr9 ⟨rfl, M7.drop⟩
set_option maxRecDepth 100000 in
theorem fixed_R (nm : ByteArray) (c f o : BitVec 64) (W : World) : Calls Try.prog 44 #[.agg #[.string nm, .int .u8 82, .int .u64 (u c), .int .u64 (u f), .int .u64 (u o)]] W fun e W' => e = .returned (.tuple #[.int .u64 (u (putI (putI (putI 0#64 0 7 c) 12 3 f) 25 7 o)), .int .u64 (u (putI (putI (putI 0#64 0 7 18446744073709551615#64) 12 3 18446744073709551615#64) 25 7 18446744073709551615#64))]) ∧ Kw.Mem [] W W' [] := by
  refine calls_of_wp Try.func44 rfl ?_
  have M0 : Kw.Mem [] W W [] := Kw.Mem.start _ _
  refine Kw.to (b := ⟨#[.agg #[.string nm, .int .u8 82, .int .u64 (u c), .int .u64 (u f), .int .u64 (u o)], undef, undef, undef, undef, undef, undef, undef, undef, undef, undef, undef, undef, undef, undef, undef, undef, undef, undef, undef, undef, undef, undef, undef, undef, undef, undef, undef, undef, undef, undef, undef, undef, undef, undef, undef, undef, undef, undef, undef, undef, undef, undef, undef, undef, undef, undef, undef, undef, undef, undef, undef, undef, undef, undef], []⟩) (by kernel_rfl) ?_
  refine wp_seq (Kw.region ?_)
  refine Kw.alloc #[.string nm, .int .u8 82, .int .u64 (u c), .int .u64 (u f), .int .u64 (u o)] 59 M0 (by kernel_rfl) (by kernel_rfl) fun w1 B1 M1 => ?_
  refine Kw.alloc #[.int .u64 0] 22 M1 (by kernel_rfl) (by kernel_rfl) fun w2 B2 M2 => ?_
  refine Kw.alloc #[.int .u64 0] 22 M2 (by kernel_rfl) (by kernel_rfl) fun w3 B3 M3 => ?_
  refine KS.n4 ?_
  refine KS.p (.func (.func 60) #[] #[.pointer (some ⟨B2, 0, none⟩), .pointer (some ⟨B3, 0, none⟩)]) ?_
  refine KS.p (.func (.func 60) #[] #[.pointer (some ⟨B2, 0, none⟩), .pointer (some ⟨B3, 0, none⟩)]) ?_
  refine KS.n4 ?_
  refine KS.p (.func (.func 60) #[] #[.pointer (some ⟨B2, 0, none⟩), .pointer (some ⟨B3, 0, none⟩)]) ?_
  refine KS.p (.pointer (some ⟨B1, 2, none⟩)) ?_
  refine KS.l 22 B1 2 (.int .u64 (u c)) M3 2 Try.underlying22 ?_
  refine Held.callC2 (.tuple #[]) 60 #[.int .i64 0, .int .i64 7, .int .u64 (u c), .pointer (some ⟨B2, 0, none⟩), .pointer (some ⟨B3, 0, none⟩)] 1 0 #[.int .u64 (u (putI 0#64 0 7 c))] #[.int .u64 (u (putI 0#64 0 7 18446744073709551615#64))] M3 (by decide) rfl rfl (by kernel_rfl) (by kernel_rfl) (fun h1 h2 hne => fixed1 0#64 0#64 c 0 7 B2 B3 w3 h1 h2 hne) fun w4 M4 => ?_
  refine KS.n5 ?_
  refine KS.p (.pointer (some ⟨B1, 1, none⟩)) ?_
  refine KS.l 5 B1 1 (.int .u8 82) M4 2 Try.underlying5 ?_
  refine Kw.fin (Kw.then_normal (wp_block (wp_seq (wp_seq (Kw.region ?_)))))
  refine KS.p (.bool false) ?_
  refine KS.p (.bool false) ?_
  refine KS.n2 ?_
  refine wp_cond_false (by kernel_rfl) ?_
  refine Kw.region ?_
  refine KS.p (.bool false) ?_
  refine KS.p (.bool false) ?_
  refine KS.n2 ?_
  refine wp_cond_false (by kernel_rfl) ?_
  refine wp_seq (Kw.region ?_)
  refine KS.p (.bool false) ?_
  refine KS.p (.bool false) ?_
  refine KS.n2 ?_
  refine wp_cond_false (by kernel_rfl) ?_
  refine wp_skip (Kw.block_normal (Kw.then_normal (wp_seq (Kw.region ?_))))
  refine KS.p (.func (.func 60) #[] #[.pointer (some ⟨B2, 0, none⟩), .pointer (some ⟨B3, 0, none⟩)]) ?_
  refine KS.p (.pointer (some ⟨B1, 3, none⟩)) ?_
  refine KS.l 22 B1 3 (.int .u64 (u f)) M4 2 Try.underlying22 ?_
  refine Held.callC2 (.tuple #[]) 60 #[.int .i64 12, .int .i64 3, .int .u64 (u f), .pointer (some ⟨B2, 0, none⟩), .pointer (some ⟨B3, 0, none⟩)] 1 0 #[.int .u64 (u (putI (putI 0#64 0 7 c) 12 3 f))] #[.int .u64 (u (putI (putI 0#64 0 7 18446744073709551615#64) 12 3 18446744073709551615#64))] M4 (by decide) rfl rfl (by kernel_rfl) (by kernel_rfl) (fun h1 h2 hne => fixed1 (putI 0#64 0 7 c) (putI 0#64 0 7 18446744073709551615#64) f 12 3 B2 B3 w4 h1 h2 hne) fun w5 M5 => ?_
  refine KS.n5 ?_
  refine KS.p (.pointer (some ⟨B1, 1, none⟩)) ?_
  refine KS.l 5 B1 1 (.int .u8 82) M5 2 Try.underlying5 ?_
  refine Kw.fin (Kw.then_normal (wp_block (wp_seq (Kw.region ?_))))
  refine KS.p (.bool true) ?_
  refine KS.p (.bool true) ?_
  refine KS.n2 ?_
  refine wp_cond_true (by kernel_rfl) ?_
  refine Kw.region ?_
  refine KS.p (.func (.func 60) #[] #[.pointer (some ⟨B2, 0, none⟩), .pointer (some ⟨B3, 0, none⟩)]) ?_
  refine KS.p (.pointer (some ⟨B1, 4, none⟩)) ?_
  refine KS.l 22 B1 4 (.int .u64 (u o)) M5 2 Try.underlying22 ?_
  refine Held.callC2 (.tuple #[]) 60 #[.int .i64 25, .int .i64 7, .int .u64 (u o), .pointer (some ⟨B2, 0, none⟩), .pointer (some ⟨B3, 0, none⟩)] 1 0 #[.int .u64 (u (putI (putI (putI 0#64 0 7 c) 12 3 f) 25 7 o))] #[.int .u64 (u (putI (putI (putI 0#64 0 7 18446744073709551615#64) 12 3 18446744073709551615#64) 25 7 18446744073709551615#64))] M5 (by decide) rfl rfl (by kernel_rfl) (by kernel_rfl) (fun h1 h2 hne => fixed1 (putI (putI 0#64 0 7 c) 12 3 f) (putI (putI 0#64 0 7 18446744073709551615#64) 12 3 18446744073709551615#64) o 25 7 B2 B3 w5 h1 h2 hne) fun w6 M6 => ?_
  refine Kw.fin (Kw.block_normal (Kw.then_normal (wp_seq ?_)))
  refine Held.start (fun w => Kw.Mem [] W w [(B3, #[.int .u64 (u (putI (putI (putI 0#64 0 7 18446744073709551615#64) 12 3 18446744073709551615#64) 25 7 18446744073709551615#64))], 22), (B2, #[.int .u64 (u (putI (putI (putI 0#64 0 7 c) 12 3 f) 25 7 o))], 22), (B1, #[.string nm, .int .u8 82, .int .u64 (u c), .int .u64 (u f), .int .u64 (u o)], 59)]) (by kernel_rfl) ?_
  have M7 := M6.drew
  have MS := M7
  refine Held.take 0 (Canon.ldS 22 (.pointer (some ⟨B2, 0, none⟩))) (.int .u64 (u (putI (putI (putI 0#64 0 7 c) 12 3 f) 25 7 o))) rfl (by decide +kernel) (by decide +kernel) (by decide +kernel) (by kernel_rfl) (by kernel_rfl) (fun w hw => Kw.ld_cell 22 0 (.int .u64 (u (putI (putI (putI 0#64 0 7 c) 12 3 f) 25 7 o))) (hw.get 1 rfl) (by kernel_rfl) _ Try.underlying22 rfl) MS ?_
  refine Held.take 1 (Canon.ldS 22 (.pointer (some ⟨B3, 0, none⟩))) (.int .u64 (u (putI (putI (putI 0#64 0 7 18446744073709551615#64) 12 3 18446744073709551615#64) 25 7 18446744073709551615#64))) rfl (by decide +kernel) (by decide +kernel) (by decide +kernel) (by kernel_rfl) (by kernel_rfl) (fun w hw => Kw.ld_cell 22 0 (.int .u64 (u (putI (putI (putI 0#64 0 7 18446744073709551615#64) 12 3 18446744073709551615#64) 25 7 18446744073709551615#64))) (hw.get 0 rfl) (by kernel_rfl) _ Try.underlying22 rfl) MS ?_
  refine Held.oneStoreCell 2 1 22 0 (.int .u64 (u (putI (putI (putI 0#64 0 7 c) 12 3 f) 25 7 o))) #[.int .u64 (u (putI (putI (putI 0#64 0 7 c) 12 3 f) 25 7 o))] M7 rfl rfl (by decide +kernel) (by kernel_rfl) (by kernel_rfl) (show 0 < 1 from by decide) (by kernel_rfl) rfl (by kernel_rfl) (by kernel_rfl) fun w8 M8 => ⟨M8, ?_⟩
  refine Held.oneStoreCell 3 0 22 0 (.int .u64 (u (putI (putI (putI 0#64 0 7 18446744073709551615#64) 12 3 18446744073709551615#64) 25 7 18446744073709551615#64))) #[.int .u64 (u (putI (putI (putI 0#64 0 7 18446744073709551615#64) 12 3 18446744073709551615#64) 25 7 18446744073709551615#64))] M8 rfl rfl (by decide +kernel) (by kernel_rfl) (by kernel_rfl) (show 0 < 1 from by decide) (by kernel_rfl) rfl (by kernel_rfl) (by kernel_rfl) fun w9 M9 => ⟨M9, ?_⟩
  refine Held.done (by decide +kernel) ?_
  refine Kw.then_normal (wp_ret ?_)
  have hr10 : (loadVar 22 ⟨B2, 0, none⟩).run Try.prog w9 = .ok (.int .u64 (u (putI (putI (putI 0#64 0 7 c) 12 3 f) 25 7 o))) w9 := Kw.lv_cell 22 0 (.int .u64 (u (putI (putI (putI 0#64 0 7 c) 12 3 f) 25 7 o))) (M9.get 1 rfl) rfl _ Try.underlying22 rfl
  have hr11 : (loadVar 22 ⟨B3, 0, none⟩).run Try.prog w9 = .ok (.int .u64 (u (putI (putI (putI 0#64 0 7 18446744073709551615#64) 12 3 18446744073709551615#64) 25 7 18446744073709551615#64))) w9 := Kw.lv_cell 22 0 (.int .u64 (u (putI (putI (putI 0#64 0 7 18446744073709551615#64) 12 3 18446744073709551615#64) 25 7 18446744073709551615#64))) (M9.get 0 rfl) rfl _ Try.underlying22 rfl
  exact KS.r3 Try.results44 hr10 hr11 ⟨rfl, M9.drop⟩
set_option maxRecDepth 100000 in
theorem fixed_G (nm : ByteArray) (c f o : BitVec 64) (W : World) : Calls Try.prog 44 #[.agg #[.string nm, .int .u8 71, .int .u64 (u c), .int .u64 (u f), .int .u64 (u o)]] W fun e W' => e = .returned (.tuple #[.int .u64 (u (putI (putI (putI (putI 0#64 0 7 c) 12 3 f) 20 5 o) 25 7 127#64)), .int .u64 (u (putI (putI (putI (putI 0#64 0 7 18446744073709551615#64) 12 3 18446744073709551615#64) 20 5 18446744073709551615#64) 25 7 18446744073709551615#64))]) ∧ Kw.Mem [] W W' [] := by
  refine calls_of_wp Try.func44 rfl ?_
  have M0 : Kw.Mem [] W W [] := Kw.Mem.start _ _
  refine Kw.to (b := ⟨#[.agg #[.string nm, .int .u8 71, .int .u64 (u c), .int .u64 (u f), .int .u64 (u o)], undef, undef, undef, undef, undef, undef, undef, undef, undef, undef, undef, undef, undef, undef, undef, undef, undef, undef, undef, undef, undef, undef, undef, undef, undef, undef, undef, undef, undef, undef, undef, undef, undef, undef, undef, undef, undef, undef, undef, undef, undef, undef, undef, undef, undef, undef, undef, undef, undef, undef, undef, undef, undef, undef], []⟩) (by kernel_rfl) ?_
  refine wp_seq (Kw.region ?_)
  refine Kw.alloc #[.string nm, .int .u8 71, .int .u64 (u c), .int .u64 (u f), .int .u64 (u o)] 59 M0 (by kernel_rfl) (by kernel_rfl) fun w1 B1 M1 => ?_
  refine Kw.alloc #[.int .u64 0] 22 M1 (by kernel_rfl) (by kernel_rfl) fun w2 B2 M2 => ?_
  refine Kw.alloc #[.int .u64 0] 22 M2 (by kernel_rfl) (by kernel_rfl) fun w3 B3 M3 => ?_
  refine KS.n4 ?_
  refine KS.p (.func (.func 60) #[] #[.pointer (some ⟨B2, 0, none⟩), .pointer (some ⟨B3, 0, none⟩)]) ?_
  refine KS.p (.func (.func 60) #[] #[.pointer (some ⟨B2, 0, none⟩), .pointer (some ⟨B3, 0, none⟩)]) ?_
  refine KS.n4 ?_
  refine KS.p (.func (.func 60) #[] #[.pointer (some ⟨B2, 0, none⟩), .pointer (some ⟨B3, 0, none⟩)]) ?_
  refine KS.p (.pointer (some ⟨B1, 2, none⟩)) ?_
  refine KS.l 22 B1 2 (.int .u64 (u c)) M3 2 Try.underlying22 ?_
  refine Held.callC2 (.tuple #[]) 60 #[.int .i64 0, .int .i64 7, .int .u64 (u c), .pointer (some ⟨B2, 0, none⟩), .pointer (some ⟨B3, 0, none⟩)] 1 0 #[.int .u64 (u (putI 0#64 0 7 c))] #[.int .u64 (u (putI 0#64 0 7 18446744073709551615#64))] M3 (by decide) rfl rfl (by kernel_rfl) (by kernel_rfl) (fun h1 h2 hne => fixed1 0#64 0#64 c 0 7 B2 B3 w3 h1 h2 hne) fun w4 M4 => ?_
  refine KS.n5 ?_
  refine KS.p (.pointer (some ⟨B1, 1, none⟩)) ?_
  refine KS.l 5 B1 1 (.int .u8 71) M4 2 Try.underlying5 ?_
  refine Kw.fin (Kw.then_normal (wp_block (wp_seq (wp_seq (Kw.region ?_)))))
  refine KS.p (.bool false) ?_
  refine KS.p (.bool false) ?_
  refine KS.n2 ?_
  refine wp_cond_false (by kernel_rfl) ?_
  refine Kw.region ?_
  refine KS.p (.bool false) ?_
  refine KS.p (.bool false) ?_
  refine KS.n2 ?_
  refine wp_cond_false (by kernel_rfl) ?_
  refine wp_seq (Kw.region ?_)
  refine KS.p (.bool false) ?_
  refine KS.p (.bool false) ?_
  refine KS.n2 ?_
  refine wp_cond_false (by kernel_rfl) ?_
  refine wp_skip (Kw.block_normal (Kw.then_normal (wp_seq (Kw.region ?_))))
  refine KS.p (.func (.func 60) #[] #[.pointer (some ⟨B2, 0, none⟩), .pointer (some ⟨B3, 0, none⟩)]) ?_
  refine KS.p (.pointer (some ⟨B1, 3, none⟩)) ?_
  refine KS.l 22 B1 3 (.int .u64 (u f)) M4 2 Try.underlying22 ?_
  refine Held.callC2 (.tuple #[]) 60 #[.int .i64 12, .int .i64 3, .int .u64 (u f), .pointer (some ⟨B2, 0, none⟩), .pointer (some ⟨B3, 0, none⟩)] 1 0 #[.int .u64 (u (putI (putI 0#64 0 7 c) 12 3 f))] #[.int .u64 (u (putI (putI 0#64 0 7 18446744073709551615#64) 12 3 18446744073709551615#64))] M4 (by decide) rfl rfl (by kernel_rfl) (by kernel_rfl) (fun h1 h2 hne => fixed1 (putI 0#64 0 7 c) (putI 0#64 0 7 18446744073709551615#64) f 12 3 B2 B3 w4 h1 h2 hne) fun w5 M5 => ?_
  refine KS.n5 ?_
  refine KS.p (.pointer (some ⟨B1, 1, none⟩)) ?_
  refine KS.l 5 B1 1 (.int .u8 71) M5 2 Try.underlying5 ?_
  refine Kw.fin (Kw.then_normal (wp_block (wp_seq (Kw.region ?_))))
  refine KS.p (.bool false) ?_
  refine KS.p (.bool false) ?_
  refine KS.n2 ?_
  refine wp_cond_false (by kernel_rfl) ?_
  refine wp_seq (Kw.region ?_)
  refine KS.p (.bool true) ?_
  refine KS.p (.bool true) ?_
  refine KS.n2 ?_
  refine wp_cond_true (by kernel_rfl) ?_
  refine wp_seq (Kw.region ?_)
  refine KS.p (.func (.func 60) #[] #[.pointer (some ⟨B2, 0, none⟩), .pointer (some ⟨B3, 0, none⟩)]) ?_
  refine KS.p (.pointer (some ⟨B1, 4, none⟩)) ?_
  refine KS.l 22 B1 4 (.int .u64 (u o)) M5 2 Try.underlying22 ?_
  refine Held.callC2 (.tuple #[]) 60 #[.int .i64 20, .int .i64 5, .int .u64 (u o), .pointer (some ⟨B2, 0, none⟩), .pointer (some ⟨B3, 0, none⟩)] 1 0 #[.int .u64 (u (putI (putI (putI 0#64 0 7 c) 12 3 f) 20 5 o))] #[.int .u64 (u (putI (putI (putI 0#64 0 7 18446744073709551615#64) 12 3 18446744073709551615#64) 20 5 18446744073709551615#64))] M5 (by decide) rfl rfl (by kernel_rfl) (by kernel_rfl) (fun h1 h2 hne => fixed1 (putI (putI 0#64 0 7 c) 12 3 f) (putI (putI 0#64 0 7 18446744073709551615#64) 12 3 18446744073709551615#64) o 20 5 B2 B3 w5 h1 h2 hne) fun w6 M6 => ?_
  refine Kw.fin (Kw.then_normal (Kw.region ?_))
  refine KS.p (.func (.func 60) #[] #[.pointer (some ⟨B2, 0, none⟩), .pointer (some ⟨B3, 0, none⟩)]) ?_
  refine Held.callC2 (.tuple #[]) 60 #[.int .i64 25, .int .i64 7, .int .u64 127, .pointer (some ⟨B2, 0, none⟩), .pointer (some ⟨B3, 0, none⟩)] 1 0 #[.int .u64 (u (putI (putI (putI (putI 0#64 0 7 c) 12 3 f) 20 5 o) 25 7 127#64))] #[.int .u64 (u (putI (putI (putI (putI 0#64 0 7 18446744073709551615#64) 12 3 18446744073709551615#64) 20 5 18446744073709551615#64) 25 7 18446744073709551615#64))] M6 (by decide) rfl rfl (by kernel_rfl) (by kernel_rfl) (fun h1 h2 hne => fixed1 (putI (putI (putI 0#64 0 7 c) 12 3 f) 20 5 o) (putI (putI (putI 0#64 0 7 18446744073709551615#64) 12 3 18446744073709551615#64) 20 5 18446744073709551615#64) 127#64 25 7 B2 B3 w6 h1 h2 hne) fun w7 M7 => ?_
  refine Kw.fin (Kw.block_normal (Kw.then_normal (wp_seq ?_)))
  refine Held.start (fun w => Kw.Mem [] W w [(B3, #[.int .u64 (u (putI (putI (putI (putI 0#64 0 7 18446744073709551615#64) 12 3 18446744073709551615#64) 20 5 18446744073709551615#64) 25 7 18446744073709551615#64))], 22), (B2, #[.int .u64 (u (putI (putI (putI (putI 0#64 0 7 c) 12 3 f) 20 5 o) 25 7 127#64))], 22), (B1, #[.string nm, .int .u8 71, .int .u64 (u c), .int .u64 (u f), .int .u64 (u o)], 59)]) (by kernel_rfl) ?_
  have M8 := M7.drew
  have MS := M8
  refine Held.take 0 (Canon.ldS 22 (.pointer (some ⟨B2, 0, none⟩))) (.int .u64 (u (putI (putI (putI (putI 0#64 0 7 c) 12 3 f) 20 5 o) 25 7 127#64))) rfl (by decide +kernel) (by decide +kernel) (by decide +kernel) (by kernel_rfl) (by kernel_rfl) (fun w hw => Kw.ld_cell 22 0 (.int .u64 (u (putI (putI (putI (putI 0#64 0 7 c) 12 3 f) 20 5 o) 25 7 127#64))) (hw.get 1 rfl) (by kernel_rfl) _ Try.underlying22 rfl) MS ?_
  refine Held.take 1 (Canon.ldS 22 (.pointer (some ⟨B3, 0, none⟩))) (.int .u64 (u (putI (putI (putI (putI 0#64 0 7 18446744073709551615#64) 12 3 18446744073709551615#64) 20 5 18446744073709551615#64) 25 7 18446744073709551615#64))) rfl (by decide +kernel) (by decide +kernel) (by decide +kernel) (by kernel_rfl) (by kernel_rfl) (fun w hw => Kw.ld_cell 22 0 (.int .u64 (u (putI (putI (putI (putI 0#64 0 7 18446744073709551615#64) 12 3 18446744073709551615#64) 20 5 18446744073709551615#64) 25 7 18446744073709551615#64))) (hw.get 0 rfl) (by kernel_rfl) _ Try.underlying22 rfl) MS ?_
  refine Held.oneStoreCell 2 1 22 0 (.int .u64 (u (putI (putI (putI (putI 0#64 0 7 c) 12 3 f) 20 5 o) 25 7 127#64))) #[.int .u64 (u (putI (putI (putI (putI 0#64 0 7 c) 12 3 f) 20 5 o) 25 7 127#64))] M8 rfl rfl (by decide +kernel) (by kernel_rfl) (by kernel_rfl) (show 0 < 1 from by decide) (by kernel_rfl) rfl (by kernel_rfl) (by kernel_rfl) fun w9 M9 => ⟨M9, ?_⟩
  refine Held.oneStoreCell 3 0 22 0 (.int .u64 (u (putI (putI (putI (putI 0#64 0 7 18446744073709551615#64) 12 3 18446744073709551615#64) 20 5 18446744073709551615#64) 25 7 18446744073709551615#64))) #[.int .u64 (u (putI (putI (putI (putI 0#64 0 7 18446744073709551615#64) 12 3 18446744073709551615#64) 20 5 18446744073709551615#64) 25 7 18446744073709551615#64))] M9 rfl rfl (by decide +kernel) (by kernel_rfl) (by kernel_rfl) (show 0 < 1 from by decide) (by kernel_rfl) rfl (by kernel_rfl) (by kernel_rfl) fun w10 M10 => ⟨M10, ?_⟩
  refine Held.done (by decide +kernel) ?_
  refine Kw.then_normal (wp_ret ?_)
  have hr11 : (loadVar 22 ⟨B2, 0, none⟩).run Try.prog w10 = .ok (.int .u64 (u (putI (putI (putI (putI 0#64 0 7 c) 12 3 f) 20 5 o) 25 7 127#64))) w10 := Kw.lv_cell 22 0 (.int .u64 (u (putI (putI (putI (putI 0#64 0 7 c) 12 3 f) 20 5 o) 25 7 127#64))) (M10.get 1 rfl) rfl _ Try.underlying22 rfl
  have hr12 : (loadVar 22 ⟨B3, 0, none⟩).run Try.prog w10 = .ok (.int .u64 (u (putI (putI (putI (putI 0#64 0 7 18446744073709551615#64) 12 3 18446744073709551615#64) 20 5 18446744073709551615#64) 25 7 18446744073709551615#64))) w10 := Kw.lv_cell 22 0 (.int .u64 (u (putI (putI (putI (putI 0#64 0 7 18446744073709551615#64) 12 3 18446744073709551615#64) 20 5 18446744073709551615#64) 25 7 18446744073709551615#64))) (M10.get 0 rfl) rfl _ Try.underlying22 rfl
  exact KS.r3 Try.results44 hr11 hr12 ⟨rfl, M10.drop⟩
set_option maxRecDepth 100000 in
theorem fixed_N (nm : ByteArray) (c f o : BitVec 64) (W : World) : Calls Try.prog 44 #[.agg #[.string nm, .int .u8 78, .int .u64 (u c), .int .u64 (u f), .int .u64 (u o)]] W fun e W' => e = .returned (.tuple #[.int .u64 (u (putI (putI (putI 0#64 0 7 c) 7 13 0#64) 20 12 o)), .int .u64 (u (putI (putI (putI 0#64 0 7 18446744073709551615#64) 7 13 18446744073709551615#64) 20 12 18446744073709551615#64))]) ∧ Kw.Mem [] W W' [] := by
  refine calls_of_wp Try.func44 rfl ?_
  have M0 : Kw.Mem [] W W [] := Kw.Mem.start _ _
  refine Kw.to (b := ⟨#[.agg #[.string nm, .int .u8 78, .int .u64 (u c), .int .u64 (u f), .int .u64 (u o)], undef, undef, undef, undef, undef, undef, undef, undef, undef, undef, undef, undef, undef, undef, undef, undef, undef, undef, undef, undef, undef, undef, undef, undef, undef, undef, undef, undef, undef, undef, undef, undef, undef, undef, undef, undef, undef, undef, undef, undef, undef, undef, undef, undef, undef, undef, undef, undef, undef, undef, undef, undef, undef, undef], []⟩) (by kernel_rfl) ?_
  refine wp_seq (Kw.region ?_)
  refine Kw.alloc #[.string nm, .int .u8 78, .int .u64 (u c), .int .u64 (u f), .int .u64 (u o)] 59 M0 (by kernel_rfl) (by kernel_rfl) fun w1 B1 M1 => ?_
  refine Kw.alloc #[.int .u64 0] 22 M1 (by kernel_rfl) (by kernel_rfl) fun w2 B2 M2 => ?_
  refine Kw.alloc #[.int .u64 0] 22 M2 (by kernel_rfl) (by kernel_rfl) fun w3 B3 M3 => ?_
  refine KS.n4 ?_
  refine KS.p (.func (.func 60) #[] #[.pointer (some ⟨B2, 0, none⟩), .pointer (some ⟨B3, 0, none⟩)]) ?_
  refine KS.p (.func (.func 60) #[] #[.pointer (some ⟨B2, 0, none⟩), .pointer (some ⟨B3, 0, none⟩)]) ?_
  refine KS.n4 ?_
  refine KS.p (.func (.func 60) #[] #[.pointer (some ⟨B2, 0, none⟩), .pointer (some ⟨B3, 0, none⟩)]) ?_
  refine KS.p (.pointer (some ⟨B1, 2, none⟩)) ?_
  refine KS.l 22 B1 2 (.int .u64 (u c)) M3 2 Try.underlying22 ?_
  refine Held.callC2 (.tuple #[]) 60 #[.int .i64 0, .int .i64 7, .int .u64 (u c), .pointer (some ⟨B2, 0, none⟩), .pointer (some ⟨B3, 0, none⟩)] 1 0 #[.int .u64 (u (putI 0#64 0 7 c))] #[.int .u64 (u (putI 0#64 0 7 18446744073709551615#64))] M3 (by decide) rfl rfl (by kernel_rfl) (by kernel_rfl) (fun h1 h2 hne => fixed1 0#64 0#64 c 0 7 B2 B3 w3 h1 h2 hne) fun w4 M4 => ?_
  refine KS.n5 ?_
  refine KS.p (.pointer (some ⟨B1, 1, none⟩)) ?_
  refine KS.l 5 B1 1 (.int .u8 78) M4 2 Try.underlying5 ?_
  refine Kw.fin (Kw.then_normal (wp_block (wp_seq (wp_seq (Kw.region ?_)))))
  refine KS.p (.bool false) ?_
  refine KS.p (.bool false) ?_
  refine KS.n2 ?_
  refine wp_cond_false (by kernel_rfl) ?_
  refine Kw.region ?_
  refine KS.p (.bool false) ?_
  refine KS.p (.bool false) ?_
  refine KS.n2 ?_
  refine wp_cond_false (by kernel_rfl) ?_
  refine wp_seq (Kw.region ?_)
  refine KS.p (.bool true) ?_
  refine KS.p (.bool true) ?_
  refine KS.n2 ?_
  refine wp_cond_true (by kernel_rfl) ?_
  refine wp_seq (Kw.region ?_)
  refine KS.p (.func (.func 60) #[] #[.pointer (some ⟨B2, 0, none⟩), .pointer (some ⟨B3, 0, none⟩)]) ?_
  refine Held.callC2 (.tuple #[]) 60 #[.int .i64 7, .int .i64 13, .int .u64 0, .pointer (some ⟨B2, 0, none⟩), .pointer (some ⟨B3, 0, none⟩)] 1 0 #[.int .u64 (u (putI (putI 0#64 0 7 c) 7 13 0#64))] #[.int .u64 (u (putI (putI 0#64 0 7 18446744073709551615#64) 7 13 18446744073709551615#64))] M4 (by decide) rfl rfl (by kernel_rfl) (by kernel_rfl) (fun h1 h2 hne => fixed1 (putI 0#64 0 7 c) (putI 0#64 0 7 18446744073709551615#64) 0#64 7 13 B2 B3 w4 h1 h2 hne) fun w5 M5 => ?_
  refine KS.n4 ?_
  refine KS.p (.func (.func 60) #[] #[.pointer (some ⟨B2, 0, none⟩), .pointer (some ⟨B3, 0, none⟩)]) ?_
  refine KS.p (.pointer (some ⟨B1, 4, none⟩)) ?_
  refine KS.l 22 B1 4 (.int .u64 (u o)) M5 2 Try.underlying22 ?_
  refine Held.callC2 (.tuple #[]) 60 #[.int .i64 20, .int .i64 12, .int .u64 (u o), .pointer (some ⟨B2, 0, none⟩), .pointer (some ⟨B3, 0, none⟩)] 1 0 #[.int .u64 (u (putI (putI (putI 0#64 0 7 c) 7 13 0#64) 20 12 o))] #[.int .u64 (u (putI (putI (putI 0#64 0 7 18446744073709551615#64) 7 13 18446744073709551615#64) 20 12 18446744073709551615#64))] M5 (by decide) rfl rfl (by kernel_rfl) (by kernel_rfl) (fun h1 h2 hne => fixed1 (putI (putI 0#64 0 7 c) 7 13 0#64) (putI (putI 0#64 0 7 18446744073709551615#64) 7 13 18446744073709551615#64) o 20 12 B2 B3 w5 h1 h2 hne) fun w6 M6 => ?_
  refine Kw.fin (Kw.then_normal (wp_seq ?_))
  refine Held.start (fun w => Kw.Mem [] W w [(B3, #[.int .u64 (u (putI (putI (putI 0#64 0 7 18446744073709551615#64) 7 13 18446744073709551615#64) 20 12 18446744073709551615#64))], 22), (B2, #[.int .u64 (u (putI (putI (putI 0#64 0 7 c) 7 13 0#64) 20 12 o))], 22), (B1, #[.string nm, .int .u8 78, .int .u64 (u c), .int .u64 (u f), .int .u64 (u o)], 59)]) (by kernel_rfl) ?_
  have M7 := M6.drew
  have MS := M7
  refine Held.take 0 (Canon.ldS 22 (.pointer (some ⟨B2, 0, none⟩))) (.int .u64 (u (putI (putI (putI 0#64 0 7 c) 7 13 0#64) 20 12 o))) rfl (by decide +kernel) (by decide +kernel) (by decide +kernel) (by kernel_rfl) (by kernel_rfl) (fun w hw => Kw.ld_cell 22 0 (.int .u64 (u (putI (putI (putI 0#64 0 7 c) 7 13 0#64) 20 12 o))) (hw.get 1 rfl) (by kernel_rfl) _ Try.underlying22 rfl) MS ?_
  refine Held.take 1 (Canon.ldS 22 (.pointer (some ⟨B3, 0, none⟩))) (.int .u64 (u (putI (putI (putI 0#64 0 7 18446744073709551615#64) 7 13 18446744073709551615#64) 20 12 18446744073709551615#64))) rfl (by decide +kernel) (by decide +kernel) (by decide +kernel) (by kernel_rfl) (by kernel_rfl) (fun w hw => Kw.ld_cell 22 0 (.int .u64 (u (putI (putI (putI 0#64 0 7 18446744073709551615#64) 7 13 18446744073709551615#64) 20 12 18446744073709551615#64))) (hw.get 0 rfl) (by kernel_rfl) _ Try.underlying22 rfl) MS ?_
  refine Held.oneStoreCell 2 1 22 0 (.int .u64 (u (putI (putI (putI 0#64 0 7 c) 7 13 0#64) 20 12 o))) #[.int .u64 (u (putI (putI (putI 0#64 0 7 c) 7 13 0#64) 20 12 o))] M7 rfl rfl (by decide +kernel) (by kernel_rfl) (by kernel_rfl) (show 0 < 1 from by decide) (by kernel_rfl) rfl (by kernel_rfl) (by kernel_rfl) fun w8 M8 => ⟨M8, ?_⟩
  refine Held.oneStoreCell 3 0 22 0 (.int .u64 (u (putI (putI (putI 0#64 0 7 18446744073709551615#64) 7 13 18446744073709551615#64) 20 12 18446744073709551615#64))) #[.int .u64 (u (putI (putI (putI 0#64 0 7 18446744073709551615#64) 7 13 18446744073709551615#64) 20 12 18446744073709551615#64))] M8 rfl rfl (by decide +kernel) (by kernel_rfl) (by kernel_rfl) (show 0 < 1 from by decide) (by kernel_rfl) rfl (by kernel_rfl) (by kernel_rfl) fun w9 M9 => ⟨M9, ?_⟩
  refine Held.done (by decide +kernel) ?_
  refine Kw.then_normal (wp_ret (Kw.block_ret (Kw.then_ret ?_)))
  have hr10 : (loadVar 22 ⟨B2, 0, none⟩).run Try.prog w9 = .ok (.int .u64 (u (putI (putI (putI 0#64 0 7 c) 7 13 0#64) 20 12 o))) w9 := Kw.lv_cell 22 0 (.int .u64 (u (putI (putI (putI 0#64 0 7 c) 7 13 0#64) 20 12 o))) (M9.get 1 rfl) rfl _ Try.underlying22 rfl
  have hr11 : (loadVar 22 ⟨B3, 0, none⟩).run Try.prog w9 = .ok (.int .u64 (u (putI (putI (putI 0#64 0 7 18446744073709551615#64) 7 13 18446744073709551615#64) 20 12 18446744073709551615#64))) w9 := Kw.lv_cell 22 0 (.int .u64 (u (putI (putI (putI 0#64 0 7 18446744073709551615#64) 7 13 18446744073709551615#64) 20 12 18446744073709551615#64))) (M9.get 0 rfl) rfl _ Try.underlying22 rfl
  exact KS.r3 Try.results44 hr10 hr11 ⟨rfl, M9.drop⟩
end Go.Proofs.Ytpmpibcfmejbfaa.Inst
