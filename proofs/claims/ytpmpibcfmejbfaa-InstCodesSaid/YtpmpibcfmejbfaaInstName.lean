/- The shape and the name of an instruction's number: what the program's functions answer. No condition. -/
import Derived.Test.YtpmpibcfmejbfaaInstOf
import Derived.Test.YtpmpibcfmejbfaaKS
namespace Go.Proofs.Ytpmpibcfmejbfaa.Inst
open Go Go.RowKit Go.Proofs.Ytpmpibcfmejbfaa.Bits
theorem of_no (z : Int) (h : z < 1 ∨ 69 < z) (W : World) : Calls Try.prog 41 #[.int .i64 z] W fun e W' => e = .returned (.tuple #[.agg #[.string ⟨#[]⟩, .int .u8 0, .int .u64 0, .int .u64 0, .int .u64 0], .bool false]) ∧ Kw.Mem [] W W' [] := by
  rcases h with h | h
  · exact of_low z h W
  · exact of_high z h W
set_option maxRecDepth 100000 in
theorem shape_in (k : Nat) (hk : k < 69) (W : World) : Calls Try.prog 30 #[.int .i64 ((k + 1 : Nat) : Int)] W fun e W' => e = .returned (.int .u8 (sh k)) ∧ Kw.Mem [] W W' [] := by
  refine calls_of_wp Try.func30 rfl ?_
  have M0 : Kw.Mem [] W W [] := Kw.Mem.start _ _
  refine Kw.to (b := ⟨#[.int .i64 ((k + 1 : Nat) : Int), undef, undef, undef, undef, undef, undef, undef, undef, undef, undef, undef], []⟩) (by kernel_rfl) ?_
  refine wp_seq (Kw.region ?_)
  refine KS.p (.int .u8 0) ?_
  refine KS.n4 ?_
  refine KS.p (.int .i64 ((k + 1 : Nat) : Int)) ?_
  refine KS.c (.tuple #[.agg #[.string (nm k), .int .u8 (sh k), .int .u64 (u (cd k)), .int .u64 (u (ff k)), .int .u64 (u (ot k))], .bool true]) 41 #[.int .i64 ((k + 1 : Nat) : Int)] M0 (of_in k hk W) fun w1 M1 => ?_
  refine KS.p (.tuple #[.agg #[.string (nm k), .int .u8 (sh k), .int .u64 (u (cd k)), .int .u64 (u (ff k)), .int .u64 (u (ot k))], .bool true]) ?_
  refine KS.p (.agg #[.string (nm k), .int .u8 (sh k), .int .u64 (u (cd k)), .int .u64 (u (ff k)), .int .u64 (u (ot k))]) ?_
  refine KS.p (.bool true) ?_
  refine Kw.alloc #[.string ⟨#[]⟩, .int .u8 0, .int .u64 0, .int .u64 0, .int .u64 0] 59 M1 (by kernel_rfl) (by kernel_rfl) fun w2 B2 M2 => ?_
  refine Kw.storeAll 0 59 #[.string (nm k), .int .u8 (sh k), .int .u64 (u (cd k)), .int .u64 (u (ff k)), .int .u64 (u (ot k))] M2 rfl (by kernel_rfl) (by kernel_rfl) (by kernel_rfl) (by kernel_rfl) (by kernel_rfl) fun w3 M3 => ?_
  refine KS.p (.bool true) ?_
  refine KS.n4 ?_
  refine KS.p (.pointer (some ⟨B2, 1, none⟩)) ?_
  refine KS.l 5 B2 1 (.int .u8 (sh k)) M3 0 Try.underlying5 ?_
  refine KS.p (.int .u8 (sh k)) ?_
  refine Kw.fin (Kw.then_normal (wp_ret ?_))
  exact bodyPost_ret (v := .int .u8 (sh k)) (by kernel_rfl) (by kernel_rfl) ⟨rfl, M3.drop⟩
set_option maxRecDepth 100000 in
theorem shape_no (z : Int) (h : z < 1 ∨ 69 < z) (W : World) : Calls Try.prog 30 #[.int .i64 z] W fun e W' => e = .returned (.int .u8 0) ∧ Kw.Mem [] W W' [] := by
  refine calls_of_wp Try.func30 rfl ?_
  have M0 : Kw.Mem [] W W [] := Kw.Mem.start _ _
  refine Kw.to (b := ⟨#[.int .i64 z, undef, undef, undef, undef, undef, undef, undef, undef, undef, undef, undef], []⟩) (by kernel_rfl) ?_
  refine wp_seq (Kw.region ?_)
  refine KS.p (.int .u8 0) ?_
  refine KS.n4 ?_
  refine KS.p (.int .i64 z) ?_
  refine KS.c (.tuple #[.agg #[.string ⟨#[]⟩, .int .u8 0, .int .u64 0, .int .u64 0, .int .u64 0], .bool false]) 41 #[.int .i64 z] M0 (of_no z h W) fun w1 M1 => ?_
  refine KS.p (.tuple #[.agg #[.string ⟨#[]⟩, .int .u8 0, .int .u64 0, .int .u64 0, .int .u64 0], .bool false]) ?_
  refine KS.p (.agg #[.string ⟨#[]⟩, .int .u8 0, .int .u64 0, .int .u64 0, .int .u64 0]) ?_
  refine KS.p (.bool false) ?_
  refine Kw.alloc #[.string ⟨#[]⟩, .int .u8 0, .int .u64 0, .int .u64 0, .int .u64 0] 59 M1 (by kernel_rfl) (by kernel_rfl) fun w2 B2 M2 => ?_
  refine Kw.storeAll 0 59 #[.string ⟨#[]⟩, .int .u8 0, .int .u64 0, .int .u64 0, .int .u64 0] M2 rfl (by kernel_rfl) (by kernel_rfl) (by kernel_rfl) (by kernel_rfl) (by kernel_rfl) fun w3 M3 => ?_
  refine KS.p (.bool false) ?_
  refine KS.n4 ?_
  refine KS.p (.pointer (some ⟨B2, 1, none⟩)) ?_
  refine KS.l 5 B2 1 (.int .u8 0) M3 0 Try.underlying5 ?_
  refine KS.p (.int .u8 0) ?_
  refine Kw.fin (Kw.then_normal (wp_ret ?_))
  exact bodyPost_ret (v := .int .u8 0) (by kernel_rfl) (by kernel_rfl) ⟨rfl, M3.drop⟩
set_option maxRecDepth 100000 in
theorem name_in (k : Nat) (hk : k < 69) (W : World) : Calls Try.prog 32 #[.int .i64 ((k + 1 : Nat) : Int)] W fun e W' => e = .returned (.string (nm k)) ∧ Kw.Mem [] W W' [] := by
  refine calls_of_wp Try.func32 rfl ?_
  have M0 : Kw.Mem [] W W [] := Kw.Mem.start _ _
  refine Kw.to (b := ⟨#[.int .i64 ((k + 1 : Nat) : Int), undef, undef, undef, undef, undef, undef, undef, undef, undef, undef, undef], []⟩) (by kernel_rfl) ?_
  refine wp_seq (Kw.region ?_)
  refine KS.p (.string { data := #[] }) ?_
  refine KS.n4 ?_
  refine KS.p (.int .i64 ((k + 1 : Nat) : Int)) ?_
  refine KS.c (.tuple #[.agg #[.string (nm k), .int .u8 (sh k), .int .u64 (u (cd k)), .int .u64 (u (ff k)), .int .u64 (u (ot k))], .bool true]) 41 #[.int .i64 ((k + 1 : Nat) : Int)] M0 (of_in k hk W) fun w1 M1 => ?_
  refine KS.p (.tuple #[.agg #[.string (nm k), .int .u8 (sh k), .int .u64 (u (cd k)), .int .u64 (u (ff k)), .int .u64 (u (ot k))], .bool true]) ?_
  refine KS.p (.agg #[.string (nm k), .int .u8 (sh k), .int .u64 (u (cd k)), .int .u64 (u (ff k)), .int .u64 (u (ot k))]) ?_
  refine KS.p (.bool true) ?_
  refine Kw.alloc #[.string ⟨#[]⟩, .int .u8 0, .int .u64 0, .int .u64 0, .int .u64 0] 59 M1 (by kernel_rfl) (by kernel_rfl) fun w2 B2 M2 => ?_
  refine Kw.storeAll 0 59 #[.string (nm k), .int .u8 (sh k), .int .u64 (u (cd k)), .int .u64 (u (ff k)), .int .u64 (u (ot k))] M2 rfl (by kernel_rfl) (by kernel_rfl) (by kernel_rfl) (by kernel_rfl) (by kernel_rfl) fun w3 M3 => ?_
  refine KS.p (.bool true) ?_
  refine KS.n4 ?_
  refine KS.p (.pointer (some ⟨B2, 0, none⟩)) ?_
  refine KS.l 9 B2 0 (.string (nm k)) M3 0 Try.underlying9 ?_
  refine KS.p (.string (nm k)) ?_
  refine Kw.fin (Kw.then_normal (wp_ret ?_))
  exact bodyPost_ret (v := .string (nm k)) (by kernel_rfl) (by kernel_rfl) ⟨rfl, M3.drop⟩
set_option maxRecDepth 100000 in
theorem name_no (z : Int) (h : z < 1 ∨ 69 < z) (W : World) : Calls Try.prog 32 #[.int .i64 z] W fun e W' => e = .returned (.string ⟨#[]⟩) ∧ Kw.Mem [] W W' [] := by
  refine calls_of_wp Try.func32 rfl ?_
  have M0 : Kw.Mem [] W W [] := Kw.Mem.start _ _
  refine Kw.to (b := ⟨#[.int .i64 z, undef, undef, undef, undef, undef, undef, undef, undef, undef, undef, undef], []⟩) (by kernel_rfl) ?_
  refine wp_seq (Kw.region ?_)
  refine KS.p (.string { data := #[] }) ?_
  refine KS.n4 ?_
  refine KS.p (.int .i64 z) ?_
  refine KS.c (.tuple #[.agg #[.string ⟨#[]⟩, .int .u8 0, .int .u64 0, .int .u64 0, .int .u64 0], .bool false]) 41 #[.int .i64 z] M0 (of_no z h W) fun w1 M1 => ?_
  refine KS.p (.tuple #[.agg #[.string ⟨#[]⟩, .int .u8 0, .int .u64 0, .int .u64 0, .int .u64 0], .bool false]) ?_
  refine KS.p (.agg #[.string ⟨#[]⟩, .int .u8 0, .int .u64 0, .int .u64 0, .int .u64 0]) ?_
  refine KS.p (.bool false) ?_
  refine Kw.alloc #[.string ⟨#[]⟩, .int .u8 0, .int .u64 0, .int .u64 0, .int .u64 0] 59 M1 (by kernel_rfl) (by kernel_rfl) fun w2 B2 M2 => ?_
  refine Kw.storeAll 0 59 #[.string ⟨#[]⟩, .int .u8 0, .int .u64 0, .int .u64 0, .int .u64 0] M2 rfl (by kernel_rfl) (by kernel_rfl) (by kernel_rfl) (by kernel_rfl) (by kernel_rfl) fun w3 M3 => ?_
  refine KS.p (.bool false) ?_
  refine KS.n4 ?_
  refine KS.p (.pointer (some ⟨B2, 0, none⟩)) ?_
  refine KS.l 9 B2 0 (.string ⟨#[]⟩) M3 0 Try.underlying9 ?_
  refine KS.p (.string ⟨#[]⟩) ?_
  refine Kw.fin (Kw.then_normal (wp_ret ?_))
  exact bodyPost_ret (v := .string ⟨#[]⟩) (by kernel_rfl) (by kernel_rfl) ⟨rfl, M3.drop⟩
end Go.Proofs.Ytpmpibcfmejbfaa.Inst
