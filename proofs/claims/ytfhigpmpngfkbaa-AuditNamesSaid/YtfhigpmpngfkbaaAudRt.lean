/- The lines of faults by the reference: what its function answers. At most 100 faults. -/
import Derived.Test.YtfhigpmpngfkbaaAudTx
import Derived.Test.YtfhigpmpngfkbaaSl
namespace Go.Proofs.Ytfhigpmpngfkbaa.Aud
open Go Go.RowKit Go.Proofs.Ytfhigpmpngfkbaa.Bits
attribute [local irreducible] Go.wpList
set_option linter.unusedVariables false
set_option linter.unusedSimpArgs false
open Go.Proofs.Ytfhigpmpngfkbaa.K2 Go.Proofs.Ytfhigpmpngfkbaa.KO
theorem wrapi_neg (x : BitVec 64) : IntKind.i64.wrap (0 - s x) = s (-x) := by
  have h : IntKind.i64.wrap (0 - s x) = wrap64 (0 - s x) := by
    have := s_lt x
    simp only [IntKind.wrap, IntKind.signed, IntKind.bits, wrap64, Bool.true_and]
    simp only [Nat.reduceSub, Int.reducePow]
    by_cases h : ((0 - s x) % 18446744073709551616) ≥ 9223372036854775808
    · simp only [h, decide_true, if_true]; omega
    · simp only [h, decide_false]; first | (simp; done) | omega | (simp; omega)
  rw [h, wrap_i64, Int.zero_sub, BitVec.ofInt_neg, ofInt_s]
set_option maxHeartbeats 2000000 in
theorem rtext_c (b off n cap : Nat) (fs : List F3) (W : World) (hA : At W b off fs) (hn : fs.length = n) (h100 : n ≤ 100) : Calls Try.prog 39 #[.slice (some ⟨b, off, none⟩) n cap] W fun e W' => e = .returned (.string (bs (textL fs))) ∧ K2.Mem [] W W' [] := by
  refine calls_of_wp Try.func39 rfl ?_
  have M0 : K2.Mem [] W W [] := K2.Mem.start _ _
  refine K2.to (b := ⟨#[.slice (some ⟨b, off, none⟩) n cap, undef, undef, undef, undef, undef, undef, undef, undef, undef, undef, undef, undef, undef, undef, undef, undef, undef, undef, undef, undef, undef, undef, undef, undef, undef, undef, undef, undef, undef, undef, undef, undef, undef, undef, undef, undef, undef, undef, undef, undef, undef, undef, undef, undef, undef, undef, undef, undef, undef, undef, undef, undef, undef, undef], []⟩) (by kernel_rfl) ?_
  refine wp_seq ?_
  refine K2.region ?_
  refine K2.pure (.string { data := #[] }) (by kernel_rfl) (by kernel_rfl) ?_
  refine K2.fin ?_
  refine K2.then_normal ?_
  refine wp_seq ?_
  refine K2.region ?_
  refine K2.pure (.string { data := #[] }) (by kernel_rfl) (by kernel_rfl) ?_
  refine K2.fin ?_
  refine K2.then_normal ?_
  refine wp_seq ?_
  refine wp_seq ?_
  refine K2.region ?_
  refine K2.pure (.int .i64 0) (by kernel_rfl) (by kernel_rfl) ?_
  refine K2.fin ?_
  refine K2.then_normal ?_
  refine wp_block ?_
  refine K2.to (b := ⟨#[.slice (some ⟨b, off, none⟩) n cap, undef, .string { data := #[] }, .string { data := #[] }, .int .i64 0, undef, undef, undef, undef, undef, undef, undef, undef, undef, undef, undef, undef, undef, undef, undef, undef, undef, undef, undef, undef, undef, undef, undef, undef, undef, undef, undef, undef, undef, undef, undef, undef, undef, undef, undef, undef, undef, undef, undef, undef, undef, undef, undef, undef, undef, undef, undef, undef, undef, undef], []⟩) (by kernel_rfl) ?_
  refine wp_loop (fun ac wc => ∃ (i : Nat) (acc : List UInt8), (i ≤ n) ∧ (acc = textL (fs.take i)) ∧ (acc.length ≤ 60 * i) ∧ KwJ.Fr [5, 6, 7, 8, 9, 10, 11, 12, 13, 14, 15, 16, 17, 18, 19, 20, 21, 22, 23, 24, 25, 26, 27, 28, 29, 30, 31, 32, 33, 34, 35, 36, 37, 38, 39, 40, 41, 42, 43, 44, 45, 46, 47, 48, 49, 50, 51, 52, 53] (fun y1 => ⟨#[.slice (some ⟨b, off, none⟩) n cap, undef, .string { data := #[] }, .string (bs acc), .int .i64 ((i : Nat) : Int), y1 0, y1 1, y1 2, y1 3, y1 4, y1 5, y1 6, y1 7, y1 8, y1 9, y1 10, y1 11, y1 12, y1 13, y1 14, y1 15, y1 16, y1 17, y1 18, y1 19, y1 20, y1 21, y1 22, y1 23, y1 24, y1 25, y1 26, y1 27, y1 28, y1 29, y1 30, y1 31, y1 32, y1 33, y1 34, y1 35, y1 36, y1 37, y1 38, y1 39, y1 40, y1 41, y1 42, y1 43, y1 44, y1 45, y1 46, y1 47, y1 48, undef], []⟩) ac ∧ K2.Mem [] W wc []) (fun ac _ => n - (intOf (ac.tmps.getD 4 undef)).toNat) ⟨0, [], by omega, by simp [textL], by simp, KwJ.mkFr (by kernel_rfl), M0⟩ (fun ac w1 hI => ?_)
  obtain ⟨i, acc, hi, hacc, hl, hF1, M1⟩ := hI
  obtain ⟨y1, rfl⟩ := KwJ.fr hF1
  refine wp_seq ?_
  refine wp_seq ?_
  refine K2.region ?_
  refine K2.pure (.int .i64 ((i : Nat) : Int)) (by kernel_rfl) (by kernel_rfl) ?_
  refine K2.pure (.slice (some ⟨b, off, none⟩) n cap) (by kernel_rfl) (by kernel_rfl) ?_
  refine K2.pure (.int .i64 ((n : Nat) : Int)) (by kernel_rfl) (by kernel_rfl) ?_
  refine K2.pure (.bool (decide (((i : Nat) : Int) < ((n : Nat) : Int)))) (by kernel_rfl) (by kernel_rfl) ?_
  refine K2.fin ?_
  refine K2.then_normal ?_
  refine wp_cond_split (t := (decide (((i : Nat) : Int) < ((n : Nat) : Int)))) (by kernel_rfl) (fun h2 => ?_) (fun h2 => ?_)
  · skip
    refine wp_skip ?_
    refine K2.then_normal ?_
    refine wp_seq ?_
    refine wp_block ?_
    refine wp_seq ?_
    have hin : i < n := by (try simp only [decide_eq_true_eq, decide_eq_false_iff_not, beq_iff_eq, beq_eq_false_iff_ne] at *); omega
    obtain ⟨f, hf⟩ : ∃ f, fs[i]? = some f := ⟨_, List.getElem?_eq_getElem (by omega)⟩
    refine K2.region ?_
    refine K2.pure (.slice (some ⟨b, off, none⟩) n cap) (by kernel_rfl) (by kernel_rfl) ?_
    refine K2.pure (.int .i64 ((i : Nat) : Int)) (by kernel_rfl) (by kernel_rfl) ?_
    refine K2.pureS (Sl.ixaS 58 (.slice (some ⟨b, off, none⟩) n cap) (.int .i64 ((i : Nat) : Int))) (.pointer (some ⟨b, off + i * 3, none⟩)) (by kernel_rfl) (by kernel_rfl) (Sl.ixa Try.underlying58 (by kernel_rfl) b off n cap i (by (try simp only [decide_eq_true_eq, decide_eq_false_iff_not, beq_iff_eq, beq_eq_false_iff_ne] at *); omega) w1) ?_
    refine K2.pure (.pointer (some ⟨b, off + i * 3, none⟩)) (by kernel_rfl) (by kernel_rfl) ?_
    refine K2.pureS (Canon.ldS 3 (.pointer (some ⟨b, off + i * 3, none⟩))) (.int .i64 (s f.1)) (by kernel_rfl) (by kernel_rfl) (ld_part hA M1 hf 0 (.int .i64 (s f.1)) rfl 3 _ Try.underlying3 rfl) ?_
    refine K2.pure (.int .u64 (u f.1)) (by kernel_rfl) (K2.eqv (v := .int .u64 (IntKind.u64.wrap (s f.1))) (by kernel_rfl) (congrArg (Value.int .u64) (wrap_s f.1))) ?_
    refine K2.call (.string (bs (dig f.1.toNat))) 55 #[.int .u64 (u f.1)] M1 (by kernel_rfl) (by kernel_rfl) (rdigits_c f.1.toNat (f.1).isLt w1) fun w3 M3 => ?_
    refine K2.pure (.string (bs (dig f.1.toNat))) (by kernel_rfl) (by kernel_rfl) ?_
    refine K2.fin ?_
    refine K2.then_normal ?_
    refine wp_seq ?_
    refine wp_seq ?_
    refine K2.region ?_
    refine K2.pure (.slice (some ⟨b, off, none⟩) n cap) (by kernel_rfl) (by kernel_rfl) ?_
    refine K2.pure (.int .i64 ((i : Nat) : Int)) (by kernel_rfl) (by kernel_rfl) ?_
    refine K2.pureS (Sl.ixaS 58 (.slice (some ⟨b, off, none⟩) n cap) (.int .i64 ((i : Nat) : Int))) (.pointer (some ⟨b, off + i * 3, none⟩)) (by kernel_rfl) (by kernel_rfl) (Sl.ixa Try.underlying58 (by kernel_rfl) b off n cap i (by (try simp only [decide_eq_true_eq, decide_eq_false_iff_not, beq_iff_eq, beq_eq_false_iff_ne] at *); omega) w3) ?_
    refine K2.pure (.pointer (some ⟨b, off + i * 3, none⟩)) (by kernel_rfl) (by kernel_rfl) ?_
    refine K2.pureS (Canon.ldS 3 (.pointer (some ⟨b, off + i * 3, none⟩))) (.int .i64 (s f.1)) (by kernel_rfl) (by kernel_rfl) (ld_part hA M3 hf 0 (.int .i64 (s f.1)) rfl 3 _ Try.underlying3 rfl) ?_
    refine K2.pure (.bool (decide ((s f.1) < (0 : Int)))) (by kernel_rfl) (by kernel_rfl) ?_
    refine K2.fin ?_
    refine K2.then_normal ?_
    refine wp_cond_split (t := (decide ((s f.1) < (0 : Int)))) (by kernel_rfl) (fun h4 => ?_) (fun h4 => ?_)
    · skip
      refine K2.region ?_
      refine K2.pure (.slice (some ⟨b, off, none⟩) n cap) (by kernel_rfl) (by kernel_rfl) ?_
      refine K2.pure (.int .i64 ((i : Nat) : Int)) (by kernel_rfl) (by kernel_rfl) ?_
      refine K2.pureS (Sl.ixaS 58 (.slice (some ⟨b, off, none⟩) n cap) (.int .i64 ((i : Nat) : Int))) (.pointer (some ⟨b, off + i * 3, none⟩)) (by kernel_rfl) (by kernel_rfl) (Sl.ixa Try.underlying58 (by kernel_rfl) b off n cap i (by (try simp only [decide_eq_true_eq, decide_eq_false_iff_not, beq_iff_eq, beq_eq_false_iff_ne] at *); omega) w3) ?_
      refine K2.pure (.pointer (some ⟨b, off + i * 3, none⟩)) (by kernel_rfl) (by kernel_rfl) ?_
      refine K2.pureS (Canon.ldS 3 (.pointer (some ⟨b, off + i * 3, none⟩))) (.int .i64 (s f.1)) (by kernel_rfl) (by kernel_rfl) (ld_part hA M3 hf 0 (.int .i64 (s f.1)) rfl 3 _ Try.underlying3 rfl) ?_
      refine K2.pure (.int .i64 (s (-f.1))) (by kernel_rfl) (K2.eqv (v := .int .i64 (IntKind.i64.wrap (0 - s f.1))) (by kernel_rfl) (congrArg (Value.int .i64) (wrapi_neg f.1))) ?_
      refine K2.pure (.int .u64 (u (-f.1))) (by kernel_rfl) (K2.eqv (v := .int .u64 (IntKind.u64.wrap (s (-f.1)))) (by kernel_rfl) (congrArg (Value.int .u64) (wrap_s (-f.1)))) ?_
      refine K2.call (.string (bs (dig (-f.1).toNat))) 55 #[.int .u64 (u (-f.1))] M3 (by kernel_rfl) (by kernel_rfl) (rdigits_c (-f.1).toNat ((-f.1)).isLt w3) fun w5 M5 => ?_
      refine K2.pureS (Canon.opS .add 9 (.const (.string { data := #[45] })) (.tmp 32) (.string { data := #[45] }) (.string (bs (dig (-f.1).toNat)))) (.string (bs (([45] : List UInt8) ++ (dig (-f.1).toNat)))) (by kernel_rfl) (by kernel_rfl) (str_add 9 _ _ ([45] : List UInt8) (dig (-f.1).toNat) (by have h2 := nm_len (s f.2.1); have h3 := dig20 f.1.toNat f.1.isLt; have h4 := dig20 f.2.2.toNat f.2.2.isLt; have h5 := dig20 (-f.1).toNat (-f.1).isLt; (try simp only [List.length_append, List.length_cons, List.length_nil]); omega) w5) ?_
      refine K2.pure (.string (bs (([45] : List UInt8) ++ (dig (-f.1).toNat)))) (by kernel_rfl) (by kernel_rfl) ?_
      refine K2.fin ?_
      refine K2.then_normal ?_
      refine Canon.region_canon (I := fun w => K2.Mem [] W w []) (by kernel_rfl) (by decide +kernel) M5.drew' ?_
      refine Canon.pure (.string (bs acc)) (by kernel_rfl) (fun w => by kernel_rfl) ?_
      refine Canon.pure (.slice (some ⟨b, off, none⟩) n cap) (by kernel_rfl) (fun w => by kernel_rfl) ?_
      refine Canon.pure (.int .i64 ((i : Nat) : Int)) (by kernel_rfl) (fun w => by kernel_rfl) ?_
      refine Canon.pureS (Sl.ixaS 58 (.slice (some ⟨b, off, none⟩) n cap) (.int .i64 ((i : Nat) : Int))) (.pointer (some ⟨b, off + i * 3, none⟩)) (by kernel_rfl) (by kernel_rfl) (fun w => Sl.ixa Try.underlying58 (by kernel_rfl) b off n cap i (by (try simp only [decide_eq_true_eq, decide_eq_false_iff_not, beq_iff_eq, beq_eq_false_iff_ne] at *); omega) w) ?_
      refine Canon.pure (.pointer (some ⟨b, off + i * 3 + 1, none⟩)) (by kernel_rfl) (fun w => by kernel_rfl) ?_
      refine Canon.readsS (Canon.ldS 3 (.pointer (some ⟨b, off + i * 3 + 1, none⟩))) (.int .i64 (s f.2.1)) (by kernel_rfl) (by kernel_rfl) (fun w hw => ld_part hA hw hf 1 (.int .i64 (s f.2.1)) rfl 3 _ Try.underlying3 rfl) ?_
      refine Canon.call (.string (bs (nmL (s f.2.1)))) 42 #[.int .i64 (s f.2.1)] (by kernel_rfl) (fun w => by kernel_rfl) (fun w hw => (rname_c (s f.2.1) w).mono fun r w1 ⟨he, hb⟩ => ⟨he, hw.call hb⟩) ?_
      refine Canon.pureS (Canon.opS .add 9 (.tmp 34) (.tmp 40) (.string (bs acc)) (.string (bs (nmL (s f.2.1))))) (.string (bs (acc ++ (nmL (s f.2.1))))) (by kernel_rfl) (by kernel_rfl) (fun w => str_add 9 _ _ acc (nmL (s f.2.1)) (by have h2 := nm_len (s f.2.1); have h3 := dig20 f.1.toNat f.1.isLt; have h4 := dig20 f.2.2.toNat f.2.2.isLt; have h5 := dig20 (-f.1).toNat (-f.1).isLt; (try simp only [List.length_append, List.length_cons, List.length_nil]); omega) w) ?_
      refine Canon.pureS (Canon.opS .add 9 (.tmp 41) (.const (.string { data := #[32] })) (.string (bs (acc ++ (nmL (s f.2.1))))) (.string { data := #[32] })) (.string (bs ((acc ++ (nmL (s f.2.1))) ++ ([32] : List UInt8)))) (by kernel_rfl) (by kernel_rfl) (fun w => str_add 9 _ _ (acc ++ (nmL (s f.2.1))) ([32] : List UInt8) (by have h2 := nm_len (s f.2.1); have h3 := dig20 f.1.toNat f.1.isLt; have h4 := dig20 f.2.2.toNat f.2.2.isLt; have h5 := dig20 (-f.1).toNat (-f.1).isLt; (try simp only [List.length_append, List.length_cons, List.length_nil]); omega) w) ?_
      refine Canon.pure (.string (bs (([45] : List UInt8) ++ (dig (-f.1).toNat)))) (by kernel_rfl) (fun w => by kernel_rfl) ?_
      refine Canon.pureS (Canon.opS .add 9 (.tmp 42) (.tmp 43) (.string (bs ((acc ++ (nmL (s f.2.1))) ++ ([32] : List UInt8)))) (.string (bs (([45] : List UInt8) ++ (dig (-f.1).toNat))))) (.string (bs (((acc ++ (nmL (s f.2.1))) ++ ([32] : List UInt8)) ++ (([45] : List UInt8) ++ (dig (-f.1).toNat))))) (by kernel_rfl) (by kernel_rfl) (fun w => str_add 9 _ _ ((acc ++ (nmL (s f.2.1))) ++ ([32] : List UInt8)) (([45] : List UInt8) ++ (dig (-f.1).toNat)) (by have h2 := nm_len (s f.2.1); have h3 := dig20 f.1.toNat f.1.isLt; have h4 := dig20 f.2.2.toNat f.2.2.isLt; have h5 := dig20 (-f.1).toNat (-f.1).isLt; (try simp only [List.length_append, List.length_cons, List.length_nil]); omega) w) ?_
      refine Canon.pureS (Canon.opS .add 9 (.tmp 44) (.const (.string { data := #[32] })) (.string (bs (((acc ++ (nmL (s f.2.1))) ++ ([32] : List UInt8)) ++ (([45] : List UInt8) ++ (dig (-f.1).toNat))))) (.string { data := #[32] })) (.string (bs ((((acc ++ (nmL (s f.2.1))) ++ ([32] : List UInt8)) ++ (([45] : List UInt8) ++ (dig (-f.1).toNat))) ++ ([32] : List UInt8)))) (by kernel_rfl) (by kernel_rfl) (fun w => str_add 9 _ _ (((acc ++ (nmL (s f.2.1))) ++ ([32] : List UInt8)) ++ (([45] : List UInt8) ++ (dig (-f.1).toNat))) ([32] : List UInt8) (by have h2 := nm_len (s f.2.1); have h3 := dig20 f.1.toNat f.1.isLt; have h4 := dig20 f.2.2.toNat f.2.2.isLt; have h5 := dig20 (-f.1).toNat (-f.1).isLt; (try simp only [List.length_append, List.length_cons, List.length_nil]); omega) w) ?_
      refine Canon.pure (.slice (some ⟨b, off, none⟩) n cap) (by kernel_rfl) (fun w => by kernel_rfl) ?_
      refine Canon.pure (.int .i64 ((i : Nat) : Int)) (by kernel_rfl) (fun w => by kernel_rfl) ?_
      refine Canon.pureS (Sl.ixaS 58 (.slice (some ⟨b, off, none⟩) n cap) (.int .i64 ((i : Nat) : Int))) (.pointer (some ⟨b, off + i * 3, none⟩)) (by kernel_rfl) (by kernel_rfl) (fun w => Sl.ixa Try.underlying58 (by kernel_rfl) b off n cap i (by (try simp only [decide_eq_true_eq, decide_eq_false_iff_not, beq_iff_eq, beq_eq_false_iff_ne] at *); omega) w) ?_
      refine Canon.pure (.pointer (some ⟨b, off + i * 3 + 2, none⟩)) (by kernel_rfl) (fun w => by kernel_rfl) ?_
      refine Canon.readsS (Canon.ldS 22 (.pointer (some ⟨b, off + i * 3 + 2, none⟩))) (.int .u64 (u f.2.2)) (by kernel_rfl) (by kernel_rfl) (fun w hw => ld_part hA hw hf 2 (.int .u64 (u f.2.2)) rfl 22 _ Try.underlying22 rfl) ?_
      refine Canon.call (.string (bs (dig f.2.2.toNat))) 55 #[.int .u64 (u f.2.2)] (by kernel_rfl) (fun w => by kernel_rfl) (fun w hw => (rdigits_c f.2.2.toNat (f.2.2).isLt w).mono fun r w1 ⟨he, hb⟩ => ⟨he, hw.call hb⟩) ?_
      refine Canon.pureS (Canon.opS .add 9 (.tmp 45) (.tmp 51) (.string (bs ((((acc ++ (nmL (s f.2.1))) ++ ([32] : List UInt8)) ++ (([45] : List UInt8) ++ (dig (-f.1).toNat))) ++ ([32] : List UInt8)))) (.string (bs (dig f.2.2.toNat)))) (.string (bs (((((acc ++ (nmL (s f.2.1))) ++ ([32] : List UInt8)) ++ (([45] : List UInt8) ++ (dig (-f.1).toNat))) ++ ([32] : List UInt8)) ++ (dig f.2.2.toNat)))) (by kernel_rfl) (by kernel_rfl) (fun w => str_add 9 _ _ ((((acc ++ (nmL (s f.2.1))) ++ ([32] : List UInt8)) ++ (([45] : List UInt8) ++ (dig (-f.1).toNat))) ++ ([32] : List UInt8)) (dig f.2.2.toNat) (by have h2 := nm_len (s f.2.1); have h3 := dig20 f.1.toNat f.1.isLt; have h4 := dig20 f.2.2.toNat f.2.2.isLt; have h5 := dig20 (-f.1).toNat (-f.1).isLt; (try simp only [List.length_append, List.length_cons, List.length_nil]); omega) w) ?_
      refine Canon.pureS (Canon.opS .add 9 (.tmp 52) (.const (.string { data := #[10] })) (.string (bs (((((acc ++ (nmL (s f.2.1))) ++ ([32] : List UInt8)) ++ (([45] : List UInt8) ++ (dig (-f.1).toNat))) ++ ([32] : List UInt8)) ++ (dig f.2.2.toNat)))) (.string { data := #[10] })) (.string (bs ((((((acc ++ (nmL (s f.2.1))) ++ ([32] : List UInt8)) ++ (([45] : List UInt8) ++ (dig (-f.1).toNat))) ++ ([32] : List UInt8)) ++ (dig f.2.2.toNat)) ++ ([10] : List UInt8)))) (by kernel_rfl) (by kernel_rfl) (fun w => str_add 9 _ _ (((((acc ++ (nmL (s f.2.1))) ++ ([32] : List UInt8)) ++ (([45] : List UInt8) ++ (dig (-f.1).toNat))) ++ ([32] : List UInt8)) ++ (dig f.2.2.toNat)) ([10] : List UInt8) (by have h2 := nm_len (s f.2.1); have h3 := dig20 f.1.toNat f.1.isLt; have h4 := dig20 f.2.2.toNat f.2.2.isLt; have h5 := dig20 (-f.1).toNat (-f.1).isLt; (try simp only [List.length_append, List.length_cons, List.length_nil]); omega) w) ?_
      refine Canon.pure (.string (bs ((((((acc ++ (nmL (s f.2.1))) ++ ([32] : List UInt8)) ++ (([45] : List UInt8) ++ (dig (-f.1).toNat))) ++ ([32] : List UInt8)) ++ (dig f.2.2.toNat)) ++ ([10] : List UInt8)))) (by kernel_rfl) (fun w => by kernel_rfl) ?_
      refine Canon.fin fun w6 M6 => ?_
      refine K2.block_normal ?_
      refine K2.then_normal ?_
      refine K2.region ?_
      refine K2.pure (.int .i64 ((i : Nat) : Int)) (by kernel_rfl) (by kernel_rfl) ?_
      refine K2.pure (.int .i64 ((i + 1 : Nat) : Int)) (by kernel_rfl) (K2.eqv (v := .int .i64 (IntKind.i64.wrap (((i : Nat) : Int) + (1 : Int)))) (by kernel_rfl) (congrArg (Value.int .i64) (by (try simp only [decide_eq_true_eq, decide_eq_false_iff_not, beq_iff_eq, beq_eq_false_iff_ne] at *); rw [IntWalk.i64_in _ (by omega)]; rfl))) ?_
      refine K2.pure (.int .i64 ((i + 1 : Nat) : Int)) (by kernel_rfl) (by kernel_rfl) ?_
      refine K2.fin ?_
      refine K2.then_normal ?_
      have e : ((((((acc ++ (nmL (s f.2.1))) ++ ([32] : List UInt8)) ++ (([45] : List UInt8) ++ (dig (-f.1).toNat))) ++ ([32] : List UInt8)) ++ (dig f.2.2.toNat)) ++ ([10] : List UInt8)) = acc ++ lineL f := by unfold lineL wholeL; (try simp only [decide_eq_true_eq, decide_eq_false_iff_not, beq_iff_eq, beq_eq_false_iff_ne] at *); rw [if_pos (by assumption)]; simp only [List.append_assoc]
      exact ⟨⟨i + 1, ((((((acc ++ (nmL (s f.2.1))) ++ ([32] : List UInt8)) ++ (([45] : List UInt8) ++ (dig (-f.1).toNat))) ++ ([32] : List UInt8)) ++ (dig f.2.2.toNat)) ++ ([10] : List UInt8)), by omega, by rw [textL_succ hf, ← hacc]; exact e, by rw [e, List.length_append]; have := line_len f; omega, KwJ.mkFr (by kernel_rfl), M6⟩, K2.mlt (n - (i + 1)) (n - i) (by kernel_rfl) (by kernel_rfl) (by omega)⟩
    · skip
      refine wp_skip ?_
      refine K2.then_normal ?_
      refine Canon.region_canon (I := fun w => K2.Mem [] W w []) (by kernel_rfl) (by decide +kernel) M3.drew' ?_
      refine Canon.pure (.string (bs acc)) (by kernel_rfl) (fun w => by kernel_rfl) ?_
      refine Canon.pure (.slice (some ⟨b, off, none⟩) n cap) (by kernel_rfl) (fun w => by kernel_rfl) ?_
      refine Canon.pure (.int .i64 ((i : Nat) : Int)) (by kernel_rfl) (fun w => by kernel_rfl) ?_
      refine Canon.pureS (Sl.ixaS 58 (.slice (some ⟨b, off, none⟩) n cap) (.int .i64 ((i : Nat) : Int))) (.pointer (some ⟨b, off + i * 3, none⟩)) (by kernel_rfl) (by kernel_rfl) (fun w => Sl.ixa Try.underlying58 (by kernel_rfl) b off n cap i (by (try simp only [decide_eq_true_eq, decide_eq_false_iff_not, beq_iff_eq, beq_eq_false_iff_ne] at *); omega) w) ?_
      refine Canon.pure (.pointer (some ⟨b, off + i * 3 + 1, none⟩)) (by kernel_rfl) (fun w => by kernel_rfl) ?_
      refine Canon.readsS (Canon.ldS 3 (.pointer (some ⟨b, off + i * 3 + 1, none⟩))) (.int .i64 (s f.2.1)) (by kernel_rfl) (by kernel_rfl) (fun w hw => ld_part hA hw hf 1 (.int .i64 (s f.2.1)) rfl 3 _ Try.underlying3 rfl) ?_
      refine Canon.call (.string (bs (nmL (s f.2.1)))) 42 #[.int .i64 (s f.2.1)] (by kernel_rfl) (fun w => by kernel_rfl) (fun w hw => (rname_c (s f.2.1) w).mono fun r w1 ⟨he, hb⟩ => ⟨he, hw.call hb⟩) ?_
      refine Canon.pureS (Canon.opS .add 9 (.tmp 34) (.tmp 40) (.string (bs acc)) (.string (bs (nmL (s f.2.1))))) (.string (bs (acc ++ (nmL (s f.2.1))))) (by kernel_rfl) (by kernel_rfl) (fun w => str_add 9 _ _ acc (nmL (s f.2.1)) (by have h2 := nm_len (s f.2.1); have h3 := dig20 f.1.toNat f.1.isLt; have h4 := dig20 f.2.2.toNat f.2.2.isLt; have h5 := dig20 (-f.1).toNat (-f.1).isLt; (try simp only [List.length_append, List.length_cons, List.length_nil]); omega) w) ?_
      refine Canon.pureS (Canon.opS .add 9 (.tmp 41) (.const (.string { data := #[32] })) (.string (bs (acc ++ (nmL (s f.2.1))))) (.string { data := #[32] })) (.string (bs ((acc ++ (nmL (s f.2.1))) ++ ([32] : List UInt8)))) (by kernel_rfl) (by kernel_rfl) (fun w => str_add 9 _ _ (acc ++ (nmL (s f.2.1))) ([32] : List UInt8) (by have h2 := nm_len (s f.2.1); have h3 := dig20 f.1.toNat f.1.isLt; have h4 := dig20 f.2.2.toNat f.2.2.isLt; have h5 := dig20 (-f.1).toNat (-f.1).isLt; (try simp only [List.length_append, List.length_cons, List.length_nil]); omega) w) ?_
      refine Canon.pure (.string (bs (dig f.1.toNat))) (by kernel_rfl) (fun w => by kernel_rfl) ?_
      refine Canon.pureS (Canon.opS .add 9 (.tmp 42) (.tmp 43) (.string (bs ((acc ++ (nmL (s f.2.1))) ++ ([32] : List UInt8)))) (.string (bs (dig f.1.toNat)))) (.string (bs (((acc ++ (nmL (s f.2.1))) ++ ([32] : List UInt8)) ++ (dig f.1.toNat)))) (by kernel_rfl) (by kernel_rfl) (fun w => str_add 9 _ _ ((acc ++ (nmL (s f.2.1))) ++ ([32] : List UInt8)) (dig f.1.toNat) (by have h2 := nm_len (s f.2.1); have h3 := dig20 f.1.toNat f.1.isLt; have h4 := dig20 f.2.2.toNat f.2.2.isLt; have h5 := dig20 (-f.1).toNat (-f.1).isLt; (try simp only [List.length_append, List.length_cons, List.length_nil]); omega) w) ?_
      refine Canon.pureS (Canon.opS .add 9 (.tmp 44) (.const (.string { data := #[32] })) (.string (bs (((acc ++ (nmL (s f.2.1))) ++ ([32] : List UInt8)) ++ (dig f.1.toNat)))) (.string { data := #[32] })) (.string (bs ((((acc ++ (nmL (s f.2.1))) ++ ([32] : List UInt8)) ++ (dig f.1.toNat)) ++ ([32] : List UInt8)))) (by kernel_rfl) (by kernel_rfl) (fun w => str_add 9 _ _ (((acc ++ (nmL (s f.2.1))) ++ ([32] : List UInt8)) ++ (dig f.1.toNat)) ([32] : List UInt8) (by have h2 := nm_len (s f.2.1); have h3 := dig20 f.1.toNat f.1.isLt; have h4 := dig20 f.2.2.toNat f.2.2.isLt; have h5 := dig20 (-f.1).toNat (-f.1).isLt; (try simp only [List.length_append, List.length_cons, List.length_nil]); omega) w) ?_
      refine Canon.pure (.slice (some ⟨b, off, none⟩) n cap) (by kernel_rfl) (fun w => by kernel_rfl) ?_
      refine Canon.pure (.int .i64 ((i : Nat) : Int)) (by kernel_rfl) (fun w => by kernel_rfl) ?_
      refine Canon.pureS (Sl.ixaS 58 (.slice (some ⟨b, off, none⟩) n cap) (.int .i64 ((i : Nat) : Int))) (.pointer (some ⟨b, off + i * 3, none⟩)) (by kernel_rfl) (by kernel_rfl) (fun w => Sl.ixa Try.underlying58 (by kernel_rfl) b off n cap i (by (try simp only [decide_eq_true_eq, decide_eq_false_iff_not, beq_iff_eq, beq_eq_false_iff_ne] at *); omega) w) ?_
      refine Canon.pure (.pointer (some ⟨b, off + i * 3 + 2, none⟩)) (by kernel_rfl) (fun w => by kernel_rfl) ?_
      refine Canon.readsS (Canon.ldS 22 (.pointer (some ⟨b, off + i * 3 + 2, none⟩))) (.int .u64 (u f.2.2)) (by kernel_rfl) (by kernel_rfl) (fun w hw => ld_part hA hw hf 2 (.int .u64 (u f.2.2)) rfl 22 _ Try.underlying22 rfl) ?_
      refine Canon.call (.string (bs (dig f.2.2.toNat))) 55 #[.int .u64 (u f.2.2)] (by kernel_rfl) (fun w => by kernel_rfl) (fun w hw => (rdigits_c f.2.2.toNat (f.2.2).isLt w).mono fun r w1 ⟨he, hb⟩ => ⟨he, hw.call hb⟩) ?_
      refine Canon.pureS (Canon.opS .add 9 (.tmp 45) (.tmp 51) (.string (bs ((((acc ++ (nmL (s f.2.1))) ++ ([32] : List UInt8)) ++ (dig f.1.toNat)) ++ ([32] : List UInt8)))) (.string (bs (dig f.2.2.toNat)))) (.string (bs (((((acc ++ (nmL (s f.2.1))) ++ ([32] : List UInt8)) ++ (dig f.1.toNat)) ++ ([32] : List UInt8)) ++ (dig f.2.2.toNat)))) (by kernel_rfl) (by kernel_rfl) (fun w => str_add 9 _ _ ((((acc ++ (nmL (s f.2.1))) ++ ([32] : List UInt8)) ++ (dig f.1.toNat)) ++ ([32] : List UInt8)) (dig f.2.2.toNat) (by have h2 := nm_len (s f.2.1); have h3 := dig20 f.1.toNat f.1.isLt; have h4 := dig20 f.2.2.toNat f.2.2.isLt; have h5 := dig20 (-f.1).toNat (-f.1).isLt; (try simp only [List.length_append, List.length_cons, List.length_nil]); omega) w) ?_
      refine Canon.pureS (Canon.opS .add 9 (.tmp 52) (.const (.string { data := #[10] })) (.string (bs (((((acc ++ (nmL (s f.2.1))) ++ ([32] : List UInt8)) ++ (dig f.1.toNat)) ++ ([32] : List UInt8)) ++ (dig f.2.2.toNat)))) (.string { data := #[10] })) (.string (bs ((((((acc ++ (nmL (s f.2.1))) ++ ([32] : List UInt8)) ++ (dig f.1.toNat)) ++ ([32] : List UInt8)) ++ (dig f.2.2.toNat)) ++ ([10] : List UInt8)))) (by kernel_rfl) (by kernel_rfl) (fun w => str_add 9 _ _ (((((acc ++ (nmL (s f.2.1))) ++ ([32] : List UInt8)) ++ (dig f.1.toNat)) ++ ([32] : List UInt8)) ++ (dig f.2.2.toNat)) ([10] : List UInt8) (by have h2 := nm_len (s f.2.1); have h3 := dig20 f.1.toNat f.1.isLt; have h4 := dig20 f.2.2.toNat f.2.2.isLt; have h5 := dig20 (-f.1).toNat (-f.1).isLt; (try simp only [List.length_append, List.length_cons, List.length_nil]); omega) w) ?_
      refine Canon.pure (.string (bs ((((((acc ++ (nmL (s f.2.1))) ++ ([32] : List UInt8)) ++ (dig f.1.toNat)) ++ ([32] : List UInt8)) ++ (dig f.2.2.toNat)) ++ ([10] : List UInt8)))) (by kernel_rfl) (fun w => by kernel_rfl) ?_
      refine Canon.fin fun w7 M7 => ?_
      refine K2.block_normal ?_
      refine K2.then_normal ?_
      refine K2.region ?_
      refine K2.pure (.int .i64 ((i : Nat) : Int)) (by kernel_rfl) (by kernel_rfl) ?_
      refine K2.pure (.int .i64 ((i + 1 : Nat) : Int)) (by kernel_rfl) (K2.eqv (v := .int .i64 (IntKind.i64.wrap (((i : Nat) : Int) + (1 : Int)))) (by kernel_rfl) (congrArg (Value.int .i64) (by (try simp only [decide_eq_true_eq, decide_eq_false_iff_not, beq_iff_eq, beq_eq_false_iff_ne] at *); rw [IntWalk.i64_in _ (by omega)]; rfl))) ?_
      refine K2.pure (.int .i64 ((i + 1 : Nat) : Int)) (by kernel_rfl) (by kernel_rfl) ?_
      refine K2.fin ?_
      refine K2.then_normal ?_
      have e : ((((((acc ++ (nmL (s f.2.1))) ++ ([32] : List UInt8)) ++ (dig f.1.toNat)) ++ ([32] : List UInt8)) ++ (dig f.2.2.toNat)) ++ ([10] : List UInt8)) = acc ++ lineL f := by unfold lineL wholeL; (try simp only [decide_eq_true_eq, decide_eq_false_iff_not, beq_iff_eq, beq_eq_false_iff_ne] at *); rw [if_neg (by assumption)]; simp only [List.append_assoc]
      exact ⟨⟨i + 1, ((((((acc ++ (nmL (s f.2.1))) ++ ([32] : List UInt8)) ++ (dig f.1.toNat)) ++ ([32] : List UInt8)) ++ (dig f.2.2.toNat)) ++ ([10] : List UInt8)), by omega, by rw [textL_succ hf, ← hacc]; exact e, by rw [e, List.length_append]; have := line_len f; omega, KwJ.mkFr (by kernel_rfl), M7⟩, K2.mlt (n - (i + 1)) (n - i) (by kernel_rfl) (by kernel_rfl) (by omega)⟩
  · skip
    refine wp_exit ?_
    refine K2.then_exit ?_
    refine K2.then_exit ?_
    refine K2.block_hit ?_
    refine K2.then_normal ?_
    refine wp_seq ?_
    refine K2.region ?_
    refine K2.pure (.string (bs acc)) (by kernel_rfl) (by kernel_rfl) ?_
    refine K2.pure (.string (bs acc)) (by kernel_rfl) (by kernel_rfl) ?_
    refine K2.fin ?_
    refine K2.then_normal ?_
    refine wp_ret ?_
    exact bodyPost_ret (v := .string (bs acc)) (by kernel_rfl) (by kernel_rfl) ⟨(by obtain rfl : i = n := (by (try simp only [decide_eq_true_eq, decide_eq_false_iff_not, beq_iff_eq, beq_eq_false_iff_ne] at *); omega); rw [hacc, List.take_of_length_le (by omega)]), M1⟩
end Go.Proofs.Ytfhigpmpngfkbaa.Aud
