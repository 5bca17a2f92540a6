/- Faults for the reference, and the lines of faults: what the functions answer. At most 100 faults. -/
import Derived.Test.YtfhigpmpngfkbaaAudB
import Derived.Test.YtfhigpmpngfkbaaSl
namespace Go.Proofs.Ytfhigpmpngfkbaa.Aud
open Go Go.RowKit Go.Proofs.Ytfhigpmpngfkbaa.Bits
attribute [local irreducible] Go.wpList
set_option linter.unusedVariables false
set_option linter.unusedSimpArgs false
open Go.Proofs.Ytfhigpmpngfkbaa.K2 Go.Proofs.Ytfhigpmpngfkbaa.KO
set_option maxHeartbeats 2000000 in
theorem own_c (b off n cap : Nat) (fs : List F3) (W : World) (hA : At W b off fs) (hn : fs.length = n) (h100 : n ≤ 100) : Calls Try.prog 40 #[.slice (some ⟨b, off, none⟩) n cap] W fun e W' => ∃ ob c cur, e = .returned (KO.slv ob n c) ∧ KO.Own ob n c cur 3 (cellsL fs) ∧ K2.Mem [] W W' [(ob, cur, 85)] := by
  refine calls_of_wp Try.func40 rfl ?_
  have M0 : K2.Mem [] W W [] := K2.Mem.start _ _
  refine K2.to (b := ⟨#[.slice (some ⟨b, off, none⟩) n cap, undef, undef, undef, undef, undef, undef, undef, undef, undef, undef, undef, undef, undef, undef, undef, undef, undef, undef], []⟩) (by kernel_rfl) ?_
  refine wp_seq ?_
  refine K2.region ?_
  refine K2.pure (.slice none 0 0) (by kernel_rfl) (by kernel_rfl) ?_
  refine K2.fin ?_
  refine K2.then_normal ?_
  refine wp_seq ?_
  refine K2.region ?_
  refine K2.pure (.slice none 0 0) (by kernel_rfl) (by kernel_rfl) ?_
  refine K2.fin ?_
  refine K2.then_normal ?_
  refine wp_seq ?_
  refine wp_seq ?_
  refine K2.region ?_
  refine K2.pure (.int .i64 0) (by kernel_rfl) (by kernel_rfl) ?_
  refine K2.fin ?_
  refine K2.then_normal ?_
  refine wp_block ?_
  have MN := KO.mem_nil M0 85
  refine K2.to (b := ⟨#[.slice (some ⟨b, off, none⟩) n cap, undef, .slice none 0 0, .slice none 0 0, .int .i64 0, undef, undef, undef, undef, undef, undef, undef, undef, undef, undef, undef, undef, undef, undef], []⟩) (by kernel_rfl) ?_
  refine wp_loop (fun ac wc => ∃ (i : Nat) (ob : Option Nat) (c : Nat) (cur : Array Value), (i ≤ n) ∧ (KO.Own ob i c cur 3 (cellsL (fs.take i))) ∧ KwJ.Fr [5, 6, 7, 8, 9, 10, 11, 12, 13, 14, 15, 16, 17] (fun y1 => ⟨#[.slice (some ⟨b, off, none⟩) n cap, undef, .slice none 0 0, KO.slv ob i c, .int .i64 ((i : Nat) : Int), y1 0, y1 1, y1 2, y1 3, y1 4, y1 5, y1 6, y1 7, y1 8, y1 9, y1 10, y1 11, y1 12, undef], []⟩) ac ∧ K2.Mem [] W wc [(ob, cur, 85)]) (fun ac _ => n - (intOf (ac.tmps.getD 4 undef)).toNat) ⟨0, none, 0, #[], by omega, KO.own_nil 3, KwJ.mkFr (by kernel_rfl), MN⟩ (fun ac w1 hI => ?_)
  obtain ⟨i, ob, c, cur, hi, O, hF1, M1⟩ := hI
  obtain ⟨y1, rfl⟩ := KwJ.fr hF1
  refine wp_seq ?_
  refine wp_seq ?_
  refine K2.region ?_
  refine K2.pure (.int .i64 ((i : Nat) : Int)) (by kernel_rfl) (by kernel_rfl) ?_
  refine K2.pure (.slice (some ⟨b, off, none⟩) n cap) (by kernel_rfl) (by kernel_rfl) ?_
  refine K2.pure (.int .i64 ((n : Nat) : Int)) (by kernel_rfl) (by kernel_rfl) ?_
  refine K2.pure (.bool (decide (((i : Nat) : Int) < ((n : Nat) : Int)))) (by kernel_rfl) (by kernel_rfl) ?_
  refine K2.fin ?_
  refine K2.then_normal ?_
  refine wp_cond_split (t := (decide (((i : Nat) : Int) < ((n : Nat) : Int)))) (by kernel_rfl) (fun h2 => ?_) (fun h2 => ?_)
  · skip
    refine wp_skip ?_
    refine K2.then_normal ?_
    refine wp_seq ?_
    refine wp_block ?_
    have hin : i < n := by (try simp only [decide_eq_true_eq, decide_eq_false_iff_not, beq_iff_eq, beq_eq_false_iff_ne] at *); omega
    obtain ⟨f, hf⟩ : ∃ f, fs[i]? = some f := ⟨_, List.getElem?_eq_getElem (by omega)⟩
    refine K2.region ?_
    refine K2.pure (KO.slv ob i c) (by kernel_rfl) (by kernel_rfl) ?_
    refine K2.pure (.slice (some ⟨b, off, none⟩) n cap) (by kernel_rfl) (by kernel_rfl) ?_
    refine K2.pure (.int .i64 ((i : Nat) : Int)) (by kernel_rfl) (by kernel_rfl) ?_
    refine K2.pureS (Sl.ixaS 55 (.slice (some ⟨b, off, none⟩) n cap) (.int .i64 ((i : Nat) : Int))) (.pointer (some ⟨b, off + i * 3, none⟩)) (by kernel_rfl) (by kernel_rfl) (Sl.ixa Try.underlying55 (by kernel_rfl) b off n cap i (by (try simp only [decide_eq_true_eq, decide_eq_false_iff_not, beq_iff_eq, beq_eq_false_iff_ne] at *); omega) w1) ?_
    refine K2.pureS (Canon.ldS 62 (.pointer (some ⟨b, off + i * 3, none⟩))) (.agg #[.int .i64 (s f.1), .int .i64 (s f.2.1), .int .u64 (u f.2.2)]) (by kernel_rfl) (by kernel_rfl) (ld_row hA M1 hf 62 _ Try.underlying62 rfl (by kernel_rfl)) ?_
    refine K2.allocV (fun B => .slice (some ⟨B, 0, none⟩) 1 1) #[.int .i64 (s f.1), .int .i64 (s f.2.1), .int .u64 (u f.2.2)] 85 M1 (by kernel_rfl) (by kernel_rfl) fun w3 B3 M3 => ?_
    refine KO.appB 58 58 85 3 24 (.agg #[.int .i64 0, .int .i64 0, .int .u64 0]) Try.underlying58 (by kernel_rfl) (by kernel_rfl) (by decide) O M3 1 rfl 0 1 1 rfl (by kernel_rfl) (by kernel_rfl) (by simp only [maxLen]; omega) (by show (i + 1) * 24 ≤ _; omega) (by kernel_rfl) (by kernel_rfl) fun ob4 c4 cur4 w4 O4 M4 => ?_
    refine K2.pure (KO.slv ob4 (i + 1) c4) (by kernel_rfl) (by kernel_rfl) ?_
    refine K2.fin ?_
    refine K2.block_normal ?_
    refine K2.then_normal ?_
    refine K2.region ?_
    refine K2.pure (.int .i64 ((i : Nat) : Int)) (by kernel_rfl) (by kernel_rfl) ?_
    refine K2.pure (.int .i64 ((i + 1 : Nat) : Int)) (by kernel_rfl) (K2.eqv (v := .int .i64 (IntKind.i64.wrap (((i : Nat) : Int) + (1 : Int)))) (by kernel_rfl) (congrArg (Value.int .i64) (by (try simp only [decide_eq_true_eq, decide_eq_false_iff_not, beq_iff_eq, beq_eq_false_iff_ne] at *); rw [IntWalk.i64_in _ (by omega)]; rfl))) ?_
    refine K2.pure (.int .i64 ((i + 1 : Nat) : Int)) (by kernel_rfl) (by kernel_rfl) ?_
    refine K2.fin ?_
    refine K2.then_normal ?_
    exact ⟨⟨i + 1, ob4, c4, cur4, by omega, by rw [cellsL_succ hf]; exact O4, KwJ.mkFr (by kernel_rfl), (KO.mem_sub M4 (.cons_cons _ (.cons _ .slnil)))⟩, K2.mlt (n - (i + 1)) (n - i) (by kernel_rfl) (by kernel_rfl) (by omega)⟩
  · skip
    refine wp_exit ?_
    refine K2.then_exit ?_
    refine K2.then_exit ?_
    refine K2.block_hit ?_
    refine K2.then_normal ?_
    refine wp_seq ?_
    refine K2.region ?_
    refine K2.pure (KO.slv ob i c) (by kernel_rfl) (by kernel_rfl) ?_
    refine K2.pure (KO.slv ob i c) (by kernel_rfl) (by kernel_rfl) ?_
    refine K2.fin ?_
    refine K2.then_normal ?_
    refine wp_ret ?_
    exact bodyPost_ret (v := KO.slv ob i c) (by kernel_rfl) (by kernel_rfl) (by obtain rfl : i = n := (by (try simp only [decide_eq_true_eq, decide_eq_false_iff_not, beq_iff_eq, beq_eq_false_iff_ne] at *); omega); rw [List.take_of_length_le (by omega)] at O; exact ⟨_, _, _, rfl, O, M1⟩)
set_option maxHeartbeats 2000000 in
theorem text_c (b off n cap : Nat) (fs : List F3) (W : World) (hA : At W b off fs) (hn : fs.length = n) (h100 : n ≤ 100) : Calls Try.prog 38 #[.slice (some ⟨b, off, none⟩) n cap] W fun e W' => e = .returned (.string (bs (textL fs))) ∧ K2.Mem [] W W' [] := by
  refine calls_of_wp Try.func38 rfl ?_
  have M0 : K2.Mem [] W W [] := K2.Mem.start _ _
  refine K2.to (b := ⟨#[.slice (some ⟨b, off, none⟩) n cap, undef, undef, undef, undef, undef, undef, undef, undef, undef, undef, undef, undef, undef, undef, undef, undef, undef, undef, undef, undef, undef, undef, undef, undef, undef, undef], []⟩) (by kernel_rfl) ?_
  refine wp_seq ?_
  refine K2.region ?_
  refine K2.pure (.string { data := #[] }) (by kernel_rfl) (by kernel_rfl) ?_
  refine K2.fin ?_
  refine K2.then_normal ?_
  refine wp_seq ?_
  refine K2.region ?_
  refine K2.alloc #[.pointer none, .slice none 0 0] 76 M0 (by kernel_rfl) (by kernel_rfl) fun w1 B1 M1 => ?_
  refine K2.fin ?_
  refine K2.then_normal ?_
  refine wp_seq ?_
  refine wp_seq ?_
  refine K2.region ?_
  refine K2.pure (.slice (some ⟨b, off, none⟩) n cap) (by kernel_rfl) (by kernel_rfl) ?_
  refine K2.pure (.int .i64 ((n : Nat) : Int)) (by kernel_rfl) (by kernel_rfl) ?_
  refine K2.pure (.int .i64 0) (by kernel_rfl) (by kernel_rfl) ?_
  refine K2.fin ?_
  refine K2.then_normal ?_
  refine wp_block ?_
  have MN := KO.mem_nil M1 5
  generalize B1 = B0 at *
  refine K2.to (b := ⟨#[.slice (some ⟨b, off, none⟩) n cap, undef, .string { data := #[] }, .pointer (some ⟨B0, 0, none⟩), undef, undef, .slice (some ⟨b, off, none⟩) n cap, .int .i64 ((n : Nat) : Int), .int .i64 0, undef, undef, undef, undef, undef, undef, undef, undef, undef, undef, undef, undef, undef, undef, undef, undef, undef, undef], []⟩) (by kernel_rfl) ?_
  refine wp_loop (fun ac wc => ∃ (i : Nat) (pp : Value) (ob : Option Nat) (q : Nat) (c : Nat) (cur : Array Value), (i ≤ n) ∧ (pp = .pointer none ∨ pp = .pointer (some ⟨B0, 0, none⟩)) ∧ (KO.Own ob q c cur 1 (Lib.byteCells (textL (fs.take i)))) ∧ KwJ.Fr [5, 9, 10, 11, 12, 13, 14, 15, 16, 17, 18, 19, 20, 21, 22, 23, 24, 25] (fun y2 => ⟨#[.slice (some ⟨b, off, none⟩) n cap, undef, .string { data := #[] }, .pointer (some ⟨B0, 0, none⟩), undef, y2 0, .slice (some ⟨b, off, none⟩) n cap, .int .i64 ((n : Nat) : Int), .int .i64 ((i : Nat) : Int), y2 1, y2 2, y2 3, y2 4, y2 5, y2 6, y2 7, y2 8, y2 9, y2 10, y2 11, y2 12, y2 13, y2 14, y2 15, y2 16, y2 17, undef], []⟩) ac ∧ K2.Mem [] W wc [(ob, cur, 5), (some B0, #[pp, KO.slv ob q c], 76)]) (fun ac _ => n - (intOf (ac.tmps.getD 8 undef)).toNat) ⟨0, .pointer none, none, 0, 0, #[], by omega, .inl rfl, KO.own_nil 1, KwJ.mkFr (by kernel_rfl), MN⟩ (fun ac w2 hI => ?_)
  obtain ⟨i, pp, ob, q, c, cur, hi, hp, O, hF2, M2⟩ := hI
  obtain ⟨y2, rfl⟩ := KwJ.fr hF2
  refine wp_seq ?_
  refine K2.region ?_
  refine K2.pure (.bool (decide (((i : Nat) : Int) < ((n : Nat) : Int)))) (by kernel_rfl) (by kernel_rfl) ?_
  refine K2.fin ?_
  refine K2.then_normal ?_
  refine wp_seq ?_
  refine wp_cond_split (t := (decide (((i : Nat) : Int) < ((n : Nat) : Int)))) (by kernel_rfl) (fun h3 => ?_) (fun h3 => ?_)
  · skip
    refine wp_skip ?_
    refine K2.then_normal ?_
    refine wp_seq ?_
    refine wp_block ?_
    refine wp_seq ?_
    have hin : i < n := by (try simp only [decide_eq_true_eq, decide_eq_false_iff_not, beq_iff_eq, beq_eq_false_iff_ne] at *); omega
    obtain ⟨f, hf⟩ : ∃ f, fs[i]? = some f := ⟨_, List.getElem?_eq_getElem (by omega)⟩
    refine K2.region ?_
    refine K2.pureS (Sl.ixaS 55 (.slice (some ⟨b, off, none⟩) n cap) (.int .i64 ((i : Nat) : Int))) (.pointer (some ⟨b, off + i * 3, none⟩)) (by kernel_rfl) (by kernel_rfl) (Sl.ixa Try.underlying55 (by kernel_rfl) b off n cap i (by (try simp only [decide_eq_true_eq, decide_eq_false_iff_not, beq_iff_eq, beq_eq_false_iff_ne] at *); omega) w2) ?_
    refine K2.pureS (Canon.ldS 62 (.pointer (some ⟨b, off + i * 3, none⟩))) (.agg #[.int .i64 (s f.1), .int .i64 (s f.2.1), .int .u64 (u f.2.2)]) (by kernel_rfl) (by kernel_rfl) (ld_row hA M2 hf 62 _ Try.underlying62 rfl (by kernel_rfl)) ?_
    refine K2.alloc #[.int .i64 0, .int .i64 0, .int .u64 0] 62 M2 (by kernel_rfl) (by kernel_rfl) fun w4 B4 M4 => ?_
    refine K2.storeAll 0 62 #[.int .i64 (s f.1), .int .i64 (s f.2.1), .int .u64 (u f.2.2)] M4 rfl (by kernel_rfl) (by kernel_rfl) (Eq.trans (b := 3) (by kernel_rfl) (by kernel_rfl)) (by kernel_rfl) (by kernel_rfl) fun w5 M5 => ?_
    refine K2.fin ?_
    refine K2.then_normal ?_
    refine CanonT.region_canonT (I := fun w => K2.Mem [] W w [(some B4, #[.int .i64 (s f.1), .int .i64 (s f.2.1), .int .u64 (u f.2.2)], 62), (ob, cur, 5), (some B0, #[pp, KO.slv ob q c], 76)]) 9 (by kernel_rfl) (by decide +kernel) (by decide +kernel) M5.drew' ?_
    refine CanonT.pure (.pointer (some ⟨B4, 1, none⟩)) (by kernel_rfl) (fun w => by kernel_rfl) ?_
    refine CanonT.readsS (Canon.ldS 3 (.pointer (some ⟨B4, 1, none⟩))) (.int .i64 (s f.2.1)) (by kernel_rfl) (by kernel_rfl) (fun w hw => K2.ld_cell 3 1 (.int .i64 (s f.2.1)) (hw.get 0 rfl) (by kernel_rfl) _ Try.underlying3 rfl) ?_
    refine CanonT.call (.string (bs (nmL (s f.2.1)))) 41 #[.int .i64 (s f.2.1)] (by kernel_rfl) (fun w => by kernel_rfl) (fun w hw => (name_c (s f.2.1) w).mono fun r w1 ⟨he, hb⟩ => ⟨he, hw.call hb⟩) ?_
    refine CanonT.pure (.pointer (some ⟨B4, 0, none⟩)) (by kernel_rfl) (fun w => by kernel_rfl) ?_
    refine CanonT.readsS (Canon.ldS 3 (.pointer (some ⟨B4, 0, none⟩))) (.int .i64 (s f.1)) (by kernel_rfl) (by kernel_rfl) (fun w hw => K2.ld_cell 3 0 (.int .i64 (s f.1)) (hw.get 0 rfl) (by kernel_rfl) _ Try.underlying3 rfl) ?_
    refine CanonT.call (.string (bs (wholeL f.1))) 52 #[.int .i64 (s f.1)] (by kernel_rfl) (fun w => by kernel_rfl) (fun w hw => (whole_c f.1 w).mono fun r w1 ⟨he, hb⟩ => ⟨he, hw.call hb⟩) ?_
    refine CanonT.pure (.pointer (some ⟨B4, 2, none⟩)) (by kernel_rfl) (fun w => by kernel_rfl) ?_
    refine CanonT.readsS (Canon.ldS 22 (.pointer (some ⟨B4, 2, none⟩))) (.int .u64 (u f.2.2)) (by kernel_rfl) (by kernel_rfl) (fun w hw => K2.ld_cell 22 2 (.int .u64 (u f.2.2)) (hw.get 0 rfl) (by kernel_rfl) _ Try.underlying22 rfl) ?_
    refine CanonT.call (.string (bs (dig f.2.2.toNat))) 53 #[.int .u64 (u f.2.2)] (by kernel_rfl) (fun w => by kernel_rfl) (fun w hw => (digits_c f.2.2.toNat (f.2.2).isLt w).mono fun r w1 ⟨he, hb⟩ => ⟨he, hw.call hb⟩) ?_
    refine CanonT.tail fun w6 M6 => ?_
    refine K2.allocV (fun B => .slice (some ⟨B, 0, none⟩) 3 3) #[.string (bs (nmL (s f.2.1))), .string (bs (wholeL f.1)), .string (bs (dig f.2.2.toNat))] 9 M6 (by kernel_rfl) (by kernel_rfl) fun w7 B7 M7 => ?_
    refine K2.call (.string (bs (nmL (s f.2.1) ++ [32] ++ wholeL f.1 ++ [32] ++ dig f.2.2.toNat))) 51 #[.slice (some ⟨B7, 0, none⟩) 3 3, .string { data := #[32] }] M7 (by kernel_rfl) (by kernel_rfl) (join_c B7 (nmL (s f.2.1)) (wholeL f.1) (dig f.2.2.toNat) (M7.get 0 rfl) (by have h1 := text_len (fs.take i); have h2 := nm_len (s f.2.1); have h3 := whole_len f.1; have h4 := dig20 f.2.2.toNat f.2.2.isLt; have h5 : (fs.take i).length ≤ 100 := (by rw [List.length_take]; omega); (try simp only [List.length_append, List.length_cons, List.length_nil]); omega)) fun w8 M8 => ?_
    refine K2.pureS (Canon.opS .add 9 (.tmp 22) (.const (.string { data := #[10] })) (.string (bs (nmL (s f.2.1) ++ [32] ++ wholeL f.1 ++ [32] ++ dig f.2.2.toNat))) (.string { data := #[10] })) (.string (bs ((nmL (s f.2.1) ++ [32] ++ wholeL f.1 ++ [32] ++ dig f.2.2.toNat) ++ ([10] : List UInt8)))) (by kernel_rfl) (by kernel_rfl) (str_add 9 _ _ (nmL (s f.2.1) ++ [32] ++ wholeL f.1 ++ [32] ++ dig f.2.2.toNat) ([10] : List UInt8) (by have h1 := text_len (fs.take i); have h2 := nm_len (s f.2.1); have h3 := whole_len f.1; have h4 := dig20 f.2.2.toNat f.2.2.isLt; have h5 : (fs.take i).length ≤ 100 := (by rw [List.length_take]; omega); (try simp only [List.length_append, List.length_cons, List.length_nil]); omega) w8) ?_
    refine writeS M8 hp O 3 2 (by decide) rfl rfl ((nmL (s f.2.1) ++ [32] ++ wholeL f.1 ++ [32] ++ dig f.2.2.toNat) ++ ([10] : List UInt8)) (by have h1 := text_len (fs.take i); have h2 := nm_len (s f.2.1); have h3 := whole_len f.1; have h4 := dig20 f.2.2.toNat f.2.2.isLt; have h5 : (fs.take i).length ≤ 100 := (by rw [List.length_take]; omega); (try simp only [List.length_append, List.length_cons, List.length_nil]); omega) (by kernel_rfl) (by kernel_rfl) fun w9 ob9 c9 cur9 O9 M9 => ?_
    refine K2.fin ?_
    refine K2.block_normal ?_
    refine K2.then_normal ?_
    refine K2.region ?_
    refine K2.pure (.int .i64 ((i + 1 : Nat) : Int)) (by kernel_rfl) (K2.eqv (v := .int .i64 (IntKind.i64.wrap (((i : Nat) : Int) + (1 : Int)))) (by kernel_rfl) (congrArg (Value.int .i64) (by (try simp only [decide_eq_true_eq, decide_eq_false_iff_not, beq_iff_eq, beq_eq_false_iff_ne] at *); rw [IntWalk.i64_in _ (by omega)]; rfl))) ?_
    refine K2.pure (.int .i64 ((i + 1 : Nat) : Int)) (by kernel_rfl) (by kernel_rfl) ?_
    refine K2.fin ?_
    refine K2.then_normal ?_
    exact ⟨⟨i + 1, (.pointer (some ⟨B0, 0, none⟩)), ob9, (q + (((nmL (s f.2.1) ++ [32] ++ wholeL f.1 ++ [32] ++ dig f.2.2.toNat) ++ ([10] : List UInt8))).length), c9, cur9, by omega, .inr rfl, by rw [textL_succ hf]; exact O9, KwJ.mkFr (by kernel_rfl), M9⟩, K2.mlt (n - (i + 1)) (n - i) (by kernel_rfl) (by kernel_rfl) (by omega)⟩
  · skip
    refine wp_exit ?_
    refine K2.then_exit ?_
    refine K2.then_exit ?_
    refine K2.block_hit ?_
    refine K2.then_normal ?_
    refine wp_seq ?_
    refine K2.region ?_
    refine stringS M2 hp O 1 0 (by decide) rfl rfl (by kernel_rfl) (by kernel_rfl) fun w10 M10 => ?_
    refine K2.pure (.string (bs (textL (fs.take i)))) (by kernel_rfl) (by kernel_rfl) ?_
    refine K2.fin ?_
    refine K2.then_normal ?_
    refine wp_ret ?_
    exact bodyPost_ret (v := .string (bs (textL (fs.take i)))) (by kernel_rfl) (by kernel_rfl) ⟨(by obtain rfl : i = n := (by (try simp only [decide_eq_true_eq, decide_eq_false_iff_not, beq_iff_eq, beq_eq_false_iff_ne] at *); omega); rw [List.take_of_length_le (by omega)]), M10⟩
end Go.Proofs.Ytfhigpmpngfkbaa.Aud
