/- The word of an instruction, or none, by its shape: what the program's function answers. No condition. -/
import Derived.Test.YtpmpibcfmejbfaaInstHas
import Derived.Test.YtpmpibcfmejbfaaKS
namespace Go.Proofs.Ytpmpibcfmejbfaa.Inst
open Go.RowKit Go.Proofs.Ytpmpibcfmejbfaa.Bits
attribute [local irreducible] Go.wpList
set_option linter.unusedVariables false
def encR (b : Bool) (w : BitVec 64) : Value := if b then .tuple #[.int .u32 (u (w &&& 4294967295#64)), .bool true] else .tuple #[.int .u32 0, .bool false]
def word_R (k : Nat) (rd rs1 rs2 imm : BitVec 64) : BitVec 64 := (putI (putI (putI (putI (putI (putI 0#64 0 7 (cd k)) 12 3 (ff k)) 25 7 (ot k)) 7 5 rd) 15 5 rs1) 20 5 rs2)
set_option maxRecDepth 100000 in
set_option maxHeartbeats 1000000 in
theorem enc_R (k : Nat) (hk : k < 69) (hs : sh k = 82) (rd rs1 rs2 imm : BitVec 64) (F1 : Bool) (g1 : fitsI rd 5 false = F1) (F2 : Bool) (g2 : fitsI rs1 5 false = F2) (F3 : Bool) (g3 : fitsI rs2 5 false = F3) (W : World) : Calls Try.prog 25 #[.agg #[.int .i64 ((k + 1 : Nat) : Int), .int .i64 (s rd), .int .i64 (s rs1), .int .i64 (s rs2), .int .i64 (s imm)]] W fun e W' => e = .returned (encR (F1 && F2 && F3) (word_R k rd rs1 rs2 imm)) ∧ Kw.Mem [] W W' [] := by
  unfold word_R
  refine calls_of_wp Try.func25 rfl ?_
  have M0 : Kw.Mem [] W W [] := Kw.Mem.start _ _
  refine Kw.to (b := ⟨#[.agg #[.int .i64 ((k + 1 : Nat) : Int), .int .i64 (s rd), .int .i64 (s rs1), .int .i64 (s rs2), .int .i64 (s imm)], undef, undef, undef, undef, undef, undef, undef, undef, undef, undef, undef, undef, undef, undef, undef, undef, undef, undef, undef, undef, undef, undef, undef, undef, undef, undef, undef, undef, undef, undef, undef, undef, undef, undef, undef, undef, undef, undef, undef, undef, undef, undef, undef, undef, undef, undef, undef, undef, undef, undef, undef, undef, undef, undef, undef, undef, undef, undef, undef, undef, undef, undef, undef, undef, undef, undef, undef, undef, undef, undef, undef, undef, undef, undef, undef, undef, undef, undef, undef, undef, undef, undef, undef, undef], []⟩) (by kernel_rfl) ?_
  refine wp_seq (Kw.region ?_)
  refine Kw.alloc #[.int .i64 ((k + 1 : Nat) : Int), .int .i64 (s rd), .int .i64 (s rs1), .int .i64 (s rs2), .int .i64 (s imm)] 36 M0 (by kernel_rfl) (by kernel_rfl) fun w1 B1 M1 => ?_
  refine KS.p (.int .u32 0) ?_
  refine KS.p (.bool false) ?_
  refine KS.n4 ?_
  refine KS.p (.pointer (some ⟨B1, 0, none⟩)) ?_
  refine KS.l 3 B1 0 (.int .i64 ((k + 1 : Nat) : Int)) M1 0 Try.underlying3 ?_
  refine KS.c (.tuple #[.agg #[.string (nm k), .int .u8 82, .int .u64 (u (cd k)), .int .u64 (u (ff k)), .int .u64 (u (ot k))], .bool true]) 41 #[.int .i64 ((k + 1 : Nat) : Int)] M1 (of_sh 82 k hk hs w1) fun w2 M2 => ?_
  refine KS.p (.tuple #[.agg #[.string (nm k), .int .u8 82, .int .u64 (u (cd k)), .int .u64 (u (ff k)), .int .u64 (u (ot k))], .bool true]) ?_
  refine KS.p (.agg #[.string (nm k), .int .u8 82, .int .u64 (u (cd k)), .int .u64 (u (ff k)), .int .u64 (u (ot k))]) ?_
  refine KS.p (.bool true) ?_
  refine Kw.alloc #[.string ⟨#[]⟩, .int .u8 0, .int .u64 0, .int .u64 0, .int .u64 0] 59 M2 (by kernel_rfl) (by kernel_rfl) fun w3 B3 M3 => ?_
  refine Kw.storeAll 0 59 #[.string (nm k), .int .u8 82, .int .u64 (u (cd k)), .int .u64 (u (ff k)), .int .u64 (u (ot k))] M3 rfl (by kernel_rfl) (by kernel_rfl) (Eq.trans (b := 5) (by kernel_rfl) (by kernel_rfl)) (by kernel_rfl) (by kernel_rfl) fun w4 M4 => ?_
  refine KS.p (.bool true) ?_
  refine Kw.fin (Kw.then_normal (wp_seq (wp_seq ?_)))
  refine Held.start (fun w => Kw.Mem [] W w [(B3, #[.string (nm k), .int .u8 82, .int .u64 (u (cd k)), .int .u64 (u (ff k)), .int .u64 (u (ot k))], 59), (B1, #[.int .i64 ((k + 1 : Nat) : Int), .int .i64 (s rd), .int .i64 (s rs1), .int .i64 (s rs2), .int .i64 (s imm)], 36)]) (by kernel_rfl) ?_
  have M5 := M4.drew
  have MS := M5
  refine KS.hp 0 (.bool true) MS ?_
  refine KS.hp 1 (.bool false) MS ?_
  refine KS.hp 2 (.bool false) MS ?_
  refine KS.hp 3 (.pointer (some ⟨B3, 1, none⟩)) MS ?_
  refine Held.take 4 (Canon.ldS 5 (.pointer (some ⟨B3, 1, none⟩))) (.int .u8 82) rfl (by decide +kernel) (by decide +kernel) (by decide +kernel) (by kernel_rfl) (by kernel_rfl) (fun w hw => Kw.ld_cell 5 1 (.int .u8 82) (hw.get 0 rfl) (by kernel_rfl) _ Try.underlying5 rfl) MS ?_
  refine KS.hp 6 (.pointer (some ⟨B1, 4, none⟩)) MS ?_
  refine Held.take 7 (Canon.ldS 2 (.pointer (some ⟨B1, 4, none⟩))) (.int .i64 (s imm)) rfl (by decide +kernel) (by decide +kernel) (by decide +kernel) (by kernel_rfl) (by kernel_rfl) (fun w hw => Kw.ld_cell 2 4 (.int .i64 (s imm)) (hw.get 1 rfl) (by kernel_rfl) _ Try.underlying2 rfl) MS ?_
  refine Held.oneCall (ι := Unit) 5 (fun _ => (.agg #[.slice none 0 0, .int .i64 0, .bool false, .int .i64 0])) 42 #[.int .u8 82] (R := fun _ w1 => Kw.Mem [] (w4.drew) w1 []) rfl (by decide +kernel) (by kernel_rfl) (by kernel_rfl) (Held.unit (laid_R (w4.drew))) fun _ w6 hc => ?_
  have M6 := M5.call hc
  clear hc
  refine ⟨M6, ?_⟩
  have MS := M6
  refine Held.oneCall (ι := Unit) 8 (fun _ => (.bool true)) 43 #[.agg #[.slice none 0 0, .int .i64 0, .bool false, .int .i64 0], .int .i64 (s imm)] (R := fun _ w1 => Kw.Mem [] w6 w1 []) rfl (by decide +kernel) (by kernel_rfl) (by kernel_rfl) (Held.unit (fits_R1 imm w6)) fun _ w7 hc => ?_
  have M7 := M6.call hc
  clear hc
  refine ⟨M7, ?_⟩
  have MS := M7
  refine KS.hp 9 (.bool false) MS ?_
  refine KS.hp 10 (.bool false) MS ?_
  refine Held.done (by decide +kernel) ?_
  refine Kw.then_normal ?_
  refine wp_cond_false (by kernel_rfl) ?_
  refine wp_skip (Kw.then_normal (wp_seq (Kw.region ?_)))
  refine KS.la 59 B3 _ M7 0 Try.underlying59 ?_
  refine KS.c (.tuple #[.int .u64 (u (putI (putI (putI 0#64 0 7 (cd k)) 12 3 (ff k)) 25 7 (ot k))), .int .u64 (u (putI (putI (putI 0#64 0 7 18446744073709551615#64) 12 3 18446744073709551615#64) 25 7 18446744073709551615#64))]) 44 #[.agg #[.string (nm k), .int .u8 82, .int .u64 (u (cd k)), .int .u64 (u (ff k)), .int .u64 (u (ot k))]] M7 (fixed_R (nm k) (cd k) (ff k) (ot k) w7) fun w8 M8 => ?_
  refine KS.p (.tuple #[.int .u64 (u (putI (putI (putI 0#64 0 7 (cd k)) 12 3 (ff k)) 25 7 (ot k))), .int .u64 (u (putI (putI (putI 0#64 0 7 18446744073709551615#64) 12 3 18446744073709551615#64) 25 7 18446744073709551615#64))]) ?_
  refine KS.p (.int .u64 (u (putI (putI (putI 0#64 0 7 (cd k)) 12 3 (ff k)) 25 7 (ot k)))) ?_
  refine KS.p (.int .u64 (u (putI (putI (putI 0#64 0 7 18446744073709551615#64) 12 3 18446744073709551615#64) 25 7 18446744073709551615#64))) ?_
  refine KS.p (.int .u64 (u (putI (putI (putI 0#64 0 7 (cd k)) 12 3 (ff k)) 25 7 (ot k)))) ?_
  refine KS.p (.int .u64 (u (putI (putI (putI 0#64 0 7 18446744073709551615#64) 12 3 18446744073709551615#64) 25 7 18446744073709551615#64))) ?_
  refine KS.n4 ?_
  refine KS.p (.pointer (some ⟨B3, 1, none⟩)) ?_
  refine KS.l 5 B3 1 (.int .u8 82) M8 0 Try.underlying5 ?_
  refine KS.c (.tuple #[.bool true, .bool true, .bool true]) 45 #[.int .u8 82] M8 (has_R w8) fun w9 M9 => ?_
  refine KS.p (.tuple #[.bool true, .bool true, .bool true]) ?_
  refine KS.p (.bool true) ?_
  refine KS.p (.bool true) ?_
  refine KS.p (.bool true) ?_
  refine KS.p (.bool true) ?_
  refine KS.p (.bool true) ?_
  refine KS.p (.bool true) ?_
  refine Kw.fin (Kw.then_normal (wp_seq ?_))
  refine Held.start (fun w => Kw.Mem [] W w [(B3, #[.string (nm k), .int .u8 82, .int .u64 (u (cd k)), .int .u64 (u (ff k)), .int .u64 (u (ot k))], 59), (B1, #[.int .i64 ((k + 1 : Nat) : Int), .int .i64 (s rd), .int .i64 (s rs1), .int .i64 (s rs2), .int .i64 (s imm)], 36)]) (by kernel_rfl) ?_
  have M10 := M9.drew
  have MS := M10
  refine KS.hp 0 (.pointer (some ⟨B3, 1, none⟩)) MS ?_
  refine Held.take 1 (Canon.ldS 5 (.pointer (some ⟨B3, 1, none⟩))) (.int .u8 82) rfl (by decide +kernel) (by decide +kernel) (by decide +kernel) (by kernel_rfl) (by kernel_rfl) (fun w hw => Kw.ld_cell 5 1 (.int .u8 82) (hw.get 0 rfl) (by kernel_rfl) _ Try.underlying5 rfl) MS ?_
  refine KS.hp 3 (.int .u64 (u (putI (putI (putI 0#64 0 7 (cd k)) 12 3 (ff k)) 25 7 (ot k)))) MS ?_
  refine KS.hp 4 (.pointer (some ⟨B1, 4, none⟩)) MS ?_
  refine Held.take 5 (Canon.ldS 2 (.pointer (some ⟨B1, 4, none⟩))) (.int .i64 (s imm)) rfl (by decide +kernel) (by decide +kernel) (by decide +kernel) (by kernel_rfl) (by kernel_rfl) (fun w hw => Kw.ld_cell 2 4 (.int .i64 (s imm)) (hw.get 1 rfl) (by kernel_rfl) _ Try.underlying2 rfl) MS ?_
  refine Held.oneCall (ι := Unit) 2 (fun _ => (.agg #[.slice none 0 0, .int .i64 0, .bool false, .int .i64 0])) 42 #[.int .u8 82] (R := fun _ w1 => Kw.Mem [] (w9.drew) w1 []) rfl (by decide +kernel) (by kernel_rfl) (by kernel_rfl) (Held.unit (laid_R (w9.drew))) fun _ w11 hc => ?_
  have M11 := M10.call hc
  clear hc
  refine ⟨M11, ?_⟩
  have MS := M11
  refine Held.oneCall (ι := Unit) 6 (fun _ => (.int .u64 (u (putI (putI (putI 0#64 0 7 (cd k)) 12 3 (ff k)) 25 7 (ot k))))) 46 #[.agg #[.slice none 0 0, .int .i64 0, .bool false, .int .i64 0], .int .u64 (u (putI (putI (putI 0#64 0 7 (cd k)) 12 3 (ff k)) 25 7 (ot k))), .int .i64 (s imm)] (R := fun _ w1 => Kw.Mem [] w11 w1 []) rfl (by decide +kernel) (by kernel_rfl) (by kernel_rfl) (Held.unit (lay_R (putI (putI (putI 0#64 0 7 (cd k)) 12 3 (ff k)) 25 7 (ot k)) imm w11)) fun _ w12 hc => ?_
  have M12 := M11.call hc
  clear hc
  refine ⟨M12, ?_⟩
  have MS := M12
  refine KS.hp 7 (.int .u64 (u (putI (putI (putI 0#64 0 7 (cd k)) 12 3 (ff k)) 25 7 (ot k)))) MS ?_
  refine Held.done (by decide +kernel) ?_
  refine Kw.then_normal (wp_seq (wp_seq (Kw.region ?_)))
  refine KS.p (.bool true) ?_
  refine KS.p (.pointer (some ⟨B1, 1, none⟩)) ?_
  refine KS.l 3 B1 1 (.int .i64 (s rd)) M12 1 Try.underlying3 ?_
  refine KS.p (.agg #[.bool true, .int .i64 7, .int .i64 (s rd)]) ?_
  refine KS.p (.bool true) ?_
  refine KS.p (.pointer (some ⟨B1, 2, none⟩)) ?_
  refine KS.l 3 B1 2 (.int .i64 (s rs1)) M12 1 Try.underlying3 ?_
  refine KS.p (.agg #[.bool true, .int .i64 15, .int .i64 (s rs1)]) ?_
  refine KS.p (.bool true) ?_
  refine KS.p (.pointer (some ⟨B1, 3, none⟩)) ?_
  refine KS.l 3 B1 3 (.int .i64 (s rs2)) M12 1 Try.underlying3 ?_
  refine KS.p (.agg #[.bool true, .int .i64 20, .int .i64 (s rs2)]) ?_
  refine KS.p (.agg #[.bool true, .int .i64 7, .int .i64 (s rd), .bool true, .int .i64 15, .int .i64 (s rs1), .bool true, .int .i64 20, .int .i64 (s rs2)]) ?_
  refine KS.p (.int .i64 0) ?_
  refine Kw.fin (Kw.then_normal (wp_block ?_))
  refine wp_loop_rounds 4 ?_
  refine Kw.round_succ (wp_seq (Kw.region ?_))
  refine KS.p (.bool true) ?_
  refine Kw.fin (Kw.then_normal (wp_seq ?_))
  refine wp_cond_true (by kernel_rfl) ?_
  refine wp_skip (Kw.then_normal (wp_seq (wp_block (wp_seq (Kw.region ?_)))))
  refine KS.p (.agg #[.bool true, .int .i64 7, .int .i64 (s rd)]) ?_
  refine Kw.alloc #[.bool false, .int .i64 0, .int .i64 0] 72 M12 (by kernel_rfl) (by kernel_rfl) fun w13 B13 M13 => ?_
  refine Kw.storeAll 0 72 #[.bool true, .int .i64 7, .int .i64 (s rd)] M13 rfl (by kernel_rfl) (by kernel_rfl) (Eq.trans (b := 3) (by kernel_rfl) (by kernel_rfl)) (by kernel_rfl) (by kernel_rfl) fun w14 M14 => ?_
  refine KS.n5 ?_
  refine KS.p (.pointer (some ⟨B13, 0, none⟩)) ?_
  refine KS.l 4 B13 0 (.bool true) M14 0 Try.underlying4 ?_
  refine KS.p (.bool true) ?_
  refine KS.p (.pointer (some ⟨B13, 2, none⟩)) ?_
  refine KS.l 3 B13 2 (.int .i64 (s rd)) M14 0 Try.underlying3 ?_
  refine KS.c (.bool F1) 47 #[.int .i64 (s rd), .int .i64 5, .bool false] M14 (by have h := fits_c rd 5 false w14; rw [g1] at h; exact h) fun w15 M15 => ?_
  refine KS.p (.bool (!F1)) ?_
  refine KS.p (.bool (!F1)) ?_
  refine KS.n2 ?_
  refine wp_cond_split (t := (!F1)) (by kernel_rfl) (fun h16 => ?_) (fun h16 => ?_)
  · skip
    have h17 : (F1) = false := Kw.not_true h16
    refine wp_seq (Kw.region ?_)
    refine KS.p (.int .u32 0) ?_
    refine KS.p (.bool false) ?_
    refine Kw.fin (Kw.then_normal (wp_ret (Kw.then_ret (Kw.block_ret (Kw.then_ret (Kw.then_ret (Kw.block_ret (Kw.then_ret ?_))))))))
    exact bodyPost_ret (v := .tuple #[.int .u32 0, .bool false]) (by kernel_rfl) (by kernel_rfl) ⟨by simp_all [encR], M15.drop⟩
  · skip
    have h18 : (F1) = true := Kw.not_false h16
    refine wp_skip (Kw.then_normal (wp_seq (Kw.region ?_)))
    refine KS.p (.pointer (some ⟨B13, 0, none⟩)) ?_
    refine KS.l 4 B13 0 (.bool true) M15 0 Try.underlying4 ?_
    refine KS.n2 ?_
    refine wp_cond_true (by kernel_rfl) ?_
    refine Kw.region ?_
    refine KS.p (.int .u64 (u (putI (putI (putI 0#64 0 7 (cd k)) 12 3 (ff k)) 25 7 (ot k)))) ?_
    refine KS.p (.pointer (some ⟨B13, 1, none⟩)) ?_
    refine KS.l 3 B13 1 (.int .i64 7) M15 0 Try.underlying3 ?_
    refine KS.p (.pointer (some ⟨B13, 2, none⟩)) ?_
    refine KS.l 3 B13 2 (.int .i64 (s rd)) M15 0 Try.underlying3 ?_
    refine Kw.pure (.int .u64 (u rd)) (by kernel_rfl) (Kw.eqv (v := .int .u64 (IntKind.u64.wrap (s rd))) (by kernel_rfl) (congrArg (Value.int .u64) (wrap_s rd))) ?_
    refine KS.c (.int .u64 (u (putI (putI (putI (putI 0#64 0 7 (cd k)) 12 3 (ff k)) 25 7 (ot k)) 7 5 rd))) 48 #[.int .u64 (u (putI (putI (putI 0#64 0 7 (cd k)) 12 3 (ff k)) 25 7 (ot k))), .int .i64 7, .int .i64 5, .int .u64 (u rd)] M15 (put_c (putI (putI (putI 0#64 0 7 (cd k)) 12 3 (ff k)) 25 7 (ot k)) 7 5 rd w15) fun w19 M19 => ?_
    refine KS.p (.int .u64 (u (putI (putI (putI (putI 0#64 0 7 (cd k)) 12 3 (ff k)) 25 7 (ot k)) 7 5 rd))) ?_
    refine Kw.fin (Kw.block_normal (Kw.then_normal (Kw.region ?_)))
    refine KS.p (.int .i64 1) ?_
    refine KS.p (.int .i64 1) ?_
    refine Kw.fin (Kw.then_normal (Kw.round_succ (wp_seq (Kw.region ?_))))
    refine KS.p (.bool true) ?_
    refine Kw.fin (Kw.then_normal (wp_seq ?_))
    refine wp_cond_true (by kernel_rfl) ?_
    refine wp_skip (Kw.then_normal (wp_seq (wp_block (wp_seq (Kw.region ?_)))))
    refine KS.p (.agg #[.bool true, .int .i64 15, .int .i64 (s rs1)]) ?_
    refine Kw.alloc #[.bool false, .int .i64 0, .int .i64 0] 72 M19 (by kernel_rfl) (by kernel_rfl) fun w20 B20 M20 => ?_
    refine Kw.storeAll 0 72 #[.bool true, .int .i64 15, .int .i64 (s rs1)] M20 rfl (by kernel_rfl) (by kernel_rfl) (Eq.trans (b := 3) (by kernel_rfl) (by kernel_rfl)) (by kernel_rfl) (by kernel_rfl) fun w21 M21 => ?_
    refine KS.n5 ?_
    refine KS.p (.pointer (some ⟨B20, 0, none⟩)) ?_
    refine KS.l 4 B20 0 (.bool true) M21 0 Try.underlying4 ?_
    refine KS.p (.bool true) ?_
    refine KS.p (.pointer (some ⟨B20, 2, none⟩)) ?_
    refine KS.l 3 B20 2 (.int .i64 (s rs1)) M21 0 Try.underlying3 ?_
    refine KS.c (.bool F2) 47 #[.int .i64 (s rs1), .int .i64 5, .bool false] M21 (by have h := fits_c rs1 5 false w21; rw [g2] at h; exact h) fun w22 M22 => ?_
    refine KS.p (.bool (!F2)) ?_
    refine KS.p (.bool (!F2)) ?_
    refine KS.n2 ?_
    refine wp_cond_split (t := (!F2)) (by kernel_rfl) (fun h23 => ?_) (fun h23 => ?_)
    · skip
      have h24 : (F2) = false := Kw.not_true h23
      refine wp_seq (Kw.region ?_)
      refine KS.p (.int .u32 0) ?_
      refine KS.p (.bool false) ?_
      refine Kw.fin (Kw.then_normal (wp_ret (Kw.then_ret (Kw.block_ret (Kw.then_ret (Kw.then_ret (Kw.block_ret (Kw.then_ret ?_))))))))
      exact bodyPost_ret (v := .tuple #[.int .u32 0, .bool false]) (by kernel_rfl) (by kernel_rfl) ⟨by simp_all [encR], M22.drop⟩
    · skip
      have h25 : (F2) = true := Kw.not_false h23
      refine wp_skip (Kw.then_normal (wp_seq (Kw.region ?_)))
      refine KS.p (.pointer (some ⟨B20, 0, none⟩)) ?_
      refine KS.l 4 B20 0 (.bool true) M22 0 Try.underlying4 ?_
      refine KS.n2 ?_
      refine wp_cond_true (by kernel_rfl) ?_
      refine Kw.region ?_
      refine KS.p (.int .u64 (u (putI (putI (putI (putI 0#64 0 7 (cd k)) 12 3 (ff k)) 25 7 (ot k)) 7 5 rd))) ?_
      refine KS.p (.pointer (some ⟨B20, 1, none⟩)) ?_
      refine KS.l 3 B20 1 (.int .i64 15) M22 0 Try.underlying3 ?_
      refine KS.p (.pointer (some ⟨B20, 2, none⟩)) ?_
      refine KS.l 3 B20 2 (.int .i64 (s rs1)) M22 0 Try.underlying3 ?_
      refine Kw.pure (.int .u64 (u rs1)) (by kernel_rfl) (Kw.eqv (v := .int .u64 (IntKind.u64.wrap (s rs1))) (by kernel_rfl) (congrArg (Value.int .u64) (wrap_s rs1))) ?_
      refine KS.c (.int .u64 (u (putI (putI (putI (putI (putI 0#64 0 7 (cd k)) 12 3 (ff k)) 25 7 (ot k)) 7 5 rd) 15 5 rs1))) 48 #[.int .u64 (u (putI (putI (putI (putI 0#64 0 7 (cd k)) 12 3 (ff k)) 25 7 (ot k)) 7 5 rd)), .int .i64 15, .int .i64 5, .int .u64 (u rs1)] M22 (put_c (putI (putI (putI (putI 0#64 0 7 (cd k)) 12 3 (ff k)) 25 7 (ot k)) 7 5 rd) 15 5 rs1 w22) fun w26 M26 => ?_
      refine KS.p (.int .u64 (u (putI (putI (putI (putI (putI 0#64 0 7 (cd k)) 12 3 (ff k)) 25 7 (ot k)) 7 5 rd) 15 5 rs1))) ?_
      refine Kw.fin (Kw.block_normal (Kw.then_normal (Kw.region ?_)))
      refine KS.p (.int .i64 2) ?_
      refine KS.p (.int .i64 2) ?_
      refine Kw.fin (Kw.then_normal (Kw.round_succ (wp_seq (Kw.region ?_))))
      refine KS.p (.bool true) ?_
      refine Kw.fin (Kw.then_normal (wp_seq ?_))
      refine wp_cond_true (by kernel_rfl) ?_
      refine wp_skip (Kw.then_normal (wp_seq (wp_block (wp_seq (Kw.region ?_)))))
      refine KS.p (.agg #[.bool true, .int .i64 20, .int .i64 (s rs2)]) ?_
      refine Kw.alloc #[.bool false, .int .i64 0, .int .i64 0] 72 M26 (by kernel_rfl) (by kernel_rfl) fun w27 B27 M27 => ?_
      refine Kw.storeAll 0 72 #[.bool true, .int .i64 20, .int .i64 (s rs2)] M27 rfl (by kernel_rfl) (by kernel_rfl) (Eq.trans (b := 3) (by kernel_rfl) (by kernel_rfl)) (by kernel_rfl) (by kernel_rfl) fun w28 M28 => ?_
      refine KS.n5 ?_
      refine KS.p (.pointer (some ⟨B27, 0, none⟩)) ?_
      refine KS.l 4 B27 0 (.bool true) M28 0 Try.underlying4 ?_
      refine KS.p (.bool true) ?_
      refine KS.p (.pointer (some ⟨B27, 2, none⟩)) ?_
      refine KS.l 3 B27 2 (.int .i64 (s rs2)) M28 0 Try.underlying3 ?_
      refine KS.c (.bool F3) 47 #[.int .i64 (s rs2), .int .i64 5, .bool false] M28 (by have h := fits_c rs2 5 false w28; rw [g3] at h; exact h) fun w29 M29 => ?_
      refine KS.p (.bool (!F3)) ?_
      refine KS.p (.bool (!F3)) ?_
      refine KS.n2 ?_
      refine wp_cond_split (t := (!F3)) (by kernel_rfl) (fun h30 => ?_) (fun h30 => ?_)
      · skip
        have h31 : (F3) = false := Kw.not_true h30
        refine wp_seq (Kw.region ?_)
        refine KS.p (.int .u32 0) ?_
        refine KS.p (.bool false) ?_
        refine Kw.fin (Kw.then_normal (wp_ret (Kw.then_ret (Kw.block_ret (Kw.then_ret (Kw.then_ret (Kw.block_ret (Kw.then_ret ?_))))))))
        exact bodyPost_ret (v := .tuple #[.int .u32 0, .bool false]) (by kernel_rfl) (by kernel_rfl) ⟨by simp_all [encR], M29.drop⟩
      · skip
        have h32 : (F3) = true := Kw.not_false h30
        refine wp_skip (Kw.then_normal (wp_seq (Kw.region ?_)))
        refine KS.p (.pointer (some ⟨B27, 0, none⟩)) ?_
        refine KS.l 4 B27 0 (.bool true) M29 0 Try.underlying4 ?_
        refine KS.n2 ?_
        refine wp_cond_true (by kernel_rfl) ?_
        refine Kw.region ?_
        refine KS.p (.int .u64 (u (putI (putI (putI (putI (putI 0#64 0 7 (cd k)) 12 3 (ff k)) 25 7 (ot k)) 7 5 rd) 15 5 rs1))) ?_
        refine KS.p (.pointer (some ⟨B27, 1, none⟩)) ?_
        refine KS.l 3 B27 1 (.int .i64 20) M29 0 Try.underlying3 ?_
        refine KS.p (.pointer (some ⟨B27, 2, none⟩)) ?_
        refine KS.l 3 B27 2 (.int .i64 (s rs2)) M29 0 Try.underlying3 ?_
        refine Kw.pure (.int .u64 (u rs2)) (by kernel_rfl) (Kw.eqv (v := .int .u64 (IntKind.u64.wrap (s rs2))) (by kernel_rfl) (congrArg (Value.int .u64) (wrap_s rs2))) ?_
        refine KS.c (.int .u64 (u (putI (putI (putI (putI (putI (putI 0#64 0 7 (cd k)) 12 3 (ff k)) 25 7 (ot k)) 7 5 rd) 15 5 rs1) 20 5 rs2))) 48 #[.int .u64 (u (putI (putI (putI (putI (putI 0#64 0 7 (cd k)) 12 3 (ff k)) 25 7 (ot k)) 7 5 rd) 15 5 rs1)), .int .i64 20, .int .i64 5, .int .u64 (u rs2)] M29 (put_c (putI (putI (putI (putI (putI 0#64 0 7 (cd k)) 12 3 (ff k)) 25 7 (ot k)) 7 5 rd) 15 5 rs1) 20 5 rs2 w29) fun w33 M33 => ?_
        refine KS.p (.int .u64 (u (putI (putI (putI (putI (putI (putI 0#64 0 7 (cd k)) 12 3 (ff k)) 25 7 (ot k)) 7 5 rd) 15 5 rs1) 20 5 rs2))) ?_
        refine Kw.fin (Kw.block_normal (Kw.then_normal (Kw.region ?_)))
        refine KS.p (.int .i64 3) ?_
        refine KS.p (.int .i64 3) ?_
        refine Kw.fin (Kw.then_normal (Kw.round_succ (wp_seq (Kw.region ?_))))
        refine KS.p (.bool false) ?_
        refine Kw.fin (Kw.then_normal (wp_seq ?_))
        refine wp_cond_false (by kernel_rfl) ?_
        refine wp_exit (Kw.then_exit (Kw.then_exit (Kw.block_hit (Kw.then_normal (wp_seq (Kw.region ?_))))))
        refine KS.p (.int .u64 (u (putI (putI (putI (putI (putI (putI 0#64 0 7 (cd k)) 12 3 (ff k)) 25 7 (ot k)) 7 5 rd) 15 5 rs1) 20 5 rs2))) ?_
        refine Kw.pure (.int .u32 (u ((putI (putI (putI (putI (putI (putI 0#64 0 7 (cd k)) 12 3 (ff k)) 25 7 (ot k)) 7 5 rd) 15 5 rs1) 20 5 rs2) &&& 4294967295#64))) (by kernel_rfl) (Kw.eqv (v := .int .u32 (IntKind.u32.wrap (u (putI (putI (putI (putI (putI (putI 0#64 0 7 (cd k)) 12 3 (ff k)) 25 7 (ot k)) 7 5 rd) 15 5 rs1) 20 5 rs2)))) (by kernel_rfl) (congrArg (Value.int .u32) (wrap32_u (putI (putI (putI (putI (putI (putI 0#64 0 7 (cd k)) 12 3 (ff k)) 25 7 (ot k)) 7 5 rd) 15 5 rs1) 20 5 rs2)))) ?_
        refine KS.p (.int .u32 (u ((putI (putI (putI (putI (putI (putI 0#64 0 7 (cd k)) 12 3 (ff k)) 25 7 (ot k)) 7 5 rd) 15 5 rs1) 20 5 rs2) &&& 4294967295#64))) ?_
        refine KS.p (.bool true) ?_
        refine Kw.fin (Kw.then_normal (wp_ret ?_))
        exact bodyPost_ret (v := .tuple #[.int .u32 (u ((putI (putI (putI (putI (putI (putI 0#64 0 7 (cd k)) 12 3 (ff k)) 25 7 (ot k)) 7 5 rd) 15 5 rs1) 20 5 rs2) &&& 4294967295#64)), .bool true]) (by kernel_rfl) (by kernel_rfl) ⟨by simp_all [encR], M33.drop⟩
def word_G (k : Nat) (rd rs1 rs2 imm : BitVec 64) : BitVec 64 := (putI (putI (putI (putI (putI (putI 0#64 0 7 (cd k)) 12 3 (ff k)) 20 5 (ot k)) 25 7 127#64) 7 5 rd) 15 5 rs1)
set_option maxRecDepth 100000 in
set_option maxHeartbeats 1000000 in
theorem enc_G (k : Nat) (hk : k < 69) (hs : sh k = 71) (rd rs1 rs2 imm : BitVec 64) (F1 : Bool) (g1 : fitsI rd 5 false = F1) (F2 : Bool) (g2 : fitsI rs1 5 false = F2) (W : World) : Calls Try.prog 25 #[.agg #[.int .i64 ((k + 1 : Nat) : Int), .int .i64 (s rd), .int .i64 (s rs1), .int .i64 (s rs2), .int .i64 (s imm)]] W fun e W' => e = .returned (encR (F1 && F2) (word_G k rd rs1 rs2 imm)) ∧ Kw.Mem [] W W' [] := by
  unfold word_G
  refine calls_of_wp Try.func25 rfl ?_
  have M0 : Kw.Mem [] W W [] := Kw.Mem.start _ _
  refine Kw.to (b := ⟨#[.agg #[.int .i64 ((k + 1 : Nat) : Int), .int .i64 (s rd), .int .i64 (s rs1), .int .i64 (s rs2), .int .i64 (s imm)], undef, undef, undef, undef, undef, undef, undef, undef, undef, undef, undef, undef, undef, undef, undef, undef, undef, undef, undef, undef, undef, undef, undef, undef, undef, undef, undef, undef, undef, undef, undef, undef, undef, undef, undef, undef, undef, undef, undef, undef, undef, undef, undef, undef, undef, undef, undef, undef, undef, undef, undef, undef, undef, undef, undef, undef, undef, undef, undef, undef, undef, undef, undef, undef, undef, undef, undef, undef, undef, undef, undef, undef, undef, undef, undef, undef, undef, undef, undef, undef, undef, undef, undef, undef], []⟩) (by kernel_rfl) ?_
  refine wp_seq (Kw.region ?_)
  refine Kw.alloc #[.int .i64 ((k + 1 : Nat) : Int), .int .i64 (s rd), .int .i64 (s rs1), .int .i64 (s rs2), .int .i64 (s imm)] 36 M0 (by kernel_rfl) (by kernel_rfl) fun w1 B1 M1 => ?_
  refine KS.p (.int .u32 0) ?_
  refine KS.p (.bool false) ?_
  refine KS.n4 ?_
  refine KS.p (.pointer (some ⟨B1, 0, none⟩)) ?_
  refine KS.l 3 B1 0 (.int .i64 ((k + 1 : Nat) : Int)) M1 0 Try.underlying3 ?_
  refine KS.c (.tuple #[.agg #[.string (nm k), .int .u8 71, .int .u64 (u (cd k)), .int .u64 (u (ff k)), .int .u64 (u (ot k))], .bool true]) 41 #[.int .i64 ((k + 1 : Nat) : Int)] M1 (of_sh 71 k hk hs w1) fun w2 M2 => ?_
  refine KS.p (.tuple #[.agg #[.string (nm k), .int .u8 71, .int .u64 (u (cd k)), .int .u64 (u (ff k)), .int .u64 (u (ot k))], .bool true]) ?_
  refine KS.p (.agg #[.string (nm k), .int .u8 71, .int .u64 (u (cd k)), .int .u64 (u (ff k)), .int .u64 (u (ot k))]) ?_
  refine KS.p (.bool true) ?_
  refine Kw.alloc #[.string ⟨#[]⟩, .int .u8 0, .int .u64 0, .int .u64 0, .int .u64 0] 59 M2 (by kernel_rfl) (by kernel_rfl) fun w3 B3 M3 => ?_
  refine Kw.storeAll 0 59 #[.string (nm k), .int .u8 71, .int .u64 (u (cd k)), .int .u64 (u (ff k)), .int .u64 (u (ot k))] M3 rfl (by kernel_rfl) (by kernel_rfl) (Eq.trans (b := 5) (by kernel_rfl) (by kernel_rfl)) (by kernel_rfl) (by kernel_rfl) fun w4 M4 => ?_
  refine KS.p (.bool true) ?_
  refine Kw.fin (Kw.then_normal (wp_seq (wp_seq ?_)))
  refine Held.start (fun w => Kw.Mem [] W w [(B3, #[.string (nm k), .int .u8 71, .int .u64 (u (cd k)), .int .u64 (u (ff k)), .int .u64 (u (ot k))], 59), (B1, #[.int .i64 ((k + 1 : Nat) : Int), .int .i64 (s rd), .int .i64 (s rs1), .int .i64 (s rs2), .int .i64 (s imm)], 36)]) (by kernel_rfl) ?_
  have M5 := M4.drew
  have MS := M5
  refine KS.hp 0 (.bool true) MS ?_
  refine KS.hp 1 (.bool false) MS ?_
  refine KS.hp 2 (.bool false) MS ?_
  refine KS.hp 3 (.pointer (some ⟨B3, 1, none⟩)) MS ?_
  refine Held.take 4 (Canon.ldS 5 (.pointer (some ⟨B3, 1, none⟩))) (.int .u8 71) rfl (by decide +kernel) (by decide +kernel) (by decide +kernel) (by kernel_rfl) (by kernel_rfl) (fun w hw => Kw.ld_cell 5 1 (.int .u8 71) (hw.get 0 rfl) (by kernel_rfl) _ Try.underlying5 rfl) MS ?_
  refine KS.hp 6 (.pointer (some ⟨B1, 4, none⟩)) MS ?_
  refine Held.take 7 (Canon.ldS 2 (.pointer (some ⟨B1, 4, none⟩))) (.int .i64 (s imm)) rfl (by decide +kernel) (by decide +kernel) (by decide +kernel) (by kernel_rfl) (by kernel_rfl) (fun w hw => Kw.ld_cell 2 4 (.int .i64 (s imm)) (hw.get 1 rfl) (by kernel_rfl) _ Try.underlying2 rfl) MS ?_
  refine Held.oneCall (ι := Unit) 5 (fun _ => (.agg #[.slice none 0 0, .int .i64 0, .bool false, .int .i64 0])) 42 #[.int .u8 71] (R := fun _ w1 => Kw.Mem [] (w4.drew) w1 []) rfl (by decide +kernel) (by kernel_rfl) (by kernel_rfl) (Held.unit (laid_G (w4.drew))) fun _ w6 hc => ?_
  have M6 := M5.call hc
  clear hc
  refine ⟨M6, ?_⟩
  have MS := M6
  refine Held.oneCall (ι := Unit) 8 (fun _ => (.bool true)) 43 #[.agg #[.slice none 0 0, .int .i64 0, .bool false, .int .i64 0], .int .i64 (s imm)] (R := fun _ w1 => Kw.Mem [] w6 w1 []) rfl (by decide +kernel) (by kernel_rfl) (by kernel_rfl) (Held.unit (fits_R1 imm w6)) fun _ w7 hc => ?_
  have M7 := M6.call hc
  clear hc
  refine ⟨M7, ?_⟩
  have MS := M7
  refine KS.hp 9 (.bool false) MS ?_
  refine KS.hp 10 (.bool false) MS ?_
  refine Held.done (by decide +kernel) ?_
  refine Kw.then_normal ?_
  refine wp_cond_false (by kernel_rfl) ?_
  refine wp_skip (Kw.then_normal (wp_seq (Kw.region ?_)))
  refine KS.la 59 B3 _ M7 0 Try.underlying59 ?_
  refine KS.c (.tuple #[.int .u64 (u (putI (putI (putI (putI 0#64 0 7 (cd k)) 12 3 (ff k)) 20 5 (ot k)) 25 7 127#64)), .int .u64 (u (putI (putI (putI (putI 0#64 0 7 18446744073709551615#64) 12 3 18446744073709551615#64) 20 5 18446744073709551615#64) 25 7 18446744073709551615#64))]) 44 #[.agg #[.string (nm k), .int .u8 71, .int .u64 (u (cd k)), .int .u64 (u (ff k)), .int .u64 (u (ot k))]] M7 (fixed_G (nm k) (cd k) (ff k) (ot k) w7) fun w8 M8 => ?_
  refine KS.p (.tuple #[.int .u64 (u (putI (putI (putI (putI 0#64 0 7 (cd k)) 12 3 (ff k)) 20 5 (ot k)) 25 7 127#64)), .int .u64 (u (putI (putI (putI (putI 0#64 0 7 18446744073709551615#64) 12 3 18446744073709551615#64) 20 5 18446744073709551615#64) 25 7 18446744073709551615#64))]) ?_
  refine KS.p (.int .u64 (u (putI (putI (putI (putI 0#64 0 7 (cd k)) 12 3 (ff k)) 20 5 (ot k)) 25 7 127#64))) ?_
  refine KS.p (.int .u64 (u (putI (putI (putI (putI 0#64 0 7 18446744073709551615#64) 12 3 18446744073709551615#64) 20 5 18446744073709551615#64) 25 7 18446744073709551615#64))) ?_
  refine KS.p (.int .u64 (u (putI (putI (putI (putI 0#64 0 7 (cd k)) 12 3 (ff k)) 20 5 (ot k)) 25 7 127#64))) ?_
  refine KS.p (.int .u64 (u (putI (putI (putI (putI 0#64 0 7 18446744073709551615#64) 12 3 18446744073709551615#64) 20 5 18446744073709551615#64) 25 7 18446744073709551615#64))) ?_
  refine KS.n4 ?_
  refine KS.p (.pointer (some ⟨B3, 1, none⟩)) ?_
  refine KS.l 5 B3 1 (.int .u8 71) M8 0 Try.underlying5 ?_
  refine KS.c (.tuple #[.bool true, .bool true, .bool false]) 45 #[.int .u8 71] M8 (has_G w8) fun w9 M9 => ?_
  refine KS.p (.tuple #[.bool true, .bool true, .bool false]) ?_
  refine KS.p (.bool true) ?_
  refine KS.p (.bool true) ?_
  refine KS.p (.bool false) ?_
  refine KS.p (.bool true) ?_
  refine KS.p (.bool true) ?_
  refine KS.p (.bool false) ?_
  refine Kw.fin (Kw.then_normal (wp_seq ?_))
  refine Held.start (fun w => Kw.Mem [] W w [(B3, #[.string (nm k), .int .u8 71, .int .u64 (u (cd k)), .int .u64 (u (ff k)), .int .u64 (u (ot k))], 59), (B1, #[.int .i64 ((k + 1 : Nat) : Int), .int .i64 (s rd), .int .i64 (s rs1), .int .i64 (s rs2), .int .i64 (s imm)], 36)]) (by kernel_rfl) ?_
  have M10 := M9.drew
  have MS := M10
  refine KS.hp 0 (.pointer (some ⟨B3, 1, none⟩)) MS ?_
  refine Held.take 1 (Canon.ldS 5 (.pointer (some ⟨B3, 1, none⟩))) (.int .u8 71) rfl (by decide +kernel) (by decide +kernel) (by decide +kernel) (by kernel_rfl) (by kernel_rfl) (fun w hw => Kw.ld_cell 5 1 (.int .u8 71) (hw.get 0 rfl) (by kernel_rfl) _ Try.underlying5 rfl) MS ?_
  refine KS.hp 3 (.int .u64 (u (putI (putI (putI (putI 0#64 0 7 (cd k)) 12 3 (ff k)) 20 5 (ot k)) 25 7 127#64))) MS ?_
  refine KS.hp 4 (.pointer (some ⟨B1, 4, none⟩)) MS ?_
  refine Held.take 5 (Canon.ldS 2 (.pointer (some ⟨B1, 4, none⟩))) (.int .i64 (s imm)) rfl (by decide +kernel) (by decide +kernel) (by decide +kernel) (by kernel_rfl) (by kernel_rfl) (fun w hw => Kw.ld_cell 2 4 (.int .i64 (s imm)) (hw.get 1 rfl) (by kernel_rfl) _ Try.underlying2 rfl) MS ?_
  refine Held.oneCall (ι := Unit) 2 (fun _ => (.agg #[.slice none 0 0, .int .i64 0, .bool false, .int .i64 0])) 42 #[.int .u8 71] (R := fun _ w1 => Kw.Mem [] (w9.drew) w1 []) rfl (by decide +kernel) (by kernel_rfl) (by kernel_rfl) (Held.unit (laid_G (w9.drew))) fun _ w11 hc => ?_
  have M11 := M10.call hc
  clear hc
  refine ⟨M11, ?_⟩
  have MS := M11
  refine Held.oneCall (ι := Unit) 6 (fun _ => (.int .u64 (u (putI (putI (putI (putI 0#64 0 7 (cd k)) 12 3 (ff k)) 20 5 (ot k)) 25 7 127#64)))) 46 #[.agg #[.slice none 0 0, .int .i64 0, .bool false, .int .i64 0], .int .u64 (u (putI (putI (putI (putI 0#64 0 7 (cd k)) 12 3 (ff k)) 20 5 (ot k)) 25 7 127#64)), .int .i64 (s imm)] (R := fun _ w1 => Kw.Mem [] w11 w1 []) rfl (by decide +kernel) (by kernel_rfl) (by kernel_rfl) (Held.unit (lay_R (putI (putI (putI (putI 0#64 0 7 (cd k)) 12 3 (ff k)) 20 5 (ot k)) 25 7 127#64) imm w11)) fun _ w12 hc => ?_
  have M12 := M11.call hc
  clear hc
  refine ⟨M12, ?_⟩
  have MS := M12
  refine KS.hp 7 (.int .u64 (u (putI (putI (putI (putI 0#64 0 7 (cd k)) 12 3 (ff k)) 20 5 (ot k)) 25 7 127#64))) MS ?_
  refine Held.done (by decide +kernel) ?_
  refine Kw.then_normal (wp_seq (wp_seq (Kw.region ?_)))
  refine KS.p (.bool true) ?_
  refine KS.p (.pointer (some ⟨B1, 1, none⟩)) ?_
  refine KS.l 3 B1 1 (.int .i64 (s rd)) M12 1 Try.underlying3 ?_
  refine KS.p (.agg #[.bool true, .int .i64 7, .int .i64 (s rd)]) ?_
  refine KS.p (.bool true) ?_
  refine KS.p (.pointer (some ⟨B1, 2, none⟩)) ?_
  refine KS.l 3 B1 2 (.int .i64 (s rs1)) M12 1 Try.underlying3 ?_
  refine KS.p (.agg #[.bool true, .int .i64 15, .int .i64 (s rs1)]) ?_
  refine KS.p (.bool false) ?_
  refine KS.p (.pointer (some ⟨B1, 3, none⟩)) ?_
  refine KS.l 3 B1 3 (.int .i64 (s rs2)) M12 1 Try.underlying3 ?_
  refine KS.p (.agg #[.bool false, .int .i64 20, .int .i64 (s rs2)]) ?_
  refine KS.p (.agg #[.bool true, .int .i64 7, .int .i64 (s rd), .bool true, .int .i64 15, .int .i64 (s rs1), .bool false, .int .i64 20, .int .i64 (s rs2)]) ?_
  refine KS.p (.int .i64 0) ?_
  refine Kw.fin (Kw.then_normal (wp_block ?_))
  refine wp_loop_rounds 4 ?_
  refine Kw.round_succ (wp_seq (Kw.region ?_))
  refine KS.p (.bool true) ?_
  refine Kw.fin (Kw.then_normal (wp_seq ?_))
  refine wp_cond_true (by kernel_rfl) ?_
  refine wp_skip (Kw.then_normal (wp_seq (wp_block (wp_seq (Kw.region ?_)))))
  refine KS.p (.agg #[.bool true, .int .i64 7, .int .i64 (s rd)]) ?_
  refine Kw.alloc #[.bool false, .int .i64 0, .int .i64 0] 72 M12 (by kernel_rfl) (by kernel_rfl) fun w13 B13 M13 => ?_
  refine Kw.storeAll 0 72 #[.bool true, .int .i64 7, .int .i64 (s rd)] M13 rfl (by kernel_rfl) (by kernel_rfl) (Eq.trans (b := 3) (by kernel_rfl) (by kernel_rfl)) (by kernel_rfl) (by kernel_rfl) fun w14 M14 => ?_
  refine KS.n5 ?_
  refine KS.p (.pointer (some ⟨B13, 0, none⟩)) ?_
  refine KS.l 4 B13 0 (.bool true) M14 0 Try.underlying4 ?_
  refine KS.p (.bool true) ?_
  refine KS.p (.pointer (some ⟨B13, 2, none⟩)) ?_
  refine KS.l 3 B13 2 (.int .i64 (s rd)) M14 0 Try.underlying3 ?_
  refine KS.c (.bool F1) 47 #[.int .i64 (s rd), .int .i64 5, .bool false] M14 (by have h := fits_c rd 5 false w14; rw [g1] at h; exact h) fun w15 M15 => ?_
  refine KS.p (.bool (!F1)) ?_
  refine KS.p (.bool (!F1)) ?_
  refine KS.n2 ?_
  refine wp_cond_split (t := (!F1)) (by kernel_rfl) (fun h16 => ?_) (fun h16 => ?_)
  · skip
    have h17 : (F1) = false := Kw.not_true h16
    refine wp_seq (Kw.region ?_)
    refine KS.p (.int .u32 0) ?_
    refine KS.p (.bool false) ?_
    refine Kw.fin (Kw.then_normal (wp_ret (Kw.then_ret (Kw.block_ret (Kw.then_ret (Kw.then_ret (Kw.block_ret (Kw.then_ret ?_))))))))
    exact bodyPost_ret (v := .tuple #[.int .u32 0, .bool false]) (by kernel_rfl) (by kernel_rfl) ⟨by simp_all [encR], M15.drop⟩
  · skip
    have h18 : (F1) = true := Kw.not_false h16
    refine wp_skip (Kw.then_normal (wp_seq (Kw.region ?_)))
    refine KS.p (.pointer (some ⟨B13, 0, none⟩)) ?_
    refine KS.l 4 B13 0 (.bool true) M15 0 Try.underlying4 ?_
    refine KS.n2 ?_
    refine wp_cond_true (by kernel_rfl) ?_
    refine Kw.region ?_
    refine KS.p (.int .u64 (u (putI (putI (putI (putI 0#64 0 7 (cd k)) 12 3 (ff k)) 20 5 (ot k)) 25 7 127#64))) ?_
    refine KS.p (.pointer (some ⟨B13, 1, none⟩)) ?_
    refine KS.l 3 B13 1 (.int .i64 7) M15 0 Try.underlying3 ?_
    refine KS.p (.pointer (some ⟨B13, 2, none⟩)) ?_
    refine KS.l 3 B13 2 (.int .i64 (s rd)) M15 0 Try.underlying3 ?_
    refine Kw.pure (.int .u64 (u rd)) (by kernel_rfl) (Kw.eqv (v := .int .u64 (IntKind.u64.wrap (s rd))) (by kernel_rfl) (congrArg (Value.int .u64) (wrap_s rd))) ?_
    refine KS.c (.int .u64 (u (putI (putI (putI (putI (putI 0#64 0 7 (cd k)) 12 3 (ff k)) 20 5 (ot k)) 25 7 127#64) 7 5 rd))) 48 #[.int .u64 (u (putI (putI (putI (putI 0#64 0 7 (cd k)) 12 3 (ff k)) 20 5 (ot k)) 25 7 127#64)), .int .i64 7, .int .i64 5, .int .u64 (u rd)] M15 (put_c (putI (putI (putI (putI 0#64 0 7 (cd k)) 12 3 (ff k)) 20 5 (ot k)) 25 7 127#64) 7 5 rd w15) fun w19 M19 => ?_
    refine KS.p (.int .u64 (u (putI (putI (putI (putI (putI 0#64 0 7 (cd k)) 12 3 (ff k)) 20 5 (ot k)) 25 7 127#64) 7 5 rd))) ?_
    refine Kw.fin (Kw.block_normal (Kw.then_normal (Kw.region ?_)))
    refine KS.p (.int .i64 1) ?_
    refine KS.p (.int .i64 1) ?_
    refine Kw.fin (Kw.then_normal (Kw.round_succ (wp_seq (Kw.region ?_))))
    refine KS.p (.bool true) ?_
    refine Kw.fin (Kw.then_normal (wp_seq ?_))
    refine wp_cond_true (by kernel_rfl) ?_
    refine wp_skip (Kw.then_normal (wp_seq (wp_block (wp_seq (Kw.region ?_)))))
    refine KS.p (.agg #[.bool true, .int .i64 15, .int .i64 (s rs1)]) ?_
    refine Kw.alloc #[.bool false, .int .i64 0, .int .i64 0] 72 M19 (by kernel_rfl) (by kernel_rfl) fun w20 B20 M20 => ?_
    refine Kw.storeAll 0 72 #[.bool true, .int .i64 15, .int .i64 (s rs1)] M20 rfl (by kernel_rfl) (by kernel_rfl) (Eq.trans (b := 3) (by kernel_rfl) (by kernel_rfl)) (by kernel_rfl) (by kernel_rfl) fun w21 M21 => ?_
    refine KS.n5 ?_
    refine KS.p (.pointer (some ⟨B20, 0, none⟩)) ?_
    refine KS.l 4 B20 0 (.bool true) M21 0 Try.underlying4 ?_
    refine KS.p (.bool true) ?_
    refine KS.p (.pointer (some ⟨B20, 2, none⟩)) ?_
    refine KS.l 3 B20 2 (.int .i64 (s rs1)) M21 0 Try.underlying3 ?_
    refine KS.c (.bool F2) 47 #[.int .i64 (s rs1), .int .i64 5, .bool false] M21 (by have h := fits_c rs1 5 false w21; rw [g2] at h; exact h) fun w22 M22 => ?_
    refine KS.p (.bool (!F2)) ?_
    refine KS.p (.bool (!F2)) ?_
    refine KS.n2 ?_
    refine wp_cond_split (t := (!F2)) (by kernel_rfl) (fun h23 => ?_) (fun h23 => ?_)
    · skip
      have h24 : (F2) = false := Kw.not_true h23
      refine wp_seq (Kw.region ?_)
      refine KS.p (.int .u32 0) ?_
      refine KS.p (.bool false) ?_
      refine Kw.fin (Kw.then_normal (wp_ret (Kw.then_ret (Kw.block_ret (Kw.then_ret (Kw.then_ret (Kw.block_ret (Kw.then_ret ?_))))))))
      exact bodyPost_ret (v := .tuple #[.int .u32 0, .bool false]) (by kernel_rfl) (by kernel_rfl) ⟨by simp_all [encR], M22.drop⟩
    · skip
      have h25 : (F2) = true := Kw.not_false h23
      refine wp_skip (Kw.then_normal (wp_seq (Kw.region ?_)))
      refine KS.p (.pointer (some ⟨B20, 0, none⟩)) ?_
      refine KS.l 4 B20 0 (.bool true) M22 0 Try.underlying4 ?_
      refine KS.n2 ?_
      refine wp_cond_true (by kernel_rfl) ?_
      refine Kw.region ?_
      refine KS.p (.int .u64 (u (putI (putI (putI (putI (putI 0#64 0 7 (cd k)) 12 3 (ff k)) 20 5 (ot k)) 25 7 127#64) 7 5 rd))) ?_
      refine KS.p (.pointer (some ⟨B20, 1, none⟩)) ?_
      refine KS.l 3 B20 1 (.int .i64 15) M22 0 Try.underlying3 ?_
      refine KS.p (.pointer (some ⟨B20, 2, none⟩)) ?_
      refine KS.l 3 B20 2 (.int .i64 (s rs1)) M22 0 Try.underlying3 ?_
      refine Kw.pure (.int .u64 (u rs1)) (by kernel_rfl) (Kw.eqv (v := .int .u64 (IntKind.u64.wrap (s rs1))) (by kernel_rfl) (congrArg (Value.int .u64) (wrap_s rs1))) ?_
      refine KS.c (.int .u64 (u (putI (putI (putI (putI (putI (putI 0#64 0 7 (cd k)) 12 3 (ff k)) 20 5 (ot k)) 25 7 127#64) 7 5 rd) 15 5 rs1))) 48 #[.int .u64 (u (putI (putI (putI (putI (putI 0#64 0 7 (cd k)) 12 3 (ff k)) 20 5 (ot k)) 25 7 127#64) 7 5 rd)), .int .i64 15, .int .i64 5, .int .u64 (u rs1)] M22 (put_c (putI (putI (putI (putI (putI 0#64 0 7 (cd k)) 12 3 (ff k)) 20 5 (ot k)) 25 7 127#64) 7 5 rd) 15 5 rs1 w22) fun w26 M26 => ?_
      refine KS.p (.int .u64 (u (putI (putI (putI (putI (putI (putI 0#64 0 7 (cd k)) 12 3 (ff k)) 20 5 (ot k)) 25 7 127#64) 7 5 rd) 15 5 rs1))) ?_
      refine Kw.fin (Kw.block_normal (Kw.then_normal (Kw.region ?_)))
      refine KS.p (.int .i64 2) ?_
      refine KS.p (.int .i64 2) ?_
      refine Kw.fin (Kw.then_normal (Kw.round_succ (wp_seq (Kw.region ?_))))
      refine KS.p (.bool true) ?_
      refine Kw.fin (Kw.then_normal (wp_seq ?_))
      refine wp_cond_true (by kernel_rfl) ?_
      refine wp_skip (Kw.then_normal (wp_seq (wp_block (wp_seq (Kw.region ?_)))))
      refine KS.p (.agg #[.bool false, .int .i64 20, .int .i64 (s rs2)]) ?_
      refine Kw.alloc #[.bool false, .int .i64 0, .int .i64 0] 72 M26 (by kernel_rfl) (by kernel_rfl) fun w27 B27 M27 => ?_
      refine Kw.storeAll 0 72 #[.bool false, .int .i64 20, .int .i64 (s rs2)] M27 rfl (by kernel_rfl) (by kernel_rfl) (Eq.trans (b := 3) (by kernel_rfl) (by kernel_rfl)) (by kernel_rfl) (by kernel_rfl) fun w28 M28 => ?_
      refine KS.n5 ?_
      refine KS.p (.pointer (some ⟨B27, 0, none⟩)) ?_
      refine KS.l 4 B27 0 (.bool false) M28 0 Try.underlying4 ?_
      refine KS.p (.bool false) ?_
      refine KS.k ?_
      refine KS.k ?_
      refine KS.k ?_
      refine KS.k ?_
      refine KS.p (.bool false) ?_
      refine KS.n2 ?_
      refine wp_cond_false (by kernel_rfl) ?_
      refine wp_skip (Kw.then_normal (wp_seq (Kw.region ?_)))
      refine KS.p (.pointer (some ⟨B27, 0, none⟩)) ?_
      refine KS.l 4 B27 0 (.bool false) M28 0 Try.underlying4 ?_
      refine KS.n2 ?_
      refine wp_cond_false (by kernel_rfl) ?_
      refine wp_skip (Kw.block_normal (Kw.then_normal (Kw.region ?_)))
      refine KS.p (.int .i64 3) ?_
      refine KS.p (.int .i64 3) ?_
      refine Kw.fin (Kw.then_normal (Kw.round_succ (wp_seq (Kw.region ?_))))
      refine KS.p (.bool false) ?_
      refine Kw.fin (Kw.then_normal (wp_seq ?_))
      refine wp_cond_false (by kernel_rfl) ?_
      refine wp_exit (Kw.then_exit (Kw.then_exit (Kw.block_hit (Kw.then_normal (wp_seq (Kw.region ?_))))))
      refine KS.p (.int .u64 (u (putI (putI (putI (putI (putI (putI 0#64 0 7 (cd k)) 12 3 (ff k)) 20 5 (ot k)) 25 7 127#64) 7 5 rd) 15 5 rs1))) ?_
      refine Kw.pure (.int .u32 (u ((putI (putI (putI (putI (putI (putI 0#64 0 7 (cd k)) 12 3 (ff k)) 20 5 (ot k)) 25 7 127#64) 7 5 rd) 15 5 rs1) &&& 4294967295#64))) (by kernel_rfl) (Kw.eqv (v := .int .u32 (IntKind.u32.wrap (u (putI (putI (putI (putI (putI (putI 0#64 0 7 (cd k)) 12 3 (ff k)) 20 5 (ot k)) 25 7 127#64) 7 5 rd) 15 5 rs1)))) (by kernel_rfl) (congrArg (Value.int .u32) (wrap32_u (putI (putI (putI (putI (putI (putI 0#64 0 7 (cd k)) 12 3 (ff k)) 20 5 (ot k)) 25 7 127#64) 7 5 rd) 15 5 rs1)))) ?_
      refine KS.p (.int .u32 (u ((putI (putI (putI (putI (putI (putI 0#64 0 7 (cd k)) 12 3 (ff k)) 20 5 (ot k)) 25 7 127#64) 7 5 rd) 15 5 rs1) &&& 4294967295#64))) ?_
      refine KS.p (.bool true) ?_
      refine Kw.fin (Kw.then_normal (wp_ret ?_))
      exact bodyPost_ret (v := .tuple #[.int .u32 (u ((putI (putI (putI (putI (putI (putI 0#64 0 7 (cd k)) 12 3 (ff k)) 20 5 (ot k)) 25 7 127#64) 7 5 rd) 15 5 rs1) &&& 4294967295#64)), .bool true]) (by kernel_rfl) (by kernel_rfl) ⟨by simp_all [encR], M28.drop⟩
def word_I (k : Nat) (rd rs1 rs2 imm : BitVec 64) : BitVec 64 := (putI (putI (putI (putI (putI 0#64 0 7 (cd k)) 12 3 (ff k)) 20 12 (getI imm 0 12)) 7 5 rd) 15 5 rs1)
set_option maxRecDepth 100000 in
set_option maxHeartbeats 1000000 in
theorem enc_I (k : Nat) (hk : k < 69) (hs : sh k = 73) (rd rs1 rs2 imm : BitVec 64) (F0 : Bool) (h0 : fitB_I imm = F0) (F1 : Bool) (g1 : fitsI rd 5 false = F1) (F2 : Bool) (g2 : fitsI rs1 5 false = F2) (W : World) : Calls Try.prog 25 #[.agg #[.int .i64 ((k + 1 : Nat) : Int), .int .i64 (s rd), .int .i64 (s rs1), .int .i64 (s rs2), .int .i64 (s imm)]] W fun e W' => e = .returned (encR (F0 && F1 && F2) (word_I k rd rs1 rs2 imm)) ∧ Kw.Mem [] W W' [] := by
  unfold word_I
  refine calls_of_wp Try.func25 rfl ?_
  have M0 : Kw.Mem [] W W [] := Kw.Mem.start _ _
  refine Kw.to (b := ⟨#[.agg #[.int .i64 ((k + 1 : Nat) : Int), .int .i64 (s rd), .int .i64 (s rs1), .int .i64 (s rs2), .int .i64 (s imm)], undef, undef, undef, undef, undef, undef, undef, undef, undef, undef, undef, undef, undef, undef, undef, undef, undef, undef, undef, undef, undef, undef, undef, undef, undef, undef, undef, undef, undef, undef, undef, undef, undef, undef, undef, undef, undef, undef, undef, undef, undef, undef, undef, undef, undef, undef, undef, undef, undef, undef, undef, undef, undef, undef, undef, undef, undef, undef, undef, undef, undef, undef, undef, undef, undef, undef, undef, undef, undef, undef, undef, undef, undef, undef, undef, undef, undef, undef, undef, undef, undef, undef, undef, undef], []⟩) (by kernel_rfl) ?_
  refine wp_seq (Kw.region ?_)
  refine Kw.alloc #[.int .i64 ((k + 1 : Nat) : Int), .int .i64 (s rd), .int .i64 (s rs1), .int .i64 (s rs2), .int .i64 (s imm)] 36 M0 (by kernel_rfl) (by kernel_rfl) fun w1 B1 M1 => ?_
  refine KS.p (.int .u32 0) ?_
  refine KS.p (.bool false) ?_
  refine KS.n4 ?_
  refine KS.p (.pointer (some ⟨B1, 0, none⟩)) ?_
  refine KS.l 3 B1 0 (.int .i64 ((k + 1 : Nat) : Int)) M1 0 Try.underlying3 ?_
  refine KS.c (.tuple #[.agg #[.string (nm k), .int .u8 73, .int .u64 (u (cd k)), .int .u64 (u (ff k)), .int .u64 (u (ot k))], .bool true]) 41 #[.int .i64 ((k + 1 : Nat) : Int)] M1 (of_sh 73 k hk hs w1) fun w2 M2 => ?_
  refine KS.p (.tuple #[.agg #[.string (nm k), .int .u8 73, .int .u64 (u (cd k)), .int .u64 (u (ff k)), .int .u64 (u (ot k))], .bool true]) ?_
  refine KS.p (.agg #[.string (nm k), .int .u8 73, .int .u64 (u (cd k)), .int .u64 (u (ff k)), .int .u64 (u (ot k))]) ?_
  refine KS.p (.bool true) ?_
  refine Kw.alloc #[.string ⟨#[]⟩, .int .u8 0, .int .u64 0, .int .u64 0, .int .u64 0] 59 M2 (by kernel_rfl) (by kernel_rfl) fun w3 B3 M3 => ?_
  refine Kw.storeAll 0 59 #[.string (nm k), .int .u8 73, .int .u64 (u (cd k)), .int .u64 (u (ff k)), .int .u64 (u (ot k))] M3 rfl (by kernel_rfl) (by kernel_rfl) (Eq.trans (b := 5) (by kernel_rfl) (by kernel_rfl)) (by kernel_rfl) (by kernel_rfl) fun w4 M4 => ?_
  refine KS.p (.bool true) ?_
  refine Kw.fin (Kw.then_normal (wp_seq (wp_seq ?_)))
  refine Held.start (fun w => Kw.Mem [] W w [(B3, #[.string (nm k), .int .u8 73, .int .u64 (u (cd k)), .int .u64 (u (ff k)), .int .u64 (u (ot k))], 59), (B1, #[.int .i64 ((k + 1 : Nat) : Int), .int .i64 (s rd), .int .i64 (s rs1), .int .i64 (s rs2), .int .i64 (s imm)], 36)]) (by kernel_rfl) ?_
  have M5 := M4.drew
  have MS := M5
  refine KS.hp 0 (.bool true) MS ?_
  refine KS.hp 1 (.bool false) MS ?_
  refine KS.hp 2 (.bool false) MS ?_
  refine KS.hp 3 (.pointer (some ⟨B3, 1, none⟩)) MS ?_
  refine Held.take 4 (Canon.ldS 5 (.pointer (some ⟨B3, 1, none⟩))) (.int .u8 73) rfl (by decide +kernel) (by decide +kernel) (by decide +kernel) (by kernel_rfl) (by kernel_rfl) (fun w hw => Kw.ld_cell 5 1 (.int .u8 73) (hw.get 0 rfl) (by kernel_rfl) _ Try.underlying5 rfl) MS ?_
  refine KS.hp 6 (.pointer (some ⟨B1, 4, none⟩)) MS ?_
  refine Held.take 7 (Canon.ldS 2 (.pointer (some ⟨B1, 4, none⟩))) (.int .i64 (s imm)) rfl (by decide +kernel) (by decide +kernel) (by decide +kernel) (by kernel_rfl) (by kernel_rfl) (fun w hw => Kw.ld_cell 2 4 (.int .i64 (s imm)) (hw.get 1 rfl) (by kernel_rfl) _ Try.underlying2 rfl) MS ?_
  refine Held.oneCall (ι := Nat) 5 (fun B => (.agg #[.slice (some ⟨B, 0, none⟩) 1 1, .int .i64 12, .bool true, .int .i64 0])) 42 #[.int .u8 73] (R := fun B w1 => Kw.Mem [] (w4.drew) w1 [(B, #[.int .i64 0, .int .i64 12, .int .i64 20], 89)]) rfl (by decide +kernel) (by kernel_rfl) (by kernel_rfl) (laid_I (w4.drew)) fun B6 w6 hc => ?_
  have M6 := Held.mem_new M5 hc
  clear hc
  refine ⟨(Held.mem_tail M6), ?_⟩
  have MS := (Held.mem_tail M6)
  refine Held.oneCall (ι := Unit) 8 (fun _ => (.bool F0)) 43 #[.agg #[.slice (some ⟨B6, 0, none⟩) 1 1, .int .i64 12, .bool true, .int .i64 0], .int .i64 (s imm)] (R := fun _ w1 => Kw.Mem [] w6 w1 []) rfl (by decide +kernel) (by kernel_rfl) (by kernel_rfl) (Held.unit (by have h := fit_I imm w6 B6 (Held.mem_of M6 0 rfl); rw [h0] at h; exact h)) fun _ w7 hc => ?_
  have M7 := M6.call hc
  clear hc
  refine ⟨(Held.mem_tail M7), ?_⟩
  have MS := (Held.mem_tail M7)
  refine KS.hp 9 (.bool (!F0)) MS ?_
  refine KS.hp 10 (.bool (!F0)) MS ?_
  refine Held.done (by decide +kernel) ?_
  refine Kw.then_normal ?_
  refine wp_cond_split (t := (!F0)) (by kernel_rfl) (fun h8 => ?_) (fun h8 => ?_)
  · skip
    have h9 : (F0) = false := Kw.not_true h8
    refine wp_seq (Kw.region ?_)
    refine KS.p (.int .u32 0) ?_
    refine KS.p (.bool false) ?_
    refine Kw.fin (Kw.then_normal (wp_ret (Kw.then_ret ?_)))
    exact bodyPost_ret (v := .tuple #[.int .u32 0, .bool false]) (by kernel_rfl) (by kernel_rfl) ⟨by simp_all [encR], M7.drop⟩
  · skip
    have h10 : (F0) = true := Kw.not_false h8
    refine wp_skip (Kw.then_normal (wp_seq (Kw.region ?_)))
    refine KS.la 59 B3 _ M7 1 Try.underlying59 ?_
    refine KS.c (.tuple #[.int .u64 (u (putI (putI 0#64 0 7 (cd k)) 12 3 (ff k))), .int .u64 (u (putI (putI 0#64 0 7 18446744073709551615#64) 12 3 18446744073709551615#64))]) 44 #[.agg #[.string (nm k), .int .u8 73, .int .u64 (u (cd k)), .int .u64 (u (ff k)), .int .u64 (u (ot k))]] M7 (fixed_I (nm k) (cd k) (ff k) (ot k) w7) fun w11 M11 => ?_
    refine KS.p (.tuple #[.int .u64 (u (putI (putI 0#64 0 7 (cd k)) 12 3 (ff k))), .int .u64 (u (putI (putI 0#64 0 7 18446744073709551615#64) 12 3 18446744073709551615#64))]) ?_
    refine KS.p (.int .u64 (u (putI (putI 0#64 0 7 (cd k)) 12 3 (ff k)))) ?_
    refine KS.p (.int .u64 (u (putI (putI 0#64 0 7 18446744073709551615#64) 12 3 18446744073709551615#64))) ?_
    refine KS.p (.int .u64 (u (putI (putI 0#64 0 7 (cd k)) 12 3 (ff k)))) ?_
    refine KS.p (.int .u64 (u (putI (putI 0#64 0 7 18446744073709551615#64) 12 3 18446744073709551615#64))) ?_
    refine KS.n4 ?_
    refine KS.p (.pointer (some ⟨B3, 1, none⟩)) ?_
    refine KS.l 5 B3 1 (.int .u8 73) M11 1 Try.underlying5 ?_
    refine KS.c (.tuple #[.bool true, .bool true, .bool false]) 45 #[.int .u8 73] M11 (has_I w11) fun w12 M12 => ?_
    refine KS.p (.tuple #[.bool true, .bool true, .bool false]) ?_
    refine KS.p (.bool true) ?_
    refine KS.p (.bool true) ?_
    refine KS.p (.bool false) ?_
    refine KS.p (.bool true) ?_
    refine KS.p (.bool true) ?_
    refine KS.p (.bool false) ?_
    refine Kw.fin (Kw.then_normal (wp_seq ?_))
    refine Held.start (fun w => Kw.Mem [] W w [(B6, #[.int .i64 0, .int .i64 12, .int .i64 20], 89), (B3, #[.string (nm k), .int .u8 73, .int .u64 (u (cd k)), .int .u64 (u (ff k)), .int .u64 (u (ot k))], 59), (B1, #[.int .i64 ((k + 1 : Nat) : Int), .int .i64 (s rd), .int .i64 (s rs1), .int .i64 (s rs2), .int .i64 (s imm)], 36)]) (by kernel_rfl) ?_
    have M13 := M12.drew
    have MS := M13
    refine KS.hp 0 (.pointer (some ⟨B3, 1, none⟩)) MS ?_
    refine Held.take 1 (Canon.ldS 5 (.pointer (some ⟨B3, 1, none⟩))) (.int .u8 73) rfl (by decide +kernel) (by decide +kernel) (by decide +kernel) (by kernel_rfl) (by kernel_rfl) (fun w hw => Kw.ld_cell 5 1 (.int .u8 73) (hw.get 1 rfl) (by kernel_rfl) _ Try.underlying5 rfl) MS ?_
    refine KS.hp 3 (.int .u64 (u (putI (putI 0#64 0 7 (cd k)) 12 3 (ff k)))) MS ?_
    refine KS.hp 4 (.pointer (some ⟨B1, 4, none⟩)) MS ?_
    refine Held.take 5 (Canon.ldS 2 (.pointer (some ⟨B1, 4, none⟩))) (.int .i64 (s imm)) rfl (by decide +kernel) (by decide +kernel) (by decide +kernel) (by kernel_rfl) (by kernel_rfl) (fun w hw => Kw.ld_cell 2 4 (.int .i64 (s imm)) (hw.get 2 rfl) (by kernel_rfl) _ Try.underlying2 rfl) MS ?_
    refine Held.oneCall (ι := Nat) 2 (fun B => (.agg #[.slice (some ⟨B, 0, none⟩) 1 1, .int .i64 12, .bool true, .int .i64 0])) 42 #[.int .u8 73] (R := fun B w1 => Kw.Mem [] (w12.drew) w1 [(B, #[.int .i64 0, .int .i64 12, .int .i64 20], 89)]) rfl (by decide +kernel) (by kernel_rfl) (by kernel_rfl) (laid_I (w12.drew)) fun B14 w14 hc => ?_
    have M14 := Held.mem_new M13 hc
    clear hc
    refine ⟨(Held.mem_tail M14), ?_⟩
    have MS := (Held.mem_tail M14)
    refine Held.oneCall (ι := Unit) 6 (fun _ => (.int .u64 (u (putI (putI (putI 0#64 0 7 (cd k)) 12 3 (ff k)) 20 12 (getI imm 0 12))))) 46 #[.agg #[.slice (some ⟨B14, 0, none⟩) 1 1, .int .i64 12, .bool true, .int .i64 0], .int .u64 (u (putI (putI 0#64 0 7 (cd k)) 12 3 (ff k))), .int .i64 (s imm)] (R := fun _ w1 => Kw.Mem [] w14 w1 []) rfl (by decide +kernel) (by kernel_rfl) (by kernel_rfl) (Held.unit (lay_I (putI (putI 0#64 0 7 (cd k)) 12 3 (ff k)) imm w14 B14 (Held.mem_of M14 0 rfl))) fun _ w15 hc => ?_
    have M15 := M14.call hc
    clear hc
    refine ⟨(Held.mem_tail M15), ?_⟩
    have MS := (Held.mem_tail M15)
    refine KS.hp 7 (.int .u64 (u (putI (putI (putI 0#64 0 7 (cd k)) 12 3 (ff k)) 20 12 (getI imm 0 12)))) MS ?_
    refine Held.done (by decide +kernel) ?_
    refine Kw.then_normal (wp_seq (wp_seq (Kw.region ?_)))
    refine KS.p (.bool true) ?_
    refine KS.p (.pointer (some ⟨B1, 1, none⟩)) ?_
    refine KS.l 3 B1 1 (.int .i64 (s rd)) M15 3 Try.underlying3 ?_
    refine KS.p (.agg #[.bool true, .int .i64 7, .int .i64 (s rd)]) ?_
    refine KS.p (.bool true) ?_
    refine KS.p (.pointer (some ⟨B1, 2, none⟩)) ?_
    refine KS.l 3 B1 2 (.int .i64 (s rs1)) M15 3 Try.underlying3 ?_
    refine KS.p (.agg #[.bool true, .int .i64 15, .int .i64 (s rs1)]) ?_
    refine KS.p (.bool false) ?_
    refine KS.p (.pointer (some ⟨B1, 3, none⟩)) ?_
    refine KS.l 3 B1 3 (.int .i64 (s rs2)) M15 3 Try.underlying3 ?_
    refine KS.p (.agg #[.bool false, .int .i64 20, .int .i64 (s rs2)]) ?_
    refine KS.p (.agg #[.bool true, .int .i64 7, .int .i64 (s rd), .bool true, .int .i64 15, .int .i64 (s rs1), .bool false, .int .i64 20, .int .i64 (s rs2)]) ?_
    refine KS.p (.int .i64 0) ?_
    refine Kw.fin (Kw.then_normal (wp_block ?_))
    refine wp_loop_rounds 4 ?_
    refine Kw.round_succ (wp_seq (Kw.region ?_))
    refine KS.p (.bool true) ?_
    refine Kw.fin (Kw.then_normal (wp_seq ?_))
    refine wp_cond_true (by kernel_rfl) ?_
    refine wp_skip (Kw.then_normal (wp_seq (wp_block (wp_seq (Kw.region ?_)))))
    refine KS.p (.agg #[.bool true, .int .i64 7, .int .i64 (s rd)]) ?_
    refine Kw.alloc #[.bool false, .int .i64 0, .int .i64 0] 72 M15 (by kernel_rfl) (by kernel_rfl) fun w16 B16 M16 => ?_
    refine Kw.storeAll 0 72 #[.bool true, .int .i64 7, .int .i64 (s rd)] M16 rfl (by kernel_rfl) (by kernel_rfl) (Eq.trans (b := 3) (by kernel_rfl) (by kernel_rfl)) (by kernel_rfl) (by kernel_rfl) fun w17 M17 => ?_
    refine KS.n5 ?_
    refine KS.p (.pointer (some ⟨B16, 0, none⟩)) ?_
    refine KS.l 4 B16 0 (.bool true) M17 0 Try.underlying4 ?_
    refine KS.p (.bool true) ?_
    refine KS.p (.pointer (some ⟨B16, 2, none⟩)) ?_
    refine KS.l 3 B16 2 (.int .i64 (s rd)) M17 0 Try.underlying3 ?_
    refine KS.c (.bool F1) 47 #[.int .i64 (s rd), .int .i64 5, .bool false] M17 (by have h := fits_c rd 5 false w17; rw [g1] at h; exact h) fun w18 M18 => ?_
    refine KS.p (.bool (!F1)) ?_
    refine KS.p (.bool (!F1)) ?_
    refine KS.n2 ?_
    refine wp_cond_split (t := (!F1)) (by kernel_rfl) (fun h19 => ?_) (fun h19 => ?_)
    · skip
      have h20 : (F1) = false := Kw.not_true h19
      refine wp_seq (Kw.region ?_)
      refine KS.p (.int .u32 0) ?_
      refine KS.p (.bool false) ?_
      refine Kw.fin (Kw.then_normal (wp_ret (Kw.then_ret (Kw.block_ret (Kw.then_ret (Kw.then_ret (Kw.block_ret (Kw.then_ret ?_))))))))
      exact bodyPost_ret (v := .tuple #[.int .u32 0, .bool false]) (by kernel_rfl) (by kernel_rfl) ⟨by simp_all [encR], M18.drop⟩
    · skip
      have h21 : (F1) = true := Kw.not_false h19
      refine wp_skip (Kw.then_normal (wp_seq (Kw.region ?_)))
      refine KS.p (.pointer (some ⟨B16, 0, none⟩)) ?_
      refine KS.l 4 B16 0 (.bool true) M18 0 Try.underlying4 ?_
      refine KS.n2 ?_
      refine wp_cond_true (by kernel_rfl) ?_
      refine Kw.region ?_
      refine KS.p (.int .u64 (u (putI (putI (putI 0#64 0 7 (cd k)) 12 3 (ff k)) 20 12 (getI imm 0 12)))) ?_
      refine KS.p (.pointer (some ⟨B16, 1, none⟩)) ?_
      refine KS.l 3 B16 1 (.int .i64 7) M18 0 Try.underlying3 ?_
      refine KS.p (.pointer (some ⟨B16, 2, none⟩)) ?_
      refine KS.l 3 B16 2 (.int .i64 (s rd)) M18 0 Try.underlying3 ?_
      refine Kw.pure (.int .u64 (u rd)) (by kernel_rfl) (Kw.eqv (v := .int .u64 (IntKind.u64.wrap (s rd))) (by kernel_rfl) (congrArg (Value.int .u64) (wrap_s rd))) ?_
      refine KS.c (.int .u64 (u (putI (putI (putI (putI 0#64 0 7 (cd k)) 12 3 (ff k)) 20 12 (getI imm 0 12)) 7 5 rd))) 48 #[.int .u64 (u (putI (putI (putI 0#64 0 7 (cd k)) 12 3 (ff k)) 20 12 (getI imm 0 12))), .int .i64 7, .int .i64 5, .int .u64 (u rd)] M18 (put_c (putI (putI (putI 0#64 0 7 (cd k)) 12 3 (ff k)) 20 12 (getI imm 0 12)) 7 5 rd w18) fun w22 M22 => ?_
      refine KS.p (.int .u64 (u (putI (putI (putI (putI 0#64 0 7 (cd k)) 12 3 (ff k)) 20 12 (getI imm 0 12)) 7 5 rd))) ?_
      refine Kw.fin (Kw.block_normal (Kw.then_normal (Kw.region ?_)))
      refine KS.p (.int .i64 1) ?_
      refine KS.p (.int .i64 1) ?_
      refine Kw.fin (Kw.then_normal (Kw.round_succ (wp_seq (Kw.region ?_))))
      refine KS.p (.bool true) ?_
      refine Kw.fin (Kw.then_normal (wp_seq ?_))
      refine wp_cond_true (by kernel_rfl) ?_
      refine wp_skip (Kw.then_normal (wp_seq (wp_block (wp_seq (Kw.region ?_)))))
      refine KS.p (.agg #[.bool true, .int .i64 15, .int .i64 (s rs1)]) ?_
      refine Kw.alloc #[.bool false, .int .i64 0, .int .i64 0] 72 M22 (by kernel_rfl) (by kernel_rfl) fun w23 B23 M23 => ?_
      refine Kw.storeAll 0 72 #[.bool true, .int .i64 15, .int .i64 (s rs1)] M23 rfl (by kernel_rfl) (by kernel_rfl) (Eq.trans (b := 3) (by kernel_rfl) (by kernel_rfl)) (by kernel_rfl) (by kernel_rfl) fun w24 M24 => ?_
      refine KS.n5 ?_
      refine KS.p (.pointer (some ⟨B23, 0, none⟩)) ?_
      refine KS.l 4 B23 0 (.bool true) M24 0 Try.underlying4 ?_
      refine KS.p (.bool true) ?_
      refine KS.p (.pointer (some ⟨B23, 2, none⟩)) ?_
      refine KS.l 3 B23 2 (.int .i64 (s rs1)) M24 0 Try.underlying3 ?_
      refine KS.c (.bool F2) 47 #[.int .i64 (s rs1), .int .i64 5, .bool false] M24 (by have h := fits_c rs1 5 false w24; rw [g2] at h; exact h) fun w25 M25 => ?_
      refine KS.p (.bool (!F2)) ?_
      refine KS.p (.bool (!F2)) ?_
      refine KS.n2 ?_
      refine wp_cond_split (t := (!F2)) (by kernel_rfl) (fun h26 => ?_) (fun h26 => ?_)
      · skip
        have h27 : (F2) = false := Kw.not_true h26
        refine wp_seq (Kw.region ?_)
        refine KS.p (.int .u32 0) ?_
        refine KS.p (.bool false) ?_
        refine Kw.fin (Kw.then_normal (wp_ret (Kw.then_ret (Kw.block_ret (Kw.then_ret (Kw.then_ret (Kw.block_ret (Kw.then_ret ?_))))))))
        exact bodyPost_ret (v := .tuple #[.int .u32 0, .bool false]) (by kernel_rfl) (by kernel_rfl) ⟨by simp_all [encR], M25.drop⟩
      · skip
        have h28 : (F2) = true := Kw.not_false h26
        refine wp_skip (Kw.then_normal (wp_seq (Kw.region ?_)))
        refine KS.p (.pointer (some ⟨B23, 0, none⟩)) ?_
        refine KS.l 4 B23 0 (.bool true) M25 0 Try.underlying4 ?_
        refine KS.n2 ?_
        refine wp_cond_true (by kernel_rfl) ?_
        refine Kw.region ?_
        refine KS.p (.int .u64 (u (putI (putI (putI (putI 0#64 0 7 (cd k)) 12 3 (ff k)) 20 12 (getI imm 0 12)) 7 5 rd))) ?_
        refine KS.p (.pointer (some ⟨B23, 1, none⟩)) ?_
        refine KS.l 3 B23 1 (.int .i64 15) M25 0 Try.underlying3 ?_
        refine KS.p (.pointer (some ⟨B23, 2, none⟩)) ?_
        refine KS.l 3 B23 2 (.int .i64 (s rs1)) M25 0 Try.underlying3 ?_
        refine Kw.pure (.int .u64 (u rs1)) (by kernel_rfl) (Kw.eqv (v := .int .u64 (IntKind.u64.wrap (s rs1))) (by kernel_rfl) (congrArg (Value.int .u64) (wrap_s rs1))) ?_
        refine KS.c (.int .u64 (u (putI (putI (putI (putI (putI 0#64 0 7 (cd k)) 12 3 (ff k)) 20 12 (getI imm 0 12)) 7 5 rd) 15 5 rs1))) 48 #[.int .u64 (u (putI (putI (putI (putI 0#64 0 7 (cd k)) 12 3 (ff k)) 20 12 (getI imm 0 12)) 7 5 rd)), .int .i64 15, .int .i64 5, .int .u64 (u rs1)] M25 (put_c (putI (putI (putI (putI 0#64 0 7 (cd k)) 12 3 (ff k)) 20 12 (getI imm 0 12)) 7 5 rd) 15 5 rs1 w25) fun w29 M29 => ?_
        refine KS.p (.int .u64 (u (putI (putI (putI (putI (putI 0#64 0 7 (cd k)) 12 3 (ff k)) 20 12 (getI imm 0 12)) 7 5 rd) 15 5 rs1))) ?_
        refine Kw.fin (Kw.block_normal (Kw.then_normal (Kw.region ?_)))
        refine KS.p (.int .i64 2) ?_
        refine KS.p (.int .i64 2) ?_
        refine Kw.fin (Kw.then_normal (Kw.round_succ (wp_seq (Kw.region ?_))))
        refine KS.p (.bool true) ?_
        refine Kw.fin (Kw.then_normal (wp_seq ?_))
        refine wp_cond_true (by kernel_rfl) ?_
        refine wp_skip (Kw.then_normal (wp_seq (wp_block (wp_seq (Kw.region ?_)))))
        refine KS.p (.agg #[.bool false, .int .i64 20, .int .i64 (s rs2)]) ?_
        refine Kw.alloc #[.bool false, .int .i64 0, .int .i64 0] 72 M29 (by kernel_rfl) (by kernel_rfl) fun w30 B30 M30 => ?_
        refine Kw.storeAll 0 72 #[.bool false, .int .i64 20, .int .i64 (s rs2)] M30 rfl (by kernel_rfl) (by kernel_rfl) (Eq.trans (b := 3) (by kernel_rfl) (by kernel_rfl)) (by kernel_rfl) (by kernel_rfl) fun w31 M31 => ?_
        refine KS.n5 ?_
        refine KS.p (.pointer (some ⟨B30, 0, none⟩)) ?_
        refine KS.l 4 B30 0 (.bool false) M31 0 Try.underlying4 ?_
        refine KS.p (.bool false) ?_
        refine KS.k ?_
        refine KS.k ?_
        refine KS.k ?_
        refine KS.k ?_
        refine KS.p (.bool false) ?_
        refine KS.n2 ?_
        refine wp_cond_false (by kernel_rfl) ?_
        refine wp_skip (Kw.then_normal (wp_seq (Kw.region ?_)))
        refine KS.p (.pointer (some ⟨B30, 0, none⟩)) ?_
        refine KS.l 4 B30 0 (.bool false) M31 0 Try.underlying4 ?_
        refine KS.n2 ?_
        refine wp_cond_false (by kernel_rfl) ?_
        refine wp_skip (Kw.block_normal (Kw.then_normal (Kw.region ?_)))
        refine KS.p (.int .i64 3) ?_
        refine KS.p (.int .i64 3) ?_
        refine Kw.fin (Kw.then_normal (Kw.round_succ (wp_seq (Kw.region ?_))))
        refine KS.p (.bool false) ?_
        refine Kw.fin (Kw.then_normal (wp_seq ?_))
        refine wp_cond_false (by kernel_rfl) ?_
        refine wp_exit (Kw.then_exit (Kw.then_exit (Kw.block_hit (Kw.then_normal (wp_seq (Kw.region ?_))))))
        refine KS.p (.int .u64 (u (putI (putI (putI (putI (putI 0#64 0 7 (cd k)) 12 3 (ff k)) 20 12 (getI imm 0 12)) 7 5 rd) 15 5 rs1))) ?_
        refine Kw.pure (.int .u32 (u ((putI (putI (putI (putI (putI 0#64 0 7 (cd k)) 12 3 (ff k)) 20 12 (getI imm 0 12)) 7 5 rd) 15 5 rs1) &&& 4294967295#64))) (by kernel_rfl) (Kw.eqv (v := .int .u32 (IntKind.u32.wrap (u (putI (putI (putI (putI (putI 0#64 0 7 (cd k)) 12 3 (ff k)) 20 12 (getI imm 0 12)) 7 5 rd) 15 5 rs1)))) (by kernel_rfl) (congrArg (Value.int .u32) (wrap32_u (putI (putI (putI (putI (putI 0#64 0 7 (cd k)) 12 3 (ff k)) 20 12 (getI imm 0 12)) 7 5 rd) 15 5 rs1)))) ?_
        refine KS.p (.int .u32 (u ((putI (putI (putI (putI (putI 0#64 0 7 (cd k)) 12 3 (ff k)) 20 12 (getI imm 0 12)) 7 5 rd) 15 5 rs1) &&& 4294967295#64))) ?_
        refine KS.p (.bool true) ?_
        refine Kw.fin (Kw.then_normal (wp_ret ?_))
        exact bodyPost_ret (v := .tuple #[.int .u32 (u ((putI (putI (putI (putI (putI 0#64 0 7 (cd k)) 12 3 (ff k)) 20 12 (getI imm 0 12)) 7 5 rd) 15 5 rs1) &&& 4294967295#64)), .bool true]) (by kernel_rfl) (by kernel_rfl) ⟨by simp_all [encR], M31.drop⟩
def word_C (k : Nat) (rd rs1 rs2 imm : BitVec 64) : BitVec 64 := (putI (putI (putI (putI (putI 0#64 0 7 (cd k)) 12 3 (ff k)) 20 12 (getI imm 0 12)) 7 5 rd) 15 5 rs1)
set_option maxRecDepth 100000 in
set_option maxHeartbeats 1000000 in
theorem enc_C (k : Nat) (hk : k < 69) (hs : sh k = 67) (rd rs1 rs2 imm : BitVec 64) (F0 : Bool) (h0 : fitB_C imm = F0) (F1 : Bool) (g1 : fitsI rd 5 false = F1) (F2 : Bool) (g2 : fitsI rs1 5 false = F2) (W : World) : Calls Try.prog 25 #[.agg #[.int .i64 ((k + 1 : Nat) : Int), .int .i64 (s rd), .int .i64 (s rs1), .int .i64 (s rs2), .int .i64 (s imm)]] W fun e W' => e = .returned (encR (F0 && F1 && F2) (word_C k rd rs1 rs2 imm)) ∧ Kw.Mem [] W W' [] := by
  unfold word_C
  refine calls_of_wp Try.func25 rfl ?_
  have M0 : Kw.Mem [] W W [] := Kw.Mem.start _ _
  refine Kw.to (b := ⟨#[.agg #[.int .i64 ((k + 1 : Nat) : Int), .int .i64 (s rd), .int .i64 (s rs1), .int .i64 (s rs2), .int .i64 (s imm)], undef, undef, undef, undef, undef, undef, undef, undef, undef, undef, undef, undef, undef, undef, undef, undef, undef, undef, undef, undef, undef, undef, undef, undef, undef, undef, undef, undef, undef, undef, undef, undef, undef, undef, undef, undef, undef, undef, undef, undef, undef, undef, undef, undef, undef, undef, undef, undef, undef, undef, undef, undef, undef, undef, undef, undef, undef, undef, undef, undef, undef, undef, undef, undef, undef, undef, undef, undef, undef, undef, undef, undef, undef, undef, undef, undef, undef, undef, undef, undef, undef, undef, undef, undef], []⟩) (by kernel_rfl) ?_
  refine wp_seq (Kw.region ?_)
  refine Kw.alloc #[.int .i64 ((k + 1 : Nat) : Int), .int .i64 (s rd), .int .i64 (s rs1), .int .i64 (s rs2), .int .i64 (s imm)] 36 M0 (by kernel_rfl) (by kernel_rfl) fun w1 B1 M1 => ?_
  refine KS.p (.int .u32 0) ?_
  refine KS.p (.bool false) ?_
  refine KS.n4 ?_
  refine KS.p (.pointer (some ⟨B1, 0, none⟩)) ?_
  refine KS.l 3 B1 0 (.int .i64 ((k + 1 : Nat) : Int)) M1 0 Try.underlying3 ?_
  refine KS.c (.tuple #[.agg #[.string (nm k), .int .u8 67, .int .u64 (u (cd k)), .int .u64 (u (ff k)), .int .u64 (u (ot k))], .bool true]) 41 #[.int .i64 ((k + 1 : Nat) : Int)] M1 (of_sh 67 k hk hs w1) fun w2 M2 => ?_
  refine KS.p (.tuple #[.agg #[.string (nm k), .int .u8 67, .int .u64 (u (cd k)), .int .u64 (u (ff k)), .int .u64 (u (ot k))], .bool true]) ?_
  refine KS.p (.agg #[.string (nm k), .int .u8 67, .int .u64 (u (cd k)), .int .u64 (u (ff k)), .int .u64 (u (ot k))]) ?_
  refine KS.p (.bool true) ?_
  refine Kw.alloc #[.string ⟨#[]⟩, .int .u8 0, .int .u64 0, .int .u64 0, .int .u64 0] 59 M2 (by kernel_rfl) (by kernel_rfl) fun w3 B3 M3 => ?_
  refine Kw.storeAll 0 59 #[.string (nm k), .int .u8 67, .int .u64 (u (cd k)), .int .u64 (u (ff k)), .int .u64 (u (ot k))] M3 rfl (by kernel_rfl) (by kernel_rfl) (Eq.trans (b := 5) (by kernel_rfl) (by kernel_rfl)) (by kernel_rfl) (by kernel_rfl) fun w4 M4 => ?_
  refine KS.p (.bool true) ?_
  refine Kw.fin (Kw.then_normal (wp_seq (wp_seq ?_)))
  refine Held.start (fun w => Kw.Mem [] W w [(B3, #[.string (nm k), .int .u8 67, .int .u64 (u (cd k)), .int .u64 (u (ff k)), .int .u64 (u (ot k))], 59), (B1, #[.int .i64 ((k + 1 : Nat) : Int), .int .i64 (s rd), .int .i64 (s rs1), .int .i64 (s rs2), .int .i64 (s imm)], 36)]) (by kernel_rfl) ?_
  have M5 := M4.drew
  have MS := M5
  refine KS.hp 0 (.bool true) MS ?_
  refine KS.hp 1 (.bool false) MS ?_
  refine KS.hp 2 (.bool false) MS ?_
  refine KS.hp 3 (.pointer (some ⟨B3, 1, none⟩)) MS ?_
  refine Held.take 4 (Canon.ldS 5 (.pointer (some ⟨B3, 1, none⟩))) (.int .u8 67) rfl (by decide +kernel) (by decide +kernel) (by decide +kernel) (by kernel_rfl) (by kernel_rfl) (fun w hw => Kw.ld_cell 5 1 (.int .u8 67) (hw.get 0 rfl) (by kernel_rfl) _ Try.underlying5 rfl) MS ?_
  refine KS.hp 6 (.pointer (some ⟨B1, 4, none⟩)) MS ?_
  refine Held.take 7 (Canon.ldS 2 (.pointer (some ⟨B1, 4, none⟩))) (.int .i64 (s imm)) rfl (by decide +kernel) (by decide +kernel) (by decide +kernel) (by kernel_rfl) (by kernel_rfl) (fun w hw => Kw.ld_cell 2 4 (.int .i64 (s imm)) (hw.get 1 rfl) (by kernel_rfl) _ Try.underlying2 rfl) MS ?_
  refine Held.oneCall (ι := Nat) 5 (fun B => (.agg #[.slice (some ⟨B, 0, none⟩) 1 1, .int .i64 12, .bool false, .int .i64 0])) 42 #[.int .u8 67] (R := fun B w1 => Kw.Mem [] (w4.drew) w1 [(B, #[.int .i64 0, .int .i64 12, .int .i64 20], 89)]) rfl (by decide +kernel) (by kernel_rfl) (by kernel_rfl) (laid_C (w4.drew)) fun B6 w6 hc => ?_
  have M6 := Held.mem_new M5 hc
  clear hc
  refine ⟨(Held.mem_tail M6), ?_⟩
  have MS := (Held.mem_tail M6)
  refine Held.oneCall (ι := Unit) 8 (fun _ => (.bool F0)) 43 #[.agg #[.slice (some ⟨B6, 0, none⟩) 1 1, .int .i64 12, .bool false, .int .i64 0], .int .i64 (s imm)] (R := fun _ w1 => Kw.Mem [] w6 w1 []) rfl (by decide +kernel) (by kernel_rfl) (by kernel_rfl) (Held.unit (by have h := fit_C imm w6 B6 (Held.mem_of M6 0 rfl); rw [h0] at h; exact h)) fun _ w7 hc => ?_
  have M7 := M6.call hc
  clear hc
  refine ⟨(Held.mem_tail M7), ?_⟩
  have MS := (Held.mem_tail M7)
  refine KS.hp 9 (.bool (!F0)) MS ?_
  refine KS.hp 10 (.bool (!F0)) MS ?_
  refine Held.done (by decide +kernel) ?_
  refine Kw.then_normal ?_
  refine wp_cond_split (t := (!F0)) (by kernel_rfl) (fun h8 => ?_) (fun h8 => ?_)
  · skip
    have h9 : (F0) = false := Kw.not_true h8
    refine wp_seq (Kw.region ?_)
    refine KS.p (.int .u32 0) ?_
    refine KS.p (.bool false) ?_
    refine Kw.fin (Kw.then_normal (wp_ret (Kw.then_ret ?_)))
    exact bodyPost_ret (v := .tuple #[.int .u32 0, .bool false]) (by kernel_rfl) (by kernel_rfl) ⟨by simp_all [encR], M7.drop⟩
  · skip
    have h10 : (F0) = true := Kw.not_false h8
    refine wp_skip (Kw.then_normal (wp_seq (Kw.region ?_)))
    refine KS.la 59 B3 _ M7 1 Try.underlying59 ?_
    refine KS.c (.tuple #[.int .u64 (u (putI (putI 0#64 0 7 (cd k)) 12 3 (ff k))), .int .u64 (u (putI (putI 0#64 0 7 18446744073709551615#64) 12 3 18446744073709551615#64))]) 44 #[.agg #[.string (nm k), .int .u8 67, .int .u64 (u (cd k)), .int .u64 (u (ff k)), .int .u64 (u (ot k))]] M7 (fixed_C (nm k) (cd k) (ff k) (ot k) w7) fun w11 M11 => ?_
    refine KS.p (.tuple #[.int .u64 (u (putI (putI 0#64 0 7 (cd k)) 12 3 (ff k))), .int .u64 (u (putI (putI 0#64 0 7 18446744073709551615#64) 12 3 18446744073709551615#64))]) ?_
    refine KS.p (.int .u64 (u (putI (putI 0#64 0 7 (cd k)) 12 3 (ff k)))) ?_
    refine KS.p (.int .u64 (u (putI (putI 0#64 0 7 18446744073709551615#64) 12 3 18446744073709551615#64))) ?_
    refine KS.p (.int .u64 (u (putI (putI 0#64 0 7 (cd k)) 12 3 (ff k)))) ?_
    refine KS.p (.int .u64 (u (putI (putI 0#64 0 7 18446744073709551615#64) 12 3 18446744073709551615#64))) ?_
    refine KS.n4 ?_
    refine KS.p (.pointer (some ⟨B3, 1, none⟩)) ?_
    refine KS.l 5 B3 1 (.int .u8 67) M11 1 Try.underlying5 ?_
    refine KS.c (.tuple #[.bool true, .bool true, .bool false]) 45 #[.int .u8 67] M11 (has_C w11) fun w12 M12 => ?_
    refine KS.p (.tuple #[.bool true, .bool true, .bool false]) ?_
    refine KS.p (.bool true) ?_
    refine KS.p (.bool true) ?_
    refine KS.p (.bool false) ?_
    refine KS.p (.bool true) ?_
    refine KS.p (.bool true) ?_
    refine KS.p (.bool false) ?_
    refine Kw.fin (Kw.then_normal (wp_seq ?_))
    refine Held.start (fun w => Kw.Mem [] W w [(B6, #[.int .i64 0, .int .i64 12, .int .i64 20], 89), (B3, #[.string (nm k), .int .u8 67, .int .u64 (u (cd k)), .int .u64 (u (ff k)), .int .u64 (u (ot k))], 59), (B1, #[.int .i64 ((k + 1 : Nat) : Int), .int .i64 (s rd), .int .i64 (s rs1), .int .i64 (s rs2), .int .i64 (s imm)], 36)]) (by kernel_rfl) ?_
    have M13 := M12.drew
    have MS := M13
    refine KS.hp 0 (.pointer (some ⟨B3, 1, none⟩)) MS ?_
    refine Held.take 1 (Canon.ldS 5 (.pointer (some ⟨B3, 1, none⟩))) (.int .u8 67) rfl (by decide +kernel) (by decide +kernel) (by decide +kernel) (by kernel_rfl) (by kernel_rfl) (fun w hw => Kw.ld_cell 5 1 (.int .u8 67) (hw.get 1 rfl) (by kernel_rfl) _ Try.underlying5 rfl) MS ?_
    refine KS.hp 3 (.int .u64 (u (putI (putI 0#64 0 7 (cd k)) 12 3 (ff k)))) MS ?_
    refine KS.hp 4 (.pointer (some ⟨B1, 4, none⟩)) MS ?_
    refine Held.take 5 (Canon.ldS 2 (.pointer (some ⟨B1, 4, none⟩))) (.int .i64 (s imm)) rfl (by decide +kernel) (by decide +kernel) (by decide +kernel) (by kernel_rfl) (by kernel_rfl) (fun w hw => Kw.ld_cell 2 4 (.int .i64 (s imm)) (hw.get 2 rfl) (by kernel_rfl) _ Try.underlying2 rfl) MS ?_
    refine Held.oneCall (ι := Nat) 2 (fun B => (.agg #[.slice (some ⟨B, 0, none⟩) 1 1, .int .i64 12, .bool false, .int .i64 0])) 42 #[.int .u8 67] (R := fun B w1 => Kw.Mem [] (w12.drew) w1 [(B, #[.int .i64 0, .int .i64 12, .int .i64 20], 89)]) rfl (by decide +kernel) (by kernel_rfl) (by kernel_rfl) (laid_C (w12.drew)) fun B14 w14 hc => ?_
    have M14 := Held.mem_new M13 hc
    clear hc
    refine ⟨(Held.mem_tail M14), ?_⟩
    have MS := (Held.mem_tail M14)
    refine Held.oneCall (ι := Unit) 6 (fun _ => (.int .u64 (u (putI (putI (putI 0#64 0 7 (cd k)) 12 3 (ff k)) 20 12 (getI imm 0 12))))) 46 #[.agg #[.slice (some ⟨B14, 0, none⟩) 1 1, .int .i64 12, .bool false, .int .i64 0], .int .u64 (u (putI (putI 0#64 0 7 (cd k)) 12 3 (ff k))), .int .i64 (s imm)] (R := fun _ w1 => Kw.Mem [] w14 w1 []) rfl (by decide +kernel) (by kernel_rfl) (by kernel_rfl) (Held.unit (lay_C (putI (putI 0#64 0 7 (cd k)) 12 3 (ff k)) imm w14 B14 (Held.mem_of M14 0 rfl))) fun _ w15 hc => ?_
    have M15 := M14.call hc
    clear hc
    refine ⟨(Held.mem_tail M15), ?_⟩
    have MS := (Held.mem_tail M15)
    refine KS.hp 7 (.int .u64 (u (putI (putI (putI 0#64 0 7 (cd k)) 12 3 (ff k)) 20 12 (getI imm 0 12)))) MS ?_
    refine Held.done (by decide +kernel) ?_
    refine Kw.then_normal (wp_seq (wp_seq (Kw.region ?_)))
    refine KS.p (.bool true) ?_
    refine KS.p (.pointer (some ⟨B1, 1, none⟩)) ?_
    refine KS.l 3 B1 1 (.int .i64 (s rd)) M15 3 Try.underlying3 ?_
    refine KS.p (.agg #[.bool true, .int .i64 7, .int .i64 (s rd)]) ?_
    refine KS.p (.bool true) ?_
    refine KS.p (.pointer (some ⟨B1, 2, none⟩)) ?_
    refine KS.l 3 B1 2 (.int .i64 (s rs1)) M15 3 Try.underlying3 ?_
    refine KS.p (.agg #[.bool true, .int .i64 15, .int .i64 (s rs1)]) ?_
    refine KS.p (.bool false) ?_
    refine KS.p (.pointer (some ⟨B1, 3, none⟩)) ?_
    refine KS.l 3 B1 3 (.int .i64 (s rs2)) M15 3 Try.underlying3 ?_
    refine KS.p (.agg #[.bool false, .int .i64 20, .int .i64 (s rs2)]) ?_
    refine KS.p (.agg #[.bool true, .int .i64 7, .int .i64 (s rd), .bool true, .int .i64 15, .int .i64 (s rs1), .bool false, .int .i64 20, .int .i64 (s rs2)]) ?_
    refine KS.p (.int .i64 0) ?_
    refine Kw.fin (Kw.then_normal (wp_block ?_))
    refine wp_loop_rounds 4 ?_
    refine Kw.round_succ (wp_seq (Kw.region ?_))
    refine KS.p (.bool true) ?_
    refine Kw.fin (Kw.then_normal (wp_seq ?_))
    refine wp_cond_true (by kernel_rfl) ?_
    refine wp_skip (Kw.then_normal (wp_seq (wp_block (wp_seq (Kw.region ?_)))))
    refine KS.p (.agg #[.bool true, .int .i64 7, .int .i64 (s rd)]) ?_
    refine Kw.alloc #[.bool false, .int .i64 0, .int .i64 0] 72 M15 (by kernel_rfl) (by kernel_rfl) fun w16 B16 M16 => ?_
    refine Kw.storeAll 0 72 #[.bool true, .int .i64 7, .int .i64 (s rd)] M16 rfl (by kernel_rfl) (by kernel_rfl) (Eq.trans (b := 3) (by kernel_rfl) (by kernel_rfl)) (by kernel_rfl) (by kernel_rfl) fun w17 M17 => ?_
    refine KS.n5 ?_
    refine KS.p (.pointer (some ⟨B16, 0, none⟩)) ?_
    refine KS.l 4 B16 0 (.bool true) M17 0 Try.underlying4 ?_
    refine KS.p (.bool true) ?_
    refine KS.p (.pointer (some ⟨B16, 2, none⟩)) ?_
    refine KS.l 3 B16 2 (.int .i64 (s rd)) M17 0 Try.underlying3 ?_
    refine KS.c (.bool F1) 47 #[.int .i64 (s rd), .int .i64 5, .bool false] M17 (by have h := fits_c rd 5 false w17; rw [g1] at h; exact h) fun w18 M18 => ?_
    refine KS.p (.bool (!F1)) ?_
    refine KS.p (.bool (!F1)) ?_
    refine KS.n2 ?_
    refine wp_cond_split (t := (!F1)) (by kernel_rfl) (fun h19 => ?_) (fun h19 => ?_)
    · skip
      have h20 : (F1) = false := Kw.not_true h19
      refine wp_seq (Kw.region ?_)
      refine KS.p (.int .u32 0) ?_
      refine KS.p (.bool false) ?_
      refine Kw.fin (Kw.then_normal (wp_ret (Kw.then_ret (Kw.block_ret (Kw.then_ret (Kw.then_ret (Kw.block_ret (Kw.then_ret ?_))))))))
      exact bodyPost_ret (v := .tuple #[.int .u32 0, .bool false]) (by kernel_rfl) (by kernel_rfl) ⟨by simp_all [encR], M18.drop⟩
    · skip
      have h21 : (F1) = true := Kw.not_false h19
      refine wp_skip (Kw.then_normal (wp_seq (Kw.region ?_)))
      refine KS.p (.pointer (some ⟨B16, 0, none⟩)) ?_
      refine KS.l 4 B16 0 (.bool true) M18 0 Try.underlying4 ?_
      refine KS.n2 ?_
      refine wp_cond_true (by kernel_rfl) ?_
      refine Kw.region ?_
      refine KS.p (.int .u64 (u (putI (putI (putI 0#64 0 7 (cd k)) 12 3 (ff k)) 20 12 (getI imm 0 12)))) ?_
      refine KS.p (.pointer (some ⟨B16, 1, none⟩)) ?_
      refine KS.l 3 B16 1 (.int .i64 7) M18 0 Try.underlying3 ?_
      refine KS.p (.pointer (some ⟨B16, 2, none⟩)) ?_
      refine KS.l 3 B16 2 (.int .i64 (s rd)) M18 0 Try.underlying3 ?_
      refine Kw.pure (.int .u64 (u rd)) (by kernel_rfl) (Kw.eqv (v := .int .u64 (IntKind.u64.wrap (s rd))) (by kernel_rfl) (congrArg (Value.int .u64) (wrap_s rd))) ?_
      refine KS.c (.int .u64 (u (putI (putI (putI (putI 0#64 0 7 (cd k)) 12 3 (ff k)) 20 12 (getI imm 0 12)) 7 5 rd))) 48 #[.int .u64 (u (putI (putI (putI 0#64 0 7 (cd k)) 12 3 (ff k)) 20 12 (getI imm 0 12))), .int .i64 7, .int .i64 5, .int .u64 (u rd)] M18 (put_c (putI (putI (putI 0#64 0 7 (cd k)) 12 3 (ff k)) 20 12 (getI imm 0 12)) 7 5 rd w18) fun w22 M22 => ?_
      refine KS.p (.int .u64 (u (putI (putI (putI (putI 0#64 0 7 (cd k)) 12 3 (ff k)) 20 12 (getI imm 0 12)) 7 5 rd))) ?_
      refine Kw.fin (Kw.block_normal (Kw.then_normal (Kw.region ?_)))
      refine KS.p (.int .i64 1) ?_
      refine KS.p (.int .i64 1) ?_
      refine Kw.fin (Kw.then_normal (Kw.round_succ (wp_seq (Kw.region ?_))))
      refine KS.p (.bool true) ?_
      refine Kw.fin (Kw.then_normal (wp_seq ?_))
      refine wp_cond_true (by kernel_rfl) ?_
      refine wp_skip (Kw.then_normal (wp_seq (wp_block (wp_seq (Kw.region ?_)))))
      refine KS.p (.agg #[.bool true, .int .i64 15, .int .i64 (s rs1)]) ?_
      refine Kw.alloc #[.bool false, .int .i64 0, .int .i64 0] 72 M22 (by kernel_rfl) (by kernel_rfl) fun w23 B23 M23 => ?_
      refine Kw.storeAll 0 72 #[.bool true, .int .i64 15, .int .i64 (s rs1)] M23 rfl (by kernel_rfl) (by kernel_rfl) (Eq.trans (b := 3) (by kernel_rfl) (by kernel_rfl)) (by kernel_rfl) (by kernel_rfl) fun w24 M24 => ?_
      refine KS.n5 ?_
      refine KS.p (.pointer (some ⟨B23, 0, none⟩)) ?_
      refine KS.l 4 B23 0 (.bool true) M24 0 Try.underlying4 ?_
      refine KS.p (.bool true) ?_
      refine KS.p (.pointer (some ⟨B23, 2, none⟩)) ?_
      refine KS.l 3 B23 2 (.int .i64 (s rs1)) M24 0 Try.underlying3 ?_
      refine KS.c (.bool F2) 47 #[.int .i64 (s rs1), .int .i64 5, .bool false] M24 (by have h := fits_c rs1 5 false w24; rw [g2] at h; exact h) fun w25 M25 => ?_
      refine KS.p (.bool (!F2)) ?_
      refine KS.p (.bool (!F2)) ?_
      refine KS.n2 ?_
      refine wp_cond_split (t := (!F2)) (by kernel_rfl) (fun h26 => ?_) (fun h26 => ?_)
      · skip
        have h27 : (F2) = false := Kw.not_true h26
        refine wp_seq (Kw.region ?_)
        refine KS.p (.int .u32 0) ?_
        refine KS.p (.bool false) ?_
        refine Kw.fin (Kw.then_normal (wp_ret (Kw.then_ret (Kw.block_ret (Kw.then_ret (Kw.then_ret (Kw.block_ret (Kw.then_ret ?_))))))))
        exact bodyPost_ret (v := .tuple #[.int .u32 0, .bool false]) (by kernel_rfl) (by kernel_rfl) ⟨by simp_all [encR], M25.drop⟩
      · skip
        have h28 : (F2) = true := Kw.not_false h26
        refine wp_skip (Kw.then_normal (wp_seq (Kw.region ?_)))
        refine KS.p (.pointer (some ⟨B23, 0, none⟩)) ?_
        refine KS.l 4 B23 0 (.bool true) M25 0 Try.underlying4 ?_
        refine KS.n2 ?_
        refine wp_cond_true (by kernel_rfl) ?_
        refine Kw.region ?_
        refine KS.p (.int .u64 (u (putI (putI (putI (putI 0#64 0 7 (cd k)) 12 3 (ff k)) 20 12 (getI imm 0 12)) 7 5 rd))) ?_
        refine KS.p (.pointer (some ⟨B23, 1, none⟩)) ?_
        refine KS.l 3 B23 1 (.int .i64 15) M25 0 Try.underlying3 ?_
        refine KS.p (.pointer (some ⟨B23, 2, none⟩)) ?_
        refine KS.l 3 B23 2 (.int .i64 (s rs1)) M25 0 Try.underlying3 ?_
        refine Kw.pure (.int .u64 (u rs1)) (by kernel_rfl) (Kw.eqv (v := .int .u64 (IntKind.u64.wrap (s rs1))) (by kernel_rfl) (congrArg (Value.int .u64) (wrap_s rs1))) ?_
        refine KS.c (.int .u64 (u (putI (putI (putI (putI (putI 0#64 0 7 (cd k)) 12 3 (ff k)) 20 12 (getI imm 0 12)) 7 5 rd) 15 5 rs1))) 48 #[.int .u64 (u (putI (putI (putI (putI 0#64 0 7 (cd k)) 12 3 (ff k)) 20 12 (getI imm 0 12)) 7 5 rd)), .int .i64 15, .int .i64 5, .int .u64 (u rs1)] M25 (put_c (putI (putI (putI (putI 0#64 0 7 (cd k)) 12 3 (ff k)) 20 12 (getI imm 0 12)) 7 5 rd) 15 5 rs1 w25) fun w29 M29 => ?_
        refine KS.p (.int .u64 (u (putI (putI (putI (putI (putI 0#64 0 7 (cd k)) 12 3 (ff k)) 20 12 (getI imm 0 12)) 7 5 rd) 15 5 rs1))) ?_
        refine Kw.fin (Kw.block_normal (Kw.then_normal (Kw.region ?_)))
        refine KS.p (.int .i64 2) ?_
        refine KS.p (.int .i64 2) ?_
        refine Kw.fin (Kw.then_normal (Kw.round_succ (wp_seq (Kw.region ?_))))
        refine KS.p (.bool true) ?_
        refine Kw.fin (Kw.then_normal (wp_seq ?_))
        refine wp_cond_true (by kernel_rfl) ?_
        refine wp_skip (Kw.then_normal (wp_seq (wp_block (wp_seq (Kw.region ?_)))))
        refine KS.p (.agg #[.bool false, .int .i64 20, .int .i64 (s rs2)]) ?_
        refine Kw.alloc #[.bool false, .int .i64 0, .int .i64 0] 72 M29 (by kernel_rfl) (by kernel_rfl) fun w30 B30 M30 => ?_
        refine Kw.storeAll 0 72 #[.bool false, .int .i64 20, .int .i64 (s rs2)] M30 rfl (by kernel_rfl) (by kernel_rfl) (Eq.trans (b := 3) (by kernel_rfl) (by kernel_rfl)) (by kernel_rfl) (by kernel_rfl) fun w31 M31 => ?_
        refine KS.n5 ?_
        refine KS.p (.pointer (some ⟨B30, 0, none⟩)) ?_
        refine KS.l 4 B30 0 (.bool false) M31 0 Try.underlying4 ?_
        refine KS.p (.bool false) ?_
        refine KS.k ?_
        refine KS.k ?_
        refine KS.k ?_
        refine KS.k ?_
        refine KS.p (.bool false) ?_
        refine KS.n2 ?_
        refine wp_cond_false (by kernel_rfl) ?_
        refine wp_skip (Kw.then_normal (wp_seq (Kw.region ?_)))
        refine KS.p (.pointer (some ⟨B30, 0, none⟩)) ?_
        refine KS.l 4 B30 0 (.bool false) M31 0 Try.underlying4 ?_
        refine KS.n2 ?_
        refine wp_cond_false (by kernel_rfl) ?_
        refine wp_skip (Kw.block_normal (Kw.then_normal (Kw.region ?_)))
        refine KS.p (.int .i64 3) ?_
        refine KS.p (.int .i64 3) ?_
        refine Kw.fin (Kw.then_normal (Kw.round_succ (wp_seq (Kw.region ?_))))
        refine KS.p (.bool false) ?_
        refine Kw.fin (Kw.then_normal (wp_seq ?_))
        refine wp_cond_false (by kernel_rfl) ?_
        refine wp_exit (Kw.then_exit (Kw.then_exit (Kw.block_hit (Kw.then_normal (wp_seq (Kw.region ?_))))))
        refine KS.p (.int .u64 (u (putI (putI (putI (putI (putI 0#64 0 7 (cd k)) 12 3 (ff k)) 20 12 (getI imm 0 12)) 7 5 rd) 15 5 rs1))) ?_
        refine Kw.pure (.int .u32 (u ((putI (putI (putI (putI (putI 0#64 0 7 (cd k)) 12 3 (ff k)) 20 12 (getI imm 0 12)) 7 5 rd) 15 5 rs1) &&& 4294967295#64))) (by kernel_rfl) (Kw.eqv (v := .int .u32 (IntKind.u32.wrap (u (putI (putI (putI (putI (putI 0#64 0 7 (cd k)) 12 3 (ff k)) 20 12 (getI imm 0 12)) 7 5 rd) 15 5 rs1)))) (by kernel_rfl) (congrArg (Value.int .u32) (wrap32_u (putI (putI (putI (putI (putI 0#64 0 7 (cd k)) 12 3 (ff k)) 20 12 (getI imm 0 12)) 7 5 rd) 15 5 rs1)))) ?_
        refine KS.p (.int .u32 (u ((putI (putI (putI (putI (putI 0#64 0 7 (cd k)) 12 3 (ff k)) 20 12 (getI imm 0 12)) 7 5 rd) 15 5 rs1) &&& 4294967295#64))) ?_
        refine KS.p (.bool true) ?_
        refine Kw.fin (Kw.then_normal (wp_ret ?_))
        exact bodyPost_ret (v := .tuple #[.int .u32 (u ((putI (putI (putI (putI (putI 0#64 0 7 (cd k)) 12 3 (ff k)) 20 12 (getI imm 0 12)) 7 5 rd) 15 5 rs1) &&& 4294967295#64)), .bool true]) (by kernel_rfl) (by kernel_rfl) ⟨by simp_all [encR], M31.drop⟩
def word_H (k : Nat) (rd rs1 rs2 imm : BitVec 64) : BitVec 64 := (putI (putI (putI (putI (putI (putI 0#64 0 7 (cd k)) 12 3 (ff k)) 26 6 (ot k)) 20 6 (getI imm 0 6)) 7 5 rd) 15 5 rs1)
set_option maxRecDepth 100000 in
set_option maxHeartbeats 1000000 in
theorem enc_H (k : Nat) (hk : k < 69) (hs : sh k = 72) (rd rs1 rs2 imm : BitVec 64) (F0 : Bool) (h0 : fitB_H imm = F0) (F1 : Bool) (g1 : fitsI rd 5 false = F1) (F2 : Bool) (g2 : fitsI rs1 5 false = F2) (W : World) : Calls Try.prog 25 #[.agg #[.int .i64 ((k + 1 : Nat) : Int), .int .i64 (s rd), .int .i64 (s rs1), .int .i64 (s rs2), .int .i64 (s imm)]] W fun e W' => e = .returned (encR (F0 && F1 && F2) (word_H k rd rs1 rs2 imm)) ∧ Kw.Mem [] W W' [] := by
  unfold word_H
  refine calls_of_wp Try.func25 rfl ?_
  have M0 : Kw.Mem [] W W [] := Kw.Mem.start _ _
  refine Kw.to (b := ⟨#[.agg #[.int .i64 ((k + 1 : Nat) : Int), .int .i64 (s rd), .int .i64 (s rs1), .int .i64 (s rs2), .int .i64 (s imm)], undef, undef, undef, undef, undef, undef, undef, undef, undef, undef, undef, undef, undef, undef, undef, undef, undef, undef, undef, undef, undef, undef, undef, undef, undef, undef, undef, undef, undef, undef, undef, undef, undef, undef, undef, undef, undef, undef, undef, undef, undef, undef, undef, undef, undef, undef, undef, undef, undef, undef, undef, undef, undef, undef, undef, undef, undef, undef, undef, undef, undef, undef, undef, undef, undef, undef, undef, undef, undef, undef, undef, undef, undef, undef, undef, undef, undef, undef, undef, undef, undef, undef, undef, undef], []⟩) (by kernel_rfl) ?_
  refine wp_seq (Kw.region ?_)
  refine Kw.alloc #[.int .i64 ((k + 1 : Nat) : Int), .int .i64 (s rd), .int .i64 (s rs1), .int .i64 (s rs2), .int .i64 (s imm)] 36 M0 (by kernel_rfl) (by kernel_rfl) fun w1 B1 M1 => ?_
  refine KS.p (.int .u32 0) ?_
  refine KS.p (.bool false) ?_
  refine KS.n4 ?_
  refine KS.p (.pointer (some ⟨B1, 0, none⟩)) ?_
  refine KS.l 3 B1 0 (.int .i64 ((k + 1 : Nat) : Int)) M1 0 Try.underlying3 ?_
  refine KS.c (.tuple #[.agg #[.string (nm k), .int .u8 72, .int .u64 (u (cd k)), .int .u64 (u (ff k)), .int .u64 (u (ot k))], .bool true]) 41 #[.int .i64 ((k + 1 : Nat) : Int)] M1 (of_sh 72 k hk hs w1) fun w2 M2 => ?_
  refine KS.p (.tuple #[.agg #[.string (nm k), .int .u8 72, .int .u64 (u (cd k)), .int .u64 (u (ff k)), .int .u64 (u (ot k))], .bool true]) ?_
  refine KS.p (.agg #[.string (nm k), .int .u8 72, .int .u64 (u (cd k)), .int .u64 (u (ff k)), .int .u64 (u (ot k))]) ?_
  refine KS.p (.bool true) ?_
  refine Kw.alloc #[.string ⟨#[]⟩, .int .u8 0, .int .u64 0, .int .u64 0, .int .u64 0] 59 M2 (by kernel_rfl) (by kernel_rfl) fun w3 B3 M3 => ?_
  refine Kw.storeAll 0 59 #[.string (nm k), .int .u8 72, .int .u64 (u (cd k)), .int .u64 (u (ff k)), .int .u64 (u (ot k))] M3 rfl (by kernel_rfl) (by kernel_rfl) (Eq.trans (b := 5) (by kernel_rfl) (by kernel_rfl)) (by kernel_rfl) (by kernel_rfl) fun w4 M4 => ?_
  refine KS.p (.bool true) ?_
  refine Kw.fin (Kw.then_normal (wp_seq (wp_seq ?_)))
  refine Held.start (fun w => Kw.Mem [] W w [(B3, #[.string (nm k), .int .u8 72, .int .u64 (u (cd k)), .int .u64 (u (ff k)), .int .u64 (u (ot k))], 59), (B1, #[.int .i64 ((k + 1 : Nat) : Int), .int .i64 (s rd), .int .i64 (s rs1), .int .i64 (s rs2), .int .i64 (s imm)], 36)]) (by kernel_rfl) ?_
  have M5 := M4.drew
  have MS := M5
  refine KS.hp 0 (.bool true) MS ?_
  refine KS.hp 1 (.bool false) MS ?_
  refine KS.hp 2 (.bool false) MS ?_
  refine KS.hp 3 (.pointer (some ⟨B3, 1, none⟩)) MS ?_
  refine Held.take 4 (Canon.ldS 5 (.pointer (some ⟨B3, 1, none⟩))) (.int .u8 72) rfl (by decide +kernel) (by decide +kernel) (by decide +kernel) (by kernel_rfl) (by kernel_rfl) (fun w hw => Kw.ld_cell 5 1 (.int .u8 72) (hw.get 0 rfl) (by kernel_rfl) _ Try.underlying5 rfl) MS ?_
  refine KS.hp 6 (.pointer (some ⟨B1, 4, none⟩)) MS ?_
  refine Held.take 7 (Canon.ldS 2 (.pointer (some ⟨B1, 4, none⟩))) (.int .i64 (s imm)) rfl (by decide +kernel) (by decide +kernel) (by decide +kernel) (by kernel_rfl) (by kernel_rfl) (fun w hw => Kw.ld_cell 2 4 (.int .i64 (s imm)) (hw.get 1 rfl) (by kernel_rfl) _ Try.underlying2 rfl) MS ?_
  refine Held.oneCall (ι := Nat) 5 (fun B => (.agg #[.slice (some ⟨B, 0, none⟩) 1 1, .int .i64 6, .bool false, .int .i64 0])) 42 #[.int .u8 72] (R := fun B w1 => Kw.Mem [] (w4.drew) w1 [(B, #[.int .i64 0, .int .i64 6, .int .i64 20], 89)]) rfl (by decide +kernel) (by kernel_rfl) (by kernel_rfl) (laid_H (w4.drew)) fun B6 w6 hc => ?_
  have M6 := Held.mem_new M5 hc
  clear hc
  refine ⟨(Held.mem_tail M6), ?_⟩
  have MS := (Held.mem_tail M6)
  refine Held.oneCall (ι := Unit) 8 (fun _ => (.bool F0)) 43 #[.agg #[.slice (some ⟨B6, 0, none⟩) 1 1, .int .i64 6, .bool false, .int .i64 0], .int .i64 (s imm)] (R := fun _ w1 => Kw.Mem [] w6 w1 []) rfl (by decide +kernel) (by kernel_rfl) (by kernel_rfl) (Held.unit (by have h := fit_H imm w6 B6 (Held.mem_of M6 0 rfl); rw [h0] at h; exact h)) fun _ w7 hc => ?_
  have M7 := M6.call hc
  clear hc
  refine ⟨(Held.mem_tail M7), ?_⟩
  have MS := (Held.mem_tail M7)
  refine KS.hp 9 (.bool (!F0)) MS ?_
  refine KS.hp 10 (.bool (!F0)) MS ?_
  refine Held.done (by decide +kernel) ?_
  refine Kw.then_normal ?_
  refine wp_cond_split (t := (!F0)) (by kernel_rfl) (fun h8 => ?_) (fun h8 => ?_)
  · skip
    have h9 : (F0) = false := Kw.not_true h8
    refine wp_seq (Kw.region ?_)
    refine KS.p (.int .u32 0) ?_
    refine KS.p (.bool false) ?_
    refine Kw.fin (Kw.then_normal (wp_ret (Kw.then_ret ?_)))
    exact bodyPost_ret (v := .tuple #[.int .u32 0, .bool false]) (by kernel_rfl) (by kernel_rfl) ⟨by simp_all [encR], M7.drop⟩
  · skip
    have h10 : (F0) = true := Kw.not_false h8
    refine wp_skip (Kw.then_normal (wp_seq (Kw.region ?_)))
    refine KS.la 59 B3 _ M7 1 Try.underlying59 ?_
    refine KS.c (.tuple #[.int .u64 (u (putI (putI (putI 0#64 0 7 (cd k)) 12 3 (ff k)) 26 6 (ot k))), .int .u64 (u (putI (putI (putI 0#64 0 7 18446744073709551615#64) 12 3 18446744073709551615#64) 26 6 18446744073709551615#64))]) 44 #[.agg #[.string (nm k), .int .u8 72, .int .u64 (u (cd k)), .int .u64 (u (ff k)), .int .u64 (u (ot k))]] M7 (fixed_H (nm k) (cd k) (ff k) (ot k) w7) fun w11 M11 => ?_
    refine KS.p (.tuple #[.int .u64 (u (putI (putI (putI 0#64 0 7 (cd k)) 12 3 (ff k)) 26 6 (ot k))), .int .u64 (u (putI (putI (putI 0#64 0 7 18446744073709551615#64) 12 3 18446744073709551615#64) 26 6 18446744073709551615#64))]) ?_
    refine KS.p (.int .u64 (u (putI (putI (putI 0#64 0 7 (cd k)) 12 3 (ff k)) 26 6 (ot k)))) ?_
    refine KS.p (.int .u64 (u (putI (putI (putI 0#64 0 7 18446744073709551615#64) 12 3 18446744073709551615#64) 26 6 18446744073709551615#64))) ?_
    refine KS.p (.int .u64 (u (putI (putI (putI 0#64 0 7 (cd k)) 12 3 (ff k)) 26 6 (ot k)))) ?_
    refine KS.p (.int .u64 (u (putI (putI (putI 0#64 0 7 18446744073709551615#64) 12 3 18446744073709551615#64) 26 6 18446744073709551615#64))) ?_
    refine KS.n4 ?_
    refine KS.p (.pointer (some ⟨B3, 1, none⟩)) ?_
    refine KS.l 5 B3 1 (.int .u8 72) M11 1 Try.underlying5 ?_
    refine KS.c (.tuple #[.bool true, .bool true, .bool false]) 45 #[.int .u8 72] M11 (has_H w11) fun w12 M12 => ?_
    refine KS.p (.tuple #[.bool true, .bool true, .bool false]) ?_
    refine KS.p (.bool true) ?_
    refine KS.p (.bool true) ?_
    refine KS.p (.bool false) ?_
    refine KS.p (.bool true) ?_
    refine KS.p (.bool true) ?_
    refine KS.p (.bool false) ?_
    refine Kw.fin (Kw.then_normal (wp_seq ?_))
    refine Held.start (fun w => Kw.Mem [] W w [(B6, #[.int .i64 0, .int .i64 6, .int .i64 20], 89), (B3, #[.string (nm k), .int .u8 72, .int .u64 (u (cd k)), .int .u64 (u (ff k)), .int .u64 (u (ot k))], 59), (B1, #[.int .i64 ((k + 1 : Nat) : Int), .int .i64 (s rd), .int .i64 (s rs1), .int .i64 (s rs2), .int .i64 (s imm)], 36)]) (by kernel_rfl) ?_
    have M13 := M12.drew
    have MS := M13
    refine KS.hp 0 (.pointer (some ⟨B3, 1, none⟩)) MS ?_
    refine Held.take 1 (Canon.ldS 5 (.pointer (some ⟨B3, 1, none⟩))) (.int .u8 72) rfl (by decide +kernel) (by decide +kernel) (by decide +kernel) (by kernel_rfl) (by kernel_rfl) (fun w hw => Kw.ld_cell 5 1 (.int .u8 72) (hw.get 1 rfl) (by kernel_rfl) _ Try.underlying5 rfl) MS ?_
    refine KS.hp 3 (.int .u64 (u (putI (putI (putI 0#64 0 7 (cd k)) 12 3 (ff k)) 26 6 (ot k)))) MS ?_
    refine KS.hp 4 (.pointer (some ⟨B1, 4, none⟩)) MS ?_
    refine Held.take 5 (Canon.ldS 2 (.pointer (some ⟨B1, 4, none⟩))) (.int .i64 (s imm)) rfl (by decide +kernel) (by decide +kernel) (by decide +kernel) (by kernel_rfl) (by kernel_rfl) (fun w hw => Kw.ld_cell 2 4 (.int .i64 (s imm)) (hw.get 2 rfl) (by kernel_rfl) _ Try.underlying2 rfl) MS ?_
    refine Held.oneCall (ι := Nat) 2 (fun B => (.agg #[.slice (some ⟨B, 0, none⟩) 1 1, .int .i64 6, .bool false, .int .i64 0])) 42 #[.int .u8 72] (R := fun B w1 => Kw.Mem [] (w12.drew) w1 [(B, #[.int .i64 0, .int .i64 6, .int .i64 20], 89)]) rfl (by decide +kernel) (by kernel_rfl) (by kernel_rfl) (laid_H (w12.drew)) fun B14 w14 hc => ?_
    have M14 := Held.mem_new M13 hc
    clear hc
    refine ⟨(Held.mem_tail M14), ?_⟩
    have MS := (Held.mem_tail M14)
    refine Held.oneCall (ι := Unit) 6 (fun _ => (.int .u64 (u (putI (putI (putI (putI 0#64 0 7 (cd k)) 12 3 (ff k)) 26 6 (ot k)) 20 6 (getI imm 0 6))))) 46 #[.agg #[.slice (some ⟨B14, 0, none⟩) 1 1, .int .i64 6, .bool false, .int .i64 0], .int .u64 (u (putI (putI (putI 0#64 0 7 (cd k)) 12 3 (ff k)) 26 6 (ot k))), .int .i64 (s imm)] (R := fun _ w1 => Kw.Mem [] w14 w1 []) rfl (by decide +kernel) (by kernel_rfl) (by kernel_rfl) (Held.unit (lay_H (putI (putI (putI 0#64 0 7 (cd k)) 12 3 (ff k)) 26 6 (ot k)) imm w14 B14 (Held.mem_of M14 0 rfl))) fun _ w15 hc => ?_
    have M15 := M14.call hc
    clear hc
    refine ⟨(Held.mem_tail M15), ?_⟩
    have MS := (Held.mem_tail M15)
    refine KS.hp 7 (.int .u64 (u (putI (putI (putI (putI 0#64 0 7 (cd k)) 12 3 (ff k)) 26 6 (ot k)) 20 6 (getI imm 0 6)))) MS ?_
    refine Held.done (by decide +kernel) ?_
    refine Kw.then_normal (wp_seq (wp_seq (Kw.region ?_)))
    refine KS.p (.bool true) ?_
    refine KS.p (.pointer (some ⟨B1, 1, none⟩)) ?_
    refine KS.l 3 B1 1 (.int .i64 (s rd)) M15 3 Try.underlying3 ?_
    refine KS.p (.agg #[.bool true, .int .i64 7, .int .i64 (s rd)]) ?_
    refine KS.p (.bool true) ?_
    refine KS.p (.pointer (some ⟨B1, 2, none⟩)) ?_
    refine KS.l 3 B1 2 (.int .i64 (s rs1)) M15 3 Try.underlying3 ?_
    refine KS.p (.agg #[.bool true, .int .i64 15, .int .i64 (s rs1)]) ?_
    refine KS.p (.bool false) ?_
    refine KS.p (.pointer (some ⟨B1, 3, none⟩)) ?_
    refine KS.l 3 B1 3 (.int .i64 (s rs2)) M15 3 Try.underlying3 ?_
    refine KS.p (.agg #[.bool false, .int .i64 20, .int .i64 (s rs2)]) ?_
    refine KS.p (.agg #[.bool true, .int .i64 7, .int .i64 (s rd), .bool true, .int .i64 15, .int .i64 (s rs1), .bool false, .int .i64 20, .int .i64 (s rs2)]) ?_
    refine KS.p (.int .i64 0) ?_
    refine Kw.fin (Kw.then_normal (wp_block ?_))
    refine wp_loop_rounds 4 ?_
    refine Kw.round_succ (wp_seq (Kw.region ?_))
    refine KS.p (.bool true) ?_
    refine Kw.fin (Kw.then_normal (wp_seq ?_))
    refine wp_cond_true (by kernel_rfl) ?_
    refine wp_skip (Kw.then_normal (wp_seq (wp_block (wp_seq (Kw.region ?_)))))
    refine KS.p (.agg #[.bool true, .int .i64 7, .int .i64 (s rd)]) ?_
    refine Kw.alloc #[.bool false, .int .i64 0, .int .i64 0] 72 M15 (by kernel_rfl) (by kernel_rfl) fun w16 B16 M16 => ?_
    refine Kw.storeAll 0 72 #[.bool true, .int .i64 7, .int .i64 (s rd)] M16 rfl (by kernel_rfl) (by kernel_rfl) (Eq.trans (b := 3) (by kernel_rfl) (by kernel_rfl)) (by kernel_rfl) (by kernel_rfl) fun w17 M17 => ?_
    refine KS.n5 ?_
    refine KS.p (.pointer (some ⟨B16, 0, none⟩)) ?_
    refine KS.l 4 B16 0 (.bool true) M17 0 Try.underlying4 ?_
    refine KS.p (.bool true) ?_
    refine KS.p (.pointer (some ⟨B16, 2, none⟩)) ?_
    refine KS.l 3 B16 2 (.int .i64 (s rd)) M17 0 Try.underlying3 ?_
    refine KS.c (.bool F1) 47 #[.int .i64 (s rd), .int .i64 5, .bool false] M17 (by have h := fits_c rd 5 false w17; rw [g1] at h; exact h) fun w18 M18 => ?_
    refine KS.p (.bool (!F1)) ?_
    refine KS.p (.bool (!F1)) ?_
    refine KS.n2 ?_
    refine wp_cond_split (t := (!F1)) (by kernel_rfl) (fun h19 => ?_) (fun h19 => ?_)
    · skip
      have h20 : (F1) = false := Kw.not_true h19
      refine wp_seq (Kw.region ?_)
      refine KS.p (.int .u32 0) ?_
      refine KS.p (.bool false) ?_
      refine Kw.fin (Kw.then_normal (wp_ret (Kw.then_ret (Kw.block_ret (Kw.then_ret (Kw.then_ret (Kw.block_ret (Kw.then_ret ?_))))))))
      exact bodyPost_ret (v := .tuple #[.int .u32 0, .bool false]) (by kernel_rfl) (by kernel_rfl) ⟨by simp_all [encR], M18.drop⟩
    · skip
      have h21 : (F1) = true := Kw.not_false h19
      refine wp_skip (Kw.then_normal (wp_seq (Kw.region ?_)))
      refine KS.p (.pointer (some ⟨B16, 0, none⟩)) ?_
      refine KS.l 4 B16 0 (.bool true) M18 0 Try.underlying4 ?_
      refine KS.n2 ?_
      refine wp_cond_true (by kernel_rfl) ?_
      refine Kw.region ?_
      refine KS.p (.int .u64 (u (putI (putI (putI (putI 0#64 0 7 (cd k)) 12 3 (ff k)) 26 6 (ot k)) 20 6 (getI imm 0 6)))) ?_
      refine KS.p (.pointer (some ⟨B16, 1, none⟩)) ?_
      refine KS.l 3 B16 1 (.int .i64 7) M18 0 Try.underlying3 ?_
      refine KS.p (.pointer (some ⟨B16, 2, none⟩)) ?_
      refine KS.l 3 B16 2 (.int .i64 (s rd)) M18 0 Try.underlying3 ?_
      refine Kw.pure (.int .u64 (u rd)) (by kernel_rfl) (Kw.eqv (v := .int .u64 (IntKind.u64.wrap (s rd))) (by kernel_rfl) (congrArg (Value.int .u64) (wrap_s rd))) ?_
      refine KS.c (.int .u64 (u (putI (putI (putI (putI (putI 0#64 0 7 (cd k)) 12 3 (ff k)) 26 6 (ot k)) 20 6 (getI imm 0 6)) 7 5 rd))) 48 #[.int .u64 (u (putI (putI (putI (putI 0#64 0 7 (cd k)) 12 3 (ff k)) 26 6 (ot k)) 20 6 (getI imm 0 6))), .int .i64 7, .int .i64 5, .int .u64 (u rd)] M18 (put_c (putI (putI (putI (putI 0#64 0 7 (cd k)) 12 3 (ff k)) 26 6 (ot k)) 20 6 (getI imm 0 6)) 7 5 rd w18) fun w22 M22 => ?_
      refine KS.p (.int .u64 (u (putI (putI (putI (putI (putI 0#64 0 7 (cd k)) 12 3 (ff k)) 26 6 (ot k)) 20 6 (getI imm 0 6)) 7 5 rd))) ?_
      refine Kw.fin (Kw.block_normal (Kw.then_normal (Kw.region ?_)))
      refine KS.p (.int .i64 1) ?_
      refine KS.p (.int .i64 1) ?_
      refine Kw.fin (Kw.then_normal (Kw.round_succ (wp_seq (Kw.region ?_))))
      refine KS.p (.bool true) ?_
      refine Kw.fin (Kw.then_normal (wp_seq ?_))
      refine wp_cond_true (by kernel_rfl) ?_
      refine wp_skip (Kw.then_normal (wp_seq (wp_block (wp_seq (Kw.region ?_)))))
      refine KS.p (.agg #[.bool true, .int .i64 15, .int .i64 (s rs1)]) ?_
      refine Kw.alloc #[.bool false, .int .i64 0, .int .i64 0] 72 M22 (by kernel_rfl) (by kernel_rfl) fun w23 B23 M23 => ?_
      refine Kw.storeAll 0 72 #[.bool true, .int .i64 15, .int .i64 (s rs1)] M23 rfl (by kernel_rfl) (by kernel_rfl) (Eq.trans (b := 3) (by kernel_rfl) (by kernel_rfl)) (by kernel_rfl) (by kernel_rfl) fun w24 M24 => ?_
      refine KS.n5 ?_
      refine KS.p (.pointer (some ⟨B23, 0, none⟩)) ?_
      refine KS.l 4 B23 0 (.bool true) M24 0 Try.underlying4 ?_
      refine KS.p (.bool true) ?_
      refine KS.p (.pointer (some ⟨B23, 2, none⟩)) ?_
      refine KS.l 3 B23 2 (.int .i64 (s rs1)) M24 0 Try.underlying3 ?_
      refine KS.c (.bool F2) 47 #[.int .i64 (s rs1), .int .i64 5, .bool false] M24 (by have h := fits_c rs1 5 false w24; rw [g2] at h; exact h) fun w25 M25 => ?_
      refine KS.p (.bool (!F2)) ?_
      refine KS.p (.bool (!F2)) ?_
      refine KS.n2 ?_
      refine wp_cond_split (t := (!F2)) (by kernel_rfl) (fun h26 => ?_) (fun h26 => ?_)
      · skip
        have h27 : (F2) = false := Kw.not_true h26
        refine wp_seq (Kw.region ?_)
        refine KS.p (.int .u32 0) ?_
        refine KS.p (.bool false) ?_
        refine Kw.fin (Kw.then_normal (wp_ret (Kw.then_ret (Kw.block_ret (Kw.then_ret (Kw.then_ret (Kw.block_ret (Kw.then_ret ?_))))))))
        exact bodyPost_ret (v := .tuple #[.int .u32 0, .bool false]) (by kernel_rfl) (by kernel_rfl) ⟨by simp_all [encR], M25.drop⟩
      · skip
        have h28 : (F2) = true := Kw.not_false h26
        refine wp_skip (Kw.then_normal (wp_seq (Kw.region ?_)))
        refine KS.p (.pointer (some ⟨B23, 0, none⟩)) ?_
        refine KS.l 4 B23 0 (.bool true) M25 0 Try.underlying4 ?_
        refine KS.n2 ?_
        refine wp_cond_true (by kernel_rfl) ?_
        refine Kw.region ?_
        refine KS.p (.int .u64 (u (putI (putI (putI (putI (putI 0#64 0 7 (cd k)) 12 3 (ff k)) 26 6 (ot k)) 20 6 (getI imm 0 6)) 7 5 rd))) ?_
        refine KS.p (.pointer (some ⟨B23, 1, none⟩)) ?_
        refine KS.l 3 B23 1 (.int .i64 15) M25 0 Try.underlying3 ?_
        refine KS.p (.pointer (some ⟨B23, 2, none⟩)) ?_
        refine KS.l 3 B23 2 (.int .i64 (s rs1)) M25 0 Try.underlying3 ?_
        refine Kw.pure (.int .u64 (u rs1)) (by kernel_rfl) (Kw.eqv (v := .int .u64 (IntKind.u64.wrap (s rs1))) (by kernel_rfl) (congrArg (Value.int .u64) (wrap_s rs1))) ?_
        refine KS.c (.int .u64 (u (putI (putI (putI (putI (putI (putI 0#64 0 7 (cd k)) 12 3 (ff k)) 26 6 (ot k)) 20 6 (getI imm 0 6)) 7 5 rd) 15 5 rs1))) 48 #[.int .u64 (u (putI (putI (putI (putI (putI 0#64 0 7 (cd k)) 12 3 (ff k)) 26 6 (ot k)) 20 6 (getI imm 0 6)) 7 5 rd)), .int .i64 15, .int .i64 5, .int .u64 (u rs1)] M25 (put_c (putI (putI (putI (putI (putI 0#64 0 7 (cd k)) 12 3 (ff k)) 26 6 (ot k)) 20 6 (getI imm 0 6)) 7 5 rd) 15 5 rs1 w25) fun w29 M29 => ?_
        refine KS.p (.int .u64 (u (putI (putI (putI (putI (putI (putI 0#64 0 7 (cd k)) 12 3 (ff k)) 26 6 (ot k)) 20 6 (getI imm 0 6)) 7 5 rd) 15 5 rs1))) ?_
        refine Kw.fin (Kw.block_normal (Kw.then_normal (Kw.region ?_)))
        refine KS.p (.int .i64 2) ?_
        refine KS.p (.int .i64 2) ?_
        refine Kw.fin (Kw.then_normal (Kw.round_succ (wp_seq (Kw.region ?_))))
        refine KS.p (.bool true) ?_
        refine Kw.fin (Kw.then_normal (wp_seq ?_))
        refine wp_cond_true (by kernel_rfl) ?_
        refine wp_skip (Kw.then_normal (wp_seq (wp_block (wp_seq (Kw.region ?_)))))
        refine KS.p (.agg #[.bool false, .int .i64 20, .int .i64 (s rs2)]) ?_
        refine Kw.alloc #[.bool false, .int .i64 0, .int .i64 0] 72 M29 (by kernel_rfl) (by kernel_rfl) fun w30 B30 M30 => ?_
        refine Kw.storeAll 0 72 #[.bool false, .int .i64 20, .int .i64 (s rs2)] M30 rfl (by kernel_rfl) (by kernel_rfl) (Eq.trans (b := 3) (by kernel_rfl) (by kernel_rfl)) (by kernel_rfl) (by kernel_rfl) fun w31 M31 => ?_
        refine KS.n5 ?_
        refine KS.p (.pointer (some ⟨B30, 0, none⟩)) ?_
        refine KS.l 4 B30 0 (.bool false) M31 0 Try.underlying4 ?_
        refine KS.p (.bool false) ?_
        refine KS.k ?_
        refine KS.k ?_
        refine KS.k ?_
        refine KS.k ?_
        refine KS.p (.bool false) ?_
        refine KS.n2 ?_
        refine wp_cond_false (by kernel_rfl) ?_
        refine wp_skip (Kw.then_normal (wp_seq (Kw.region ?_)))
        refine KS.p (.pointer (some ⟨B30, 0, none⟩)) ?_
        refine KS.l 4 B30 0 (.bool false) M31 0 Try.underlying4 ?_
        refine KS.n2 ?_
        refine wp_cond_false (by kernel_rfl) ?_
        refine wp_skip (Kw.block_normal (Kw.then_normal (Kw.region ?_)))
        refine KS.p (.int .i64 3) ?_
        refine KS.p (.int .i64 3) ?_
        refine Kw.fin (Kw.then_normal (Kw.round_succ (wp_seq (Kw.region ?_))))
        refine KS.p (.bool false) ?_
        refine Kw.fin (Kw.then_normal (wp_seq ?_))
        refine wp_cond_false (by kernel_rfl) ?_
        refine wp_exit (Kw.then_exit (Kw.then_exit (Kw.block_hit (Kw.then_normal (wp_seq (Kw.region ?_))))))
        refine KS.p (.int .u64 (u (putI (putI (putI (putI (putI (putI 0#64 0 7 (cd k)) 12 3 (ff k)) 26 6 (ot k)) 20 6 (getI imm 0 6)) 7 5 rd) 15 5 rs1))) ?_
        refine Kw.pure (.int .u32 (u ((putI (putI (putI (putI (putI (putI 0#64 0 7 (cd k)) 12 3 (ff k)) 26 6 (ot k)) 20 6 (getI imm 0 6)) 7 5 rd) 15 5 rs1) &&& 4294967295#64))) (by kernel_rfl) (Kw.eqv (v := .int .u32 (IntKind.u32.wrap (u (putI (putI (putI (putI (putI (putI 0#64 0 7 (cd k)) 12 3 (ff k)) 26 6 (ot k)) 20 6 (getI imm 0 6)) 7 5 rd) 15 5 rs1)))) (by kernel_rfl) (congrArg (Value.int .u32) (wrap32_u (putI (putI (putI (putI (putI (putI 0#64 0 7 (cd k)) 12 3 (ff k)) 26 6 (ot k)) 20 6 (getI imm 0 6)) 7 5 rd) 15 5 rs1)))) ?_
        refine KS.p (.int .u32 (u ((putI (putI (putI (putI (putI (putI 0#64 0 7 (cd k)) 12 3 (ff k)) 26 6 (ot k)) 20 6 (getI imm 0 6)) 7 5 rd) 15 5 rs1) &&& 4294967295#64))) ?_
        refine KS.p (.bool true) ?_
        refine Kw.fin (Kw.then_normal (wp_ret ?_))
        exact bodyPost_ret (v := .tuple #[.int .u32 (u ((putI (putI (putI (putI (putI (putI 0#64 0 7 (cd k)) 12 3 (ff k)) 26 6 (ot k)) 20 6 (getI imm 0 6)) 7 5 rd) 15 5 rs1) &&& 4294967295#64)), .bool true]) (by kernel_rfl) (by kernel_rfl) ⟨by simp_all [encR], M31.drop⟩
def word_S (k : Nat) (rd rs1 rs2 imm : BitVec 64) : BitVec 64 := (putI (putI (putI (putI (putI (putI 0#64 0 7 (cd k)) 12 3 (ff k)) 7 5 (getI imm 0 5)) 25 7 (getI imm 5 7)) 15 5 rs1) 20 5 rs2)
set_option maxRecDepth 100000 in
set_option maxHeartbeats 1000000 in
theorem enc_S (k : Nat) (hk : k < 69) (hs : sh k = 83) (rd rs1 rs2 imm : BitVec 64) (F0 : Bool) (h0 : fitB_S imm = F0) (F1 : Bool) (g1 : fitsI rs1 5 false = F1) (F2 : Bool) (g2 : fitsI rs2 5 false = F2) (W : World) : Calls Try.prog 25 #[.agg #[.int .i64 ((k + 1 : Nat) : Int), .int .i64 (s rd), .int .i64 (s rs1), .int .i64 (s rs2), .int .i64 (s imm)]] W fun e W' => e = .returned (encR (F0 && F1 && F2) (word_S k rd rs1 rs2 imm)) ∧ Kw.Mem [] W W' [] := by
  unfold word_S
  refine calls_of_wp Try.func25 rfl ?_
  have M0 : Kw.Mem [] W W [] := Kw.Mem.start _ _
  refine Kw.to (b := ⟨#[.agg #[.int .i64 ((k + 1 : Nat) : Int), .int .i64 (s rd), .int .i64 (s rs1), .int .i64 (s rs2), .int .i64 (s imm)], undef, undef, undef, undef, undef, undef, undef, undef, undef, undef, undef, undef, undef, undef, undef, undef, undef, undef, undef, undef, undef, undef, undef, undef, undef, undef, undef, undef, undef, undef, undef, undef, undef, undef, undef, undef, undef, undef, undef, undef, undef, undef, undef, undef, undef, undef, undef, undef, undef, undef, undef, undef, undef, undef, undef, undef, undef, undef, undef, undef, undef, undef, undef, undef, undef, undef, undef, undef, undef, undef, undef, undef, undef, undef, undef, undef, undef, undef, undef, undef, undef, undef, undef, undef], []⟩) (by kernel_rfl) ?_
  refine wp_seq (Kw.region ?_)
  refine Kw.alloc #[.int .i64 ((k + 1 : Nat) : Int), .int .i64 (s rd), .int .i64 (s rs1), .int .i64 (s rs2), .int .i64 (s imm)] 36 M0 (by kernel_rfl) (by kernel_rfl) fun w1 B1 M1 => ?_
  refine KS.p (.int .u32 0) ?_
  refine KS.p (.bool false) ?_
  refine KS.n4 ?_
  refine KS.p (.pointer (some ⟨B1, 0, none⟩)) ?_
  refine KS.l 3 B1 0 (.int .i64 ((k + 1 : Nat) : Int)) M1 0 Try.underlying3 ?_
  refine KS.c (.tuple #[.agg #[.string (nm k), .int .u8 83, .int .u64 (u (cd k)), .int .u64 (u (ff k)), .int .u64 (u (ot k))], .bool true]) 41 #[.int .i64 ((k + 1 : Nat) : Int)] M1 (of_sh 83 k hk hs w1) fun w2 M2 => ?_
  refine KS.p (.tuple #[.agg #[.string (nm k), .int .u8 83, .int .u64 (u (cd k)), .int .u64 (u (ff k)), .int .u64 (u (ot k))], .bool true]) ?_
  refine KS.p (.agg #[.string (nm k), .int .u8 83, .int .u64 (u (cd k)), .int .u64 (u (ff k)), .int .u64 (u (ot k))]) ?_
  refine KS.p (.bool true) ?_
  refine Kw.alloc #[.string ⟨#[]⟩, .int .u8 0, .int .u64 0, .int .u64 0, .int .u64 0] 59 M2 (by kernel_rfl) (by kernel_rfl) fun w3 B3 M3 => ?_
  refine Kw.storeAll 0 59 #[.string (nm k), .int .u8 83, .int .u64 (u (cd k)), .int .u64 (u (ff k)), .int .u64 (u (ot k))] M3 rfl (by kernel_rfl) (by kernel_rfl) (Eq.trans (b := 5) (by kernel_rfl) (by kernel_rfl)) (by kernel_rfl) (by kernel_rfl) fun w4 M4 => ?_
  refine KS.p (.bool true) ?_
  refine Kw.fin (Kw.then_normal (wp_seq (wp_seq ?_)))
  refine Held.start (fun w => Kw.Mem [] W w [(B3, #[.string (nm k), .int .u8 83, .int .u64 (u (cd k)), .int .u64 (u (ff k)), .int .u64 (u (ot k))], 59), (B1, #[.int .i64 ((k + 1 : Nat) : Int), .int .i64 (s rd), .int .i64 (s rs1), .int .i64 (s rs2), .int .i64 (s imm)], 36)]) (by kernel_rfl) ?_
  have M5 := M4.drew
  have MS := M5
  refine KS.hp 0 (.bool true) MS ?_
  refine KS.hp 1 (.bool false) MS ?_
  refine KS.hp 2 (.bool false) MS ?_
  refine KS.hp 3 (.pointer (some ⟨B3, 1, none⟩)) MS ?_
  refine Held.take 4 (Canon.ldS 5 (.pointer (some ⟨B3, 1, none⟩))) (.int .u8 83) rfl (by decide +kernel) (by decide +kernel) (by decide +kernel) (by kernel_rfl) (by kernel_rfl) (fun w hw => Kw.ld_cell 5 1 (.int .u8 83) (hw.get 0 rfl) (by kernel_rfl) _ Try.underlying5 rfl) MS ?_
  refine KS.hp 6 (.pointer (some ⟨B1, 4, none⟩)) MS ?_
  refine Held.take 7 (Canon.ldS 2 (.pointer (some ⟨B1, 4, none⟩))) (.int .i64 (s imm)) rfl (by decide +kernel) (by decide +kernel) (by decide +kernel) (by kernel_rfl) (by kernel_rfl) (fun w hw => Kw.ld_cell 2 4 (.int .i64 (s imm)) (hw.get 1 rfl) (by kernel_rfl) _ Try.underlying2 rfl) MS ?_
  refine Held.oneCall (ι := Nat) 5 (fun B => (.agg #[.slice (some ⟨B, 0, none⟩) 2 2, .int .i64 12, .bool true, .int .i64 0])) 42 #[.int .u8 83] (R := fun B w1 => Kw.Mem [] (w4.drew) w1 [(B, #[.int .i64 0, .int .i64 5, .int .i64 7, .int .i64 5, .int .i64 7, .int .i64 25], 89)]) rfl (by decide +kernel) (by kernel_rfl) (by kernel_rfl) (laid_S (w4.drew)) fun B6 w6 hc => ?_
  have M6 := Held.mem_new M5 hc
  clear hc
  refine ⟨(Held.mem_tail M6), ?_⟩
  have MS := (Held.mem_tail M6)
  refine Held.oneCall (ι := Unit) 8 (fun _ => (.bool F0)) 43 #[.agg #[.slice (some ⟨B6, 0, none⟩) 2 2, .int .i64 12, .bool true, .int .i64 0], .int .i64 (s imm)] (R := fun _ w1 => Kw.Mem [] w6 w1 []) rfl (by decide +kernel) (by kernel_rfl) (by kernel_rfl) (Held.unit (by have h := fit_S imm w6 B6 (Held.mem_of M6 0 rfl); rw [h0] at h; exact h)) fun _ w7 hc => ?_
  have M7 := M6.call hc
  clear hc
  refine ⟨(Held.mem_tail M7), ?_⟩
  have MS := (Held.mem_tail M7)
  refine KS.hp 9 (.bool (!F0)) MS ?_
  refine KS.hp 10 (.bool (!F0)) MS ?_
  refine Held.done (by decide +kernel) ?_
  refine Kw.then_normal ?_
  refine wp_cond_split (t := (!F0)) (by kernel_rfl) (fun h8 => ?_) (fun h8 => ?_)
  · skip
    have h9 : (F0) = false := Kw.not_true h8
    refine wp_seq (Kw.region ?_)
    refine KS.p (.int .u32 0) ?_
    refine KS.p (.bool false) ?_
    refine Kw.fin (Kw.then_normal (wp_ret (Kw.then_ret ?_)))
    exact bodyPost_ret (v := .tuple #[.int .u32 0, .bool false]) (by kernel_rfl) (by kernel_rfl) ⟨by simp_all [encR], M7.drop⟩
  · skip
    have h10 : (F0) = true := Kw.not_false h8
    refine wp_skip (Kw.then_normal (wp_seq (Kw.region ?_)))
    refine KS.la 59 B3 _ M7 1 Try.underlying59 ?_
    refine KS.c (.tuple #[.int .u64 (u (putI (putI 0#64 0 7 (cd k)) 12 3 (ff k))), .int .u64 (u (putI (putI 0#64 0 7 18446744073709551615#64) 12 3 18446744073709551615#64))]) 44 #[.agg #[.string (nm k), .int .u8 83, .int .u64 (u (cd k)), .int .u64 (u (ff k)), .int .u64 (u (ot k))]] M7 (fixed_S (nm k) (cd k) (ff k) (ot k) w7) fun w11 M11 => ?_
    refine KS.p (.tuple #[.int .u64 (u (putI (putI 0#64 0 7 (cd k)) 12 3 (ff k))), .int .u64 (u (putI (putI 0#64 0 7 18446744073709551615#64) 12 3 18446744073709551615#64))]) ?_
    refine KS.p (.int .u64 (u (putI (putI 0#64 0 7 (cd k)) 12 3 (ff k)))) ?_
    refine KS.p (.int .u64 (u (putI (putI 0#64 0 7 18446744073709551615#64) 12 3 18446744073709551615#64))) ?_
    refine KS.p (.int .u64 (u (putI (putI 0#64 0 7 (cd k)) 12 3 (ff k)))) ?_
    refine KS.p (.int .u64 (u (putI (putI 0#64 0 7 18446744073709551615#64) 12 3 18446744073709551615#64))) ?_
    refine KS.n4 ?_
    refine KS.p (.pointer (some ⟨B3, 1, none⟩)) ?_
    refine KS.l 5 B3 1 (.int .u8 83) M11 1 Try.underlying5 ?_
    refine KS.c (.tuple #[.bool false, .bool true, .bool true]) 45 #[.int .u8 83] M11 (has_S w11) fun w12 M12 => ?_
    refine KS.p (.tuple #[.bool false, .bool true, .bool true]) ?_
    refine KS.p (.bool false) ?_
    refine KS.p (.bool true) ?_
    refine KS.p (.bool true) ?_
    refine KS.p (.bool false) ?_
    refine KS.p (.bool true) ?_
    refine KS.p (.bool true) ?_
    refine Kw.fin (Kw.then_normal (wp_seq ?_))
    refine Held.start (fun w => Kw.Mem [] W w [(B6, #[.int .i64 0, .int .i64 5, .int .i64 7, .int .i64 5, .int .i64 7, .int .i64 25], 89), (B3, #[.string (nm k), .int .u8 83, .int .u64 (u (cd k)), .int .u64 (u (ff k)), .int .u64 (u (ot k))], 59), (B1, #[.int .i64 ((k + 1 : Nat) : Int), .int .i64 (s rd), .int .i64 (s rs1), .int .i64 (s rs2), .int .i64 (s imm)], 36)]) (by kernel_rfl) ?_
    have M13 := M12.drew
    have MS := M13
    refine KS.hp 0 (.pointer (some ⟨B3, 1, none⟩)) MS ?_
    refine Held.take 1 (Canon.ldS 5 (.pointer (some ⟨B3, 1, none⟩))) (.int .u8 83) rfl (by decide +kernel) (by decide +kernel) (by decide +kernel) (by kernel_rfl) (by kernel_rfl) (fun w hw => Kw.ld_cell 5 1 (.int .u8 83) (hw.get 1 rfl) (by kernel_rfl) _ Try.underlying5 rfl) MS ?_
    refine KS.hp 3 (.int .u64 (u (putI (putI 0#64 0 7 (cd k)) 12 3 (ff k)))) MS ?_
    refine KS.hp 4 (.pointer (some ⟨B1, 4, none⟩)) MS ?_
    refine Held.take 5 (Canon.ldS 2 (.pointer (some ⟨B1, 4, none⟩))) (.int .i64 (s imm)) rfl (by decide +kernel) (by decide +kernel) (by decide +kernel) (by kernel_rfl) (by kernel_rfl) (fun w hw => Kw.ld_cell 2 4 (.int .i64 (s imm)) (hw.get 2 rfl) (by kernel_rfl) _ Try.underlying2 rfl) MS ?_
    refine Held.oneCall (ι := Nat) 2 (fun B => (.agg #[.slice (some ⟨B, 0, none⟩) 2 2, .int .i64 12, .bool true, .int .i64 0])) 42 #[.int .u8 83] (R := fun B w1 => Kw.Mem [] (w12.drew) w1 [(B, #[.int .i64 0, .int .i64 5, .int .i64 7, .int .i64 5, .int .i64 7, .int .i64 25], 89)]) rfl (by decide +kernel) (by kernel_rfl) (by kernel_rfl) (laid_S (w12.drew)) fun B14 w14 hc => ?_
    have M14 := Held.mem_new M13 hc
    clear hc
    refine ⟨(Held.mem_tail M14), ?_⟩
    have MS := (Held.mem_tail M14)
    refine Held.oneCall (ι := Unit) 6 (fun _ => (.int .u64 (u (putI (putI (putI (putI 0#64 0 7 (cd k)) 12 3 (ff k)) 7 5 (getI imm 0 5)) 25 7 (getI imm 5 7))))) 46 #[.agg #[.slice (some ⟨B14, 0, none⟩) 2 2, .int .i64 12, .bool true, .int .i64 0], .int .u64 (u (putI (putI 0#64 0 7 (cd k)) 12 3 (ff k))), .int .i64 (s imm)] (R := fun _ w1 => Kw.Mem [] w14 w1 []) rfl (by decide +kernel) (by kernel_rfl) (by kernel_rfl) (Held.unit (lay_S (putI (putI 0#64 0 7 (cd k)) 12 3 (ff k)) imm w14 B14 (Held.mem_of M14 0 rfl))) fun _ w15 hc => ?_
    have M15 := M14.call hc
    clear hc
    refine ⟨(Held.mem_tail M15), ?_⟩
    have MS := (Held.mem_tail M15)
    refine KS.hp 7 (.int .u64 (u (putI (putI (putI (putI 0#64 0 7 (cd k)) 12 3 (ff k)) 7 5 (getI imm 0 5)) 25 7 (getI imm 5 7)))) MS ?_
    refine Held.done (by decide +kernel) ?_
    refine Kw.then_normal (wp_seq (wp_seq (Kw.region ?_)))
    refine KS.p (.bool false) ?_
    refine KS.p (.pointer (some ⟨B1, 1, none⟩)) ?_
    refine KS.l 3 B1 1 (.int .i64 (s rd)) M15 3 Try.underlying3 ?_
    refine KS.p (.agg #[.bool false, .int .i64 7, .int .i64 (s rd)]) ?_
    refine KS.p (.bool true) ?_
    refine KS.p (.pointer (some ⟨B1, 2, none⟩)) ?_
    refine KS.l 3 B1 2 (.int .i64 (s rs1)) M15 3 Try.underlying3 ?_
    refine KS.p (.agg #[.bool true, .int .i64 15, .int .i64 (s rs1)]) ?_
    refine KS.p (.bool true) ?_
    refine KS.p (.pointer (some ⟨B1, 3, none⟩)) ?_
    refine KS.l 3 B1 3 (.int .i64 (s rs2)) M15 3 Try.underlying3 ?_
    refine KS.p (.agg #[.bool true, .int .i64 20, .int .i64 (s rs2)]) ?_
    refine KS.p (.agg #[.bool false, .int .i64 7, .int .i64 (s rd), .bool true, .int .i64 15, .int .i64 (s rs1), .bool true, .int .i64 20, .int .i64 (s rs2)]) ?_
    refine KS.p (.int .i64 0) ?_
    refine Kw.fin (Kw.then_normal (wp_block ?_))
    refine wp_loop_rounds 4 ?_
    refine Kw.round_succ (wp_seq (Kw.region ?_))
    refine KS.p (.bool true) ?_
    refine Kw.fin (Kw.then_normal (wp_seq ?_))
    refine wp_cond_true (by kernel_rfl) ?_
    refine wp_skip (Kw.then_normal (wp_seq (wp_block (wp_seq (Kw.region ?_)))))
    refine KS.p (.agg #[.bool false, .int .i64 7, .int .i64 (s rd)]) ?_
    refine Kw.alloc #[.bool false, .int .i64 0, .int .i64 0] 72 M15 (by kernel_rfl) (by kernel_rfl) fun w16 B16 M16 => ?_
    refine Kw.storeAll 0 72 #[.bool false, .int .i64 7, .int .i64 (s rd)] M16 rfl (by kernel_rfl) (by kernel_rfl) (Eq.trans (b := 3) (by kernel_rfl) (by kernel_rfl)) (by kernel_rfl) (by kernel_rfl) fun w17 M17 => ?_
    refine KS.n5 ?_
    refine KS.p (.pointer (some ⟨B16, 0, none⟩)) ?_
    refine KS.l 4 B16 0 (.bool false) M17 0 Try.underlying4 ?_
    refine KS.p (.bool false) ?_
    refine KS.k ?_
    refine KS.k ?_
    refine KS.k ?_
    refine KS.k ?_
    refine KS.p (.bool false) ?_
    refine KS.n2 ?_
    refine wp_cond_false (by kernel_rfl) ?_
    refine wp_skip (Kw.then_normal (wp_seq (Kw.region ?_)))
    refine KS.p (.pointer (some ⟨B16, 0, none⟩)) ?_
    refine KS.l 4 B16 0 (.bool false) M17 0 Try.underlying4 ?_
    refine KS.n2 ?_
    refine wp_cond_false (by kernel_rfl) ?_
    refine wp_skip (Kw.block_normal (Kw.then_normal (Kw.region ?_)))
    refine KS.p (.int .i64 1) ?_
    refine KS.p (.int .i64 1) ?_
    refine Kw.fin (Kw.then_normal (Kw.round_succ (wp_seq (Kw.region ?_))))
    refine KS.p (.bool true) ?_
    refine Kw.fin (Kw.then_normal (wp_seq ?_))
    refine wp_cond_true (by kernel_rfl) ?_
    refine wp_skip (Kw.then_normal (wp_seq (wp_block (wp_seq (Kw.region ?_)))))
    refine KS.p (.agg #[.bool true, .int .i64 15, .int .i64 (s rs1)]) ?_
    refine Kw.alloc #[.bool false, .int .i64 0, .int .i64 0] 72 M17 (by kernel_rfl) (by kernel_rfl) fun w18 B18 M18 => ?_
    refine Kw.storeAll 0 72 #[.bool true, .int .i64 15, .int .i64 (s rs1)] M18 rfl (by kernel_rfl) (by kernel_rfl) (Eq.trans (b := 3) (by kernel_rfl) (by kernel_rfl)) (by kernel_rfl) (by kernel_rfl) fun w19 M19 => ?_
    refine KS.n5 ?_
    refine KS.p (.pointer (some ⟨B18, 0, none⟩)) ?_
    refine KS.l 4 B18 0 (.bool true) M19 0 Try.underlying4 ?_
    refine KS.p (.bool true) ?_
    refine KS.p (.pointer (some ⟨B18, 2, none⟩)) ?_
    refine KS.l 3 B18 2 (.int .i64 (s rs1)) M19 0 Try.underlying3 ?_
    refine KS.c (.bool F1) 47 #[.int .i64 (s rs1), .int .i64 5, .bool false] M19 (by have h := fits_c rs1 5 false w19; rw [g1] at h; exact h) fun w20 M20 => ?_
    refine KS.p (.bool (!F1)) ?_
    refine KS.p (.bool (!F1)) ?_
    refine KS.n2 ?_
    refine wp_cond_split (t := (!F1)) (by kernel_rfl) (fun h21 => ?_) (fun h21 => ?_)
    · skip
      have h22 : (F1) = false := Kw.not_true h21
      refine wp_seq (Kw.region ?_)
      refine KS.p (.int .u32 0) ?_
      refine KS.p (.bool false) ?_
      refine Kw.fin (Kw.then_normal (wp_ret (Kw.then_ret (Kw.block_ret (Kw.then_ret (Kw.then_ret (Kw.block_ret (Kw.then_ret ?_))))))))
      exact bodyPost_ret (v := .tuple #[.int .u32 0, .bool false]) (by kernel_rfl) (by kernel_rfl) ⟨by simp_all [encR], M20.drop⟩
    · skip
      have h23 : (F1) = true := Kw.not_false h21
      refine wp_skip (Kw.then_normal (wp_seq (Kw.region ?_)))
      refine KS.p (.pointer (some ⟨B18, 0, none⟩)) ?_
      refine KS.l 4 B18 0 (.bool true) M20 0 Try.underlying4 ?_
      refine KS.n2 ?_
      refine wp_cond_true (by kernel_rfl) ?_
      refine Kw.region ?_
      refine KS.p (.int .u64 (u (putI (putI (putI (putI 0#64 0 7 (cd k)) 12 3 (ff k)) 7 5 (getI imm 0 5)) 25 7 (getI imm 5 7)))) ?_
      refine KS.p (.pointer (some ⟨B18, 1, none⟩)) ?_
      refine KS.l 3 B18 1 (.int .i64 15) M20 0 Try.underlying3 ?_
      refine KS.p (.pointer (some ⟨B18, 2, none⟩)) ?_
      refine KS.l 3 B18 2 (.int .i64 (s rs1)) M20 0 Try.underlying3 ?_
      refine Kw.pure (.int .u64 (u rs1)) (by kernel_rfl) (Kw.eqv (v := .int .u64 (IntKind.u64.wrap (s rs1))) (by kernel_rfl) (congrArg (Value.int .u64) (wrap_s rs1))) ?_
      refine KS.c (.int .u64 (u (putI (putI (putI (putI (putI 0#64 0 7 (cd k)) 12 3 (ff k)) 7 5 (getI imm 0 5)) 25 7 (getI imm 5 7)) 15 5 rs1))) 48 #[.int .u64 (u (putI (putI (putI (putI 0#64 0 7 (cd k)) 12 3 (ff k)) 7 5 (getI imm 0 5)) 25 7 (getI imm 5 7))), .int .i64 15, .int .i64 5, .int .u64 (u rs1)] M20 (put_c (putI (putI (putI (putI 0#64 0 7 (cd k)) 12 3 (ff k)) 7 5 (getI imm 0 5)) 25 7 (getI imm 5 7)) 15 5 rs1 w20) fun w24 M24 => ?_
      refine KS.p (.int .u64 (u (putI (putI (putI (putI (putI 0#64 0 7 (cd k)) 12 3 (ff k)) 7 5 (getI imm 0 5)) 25 7 (getI imm 5 7)) 15 5 rs1))) ?_
      refine Kw.fin (Kw.block_normal (Kw.then_normal (Kw.region ?_)))
      refine KS.p (.int .i64 2) ?_
      refine KS.p (.int .i64 2) ?_
      refine Kw.fin (Kw.then_normal (Kw.round_succ (wp_seq (Kw.region ?_))))
      refine KS.p (.bool true) ?_
      refine Kw.fin (Kw.then_normal (wp_seq ?_))
      refine wp_cond_true (by kernel_rfl) ?_
      refine wp_skip (Kw.then_normal (wp_seq (wp_block (wp_seq (Kw.region ?_)))))
      refine KS.p (.agg #[.bool true, .int .i64 20, .int .i64 (s rs2)]) ?_
      refine Kw.alloc #[.bool false, .int .i64 0, .int .i64 0] 72 M24 (by kernel_rfl) (by kernel_rfl) fun w25 B25 M25 => ?_
      refine Kw.storeAll 0 72 #[.bool true, .int .i64 20, .int .i64 (s rs2)] M25 rfl (by kernel_rfl) (by kernel_rfl) (Eq.trans (b := 3) (by kernel_rfl) (by kernel_rfl)) (by kernel_rfl) (by kernel_rfl) fun w26 M26 => ?_
      refine KS.n5 ?_
      refine KS.p (.pointer (some ⟨B25, 0, none⟩)) ?_
      refine KS.l 4 B25 0 (.bool true) M26 0 Try.underlying4 ?_
      refine KS.p (.bool true) ?_
      refine KS.p (.pointer (some ⟨B25, 2, none⟩)) ?_
      refine KS.l 3 B25 2 (.int .i64 (s rs2)) M26 0 Try.underlying3 ?_
      refine KS.c (.bool F2) 47 #[.int .i64 (s rs2), .int .i64 5, .bool false] M26 (by have h := fits_c rs2 5 false w26; rw [g2] at h; exact h) fun w27 M27 => ?_
      refine KS.p (.bool (!F2)) ?_
      refine KS.p (.bool (!F2)) ?_
      refine KS.n2 ?_
      refine wp_cond_split (t := (!F2)) (by kernel_rfl) (fun h28 => ?_) (fun h28 => ?_)
      · skip
        have h29 : (F2) = false := Kw.not_true h28
        refine wp_seq (Kw.region ?_)
        refine KS.p (.int .u32 0) ?_
        refine KS.p (.bool false) ?_
        refine Kw.fin (Kw.then_normal (wp_ret (Kw.then_ret (Kw.block_ret (Kw.then_ret (Kw.then_ret (Kw.block_ret (Kw.then_ret ?_))))))))
        exact bodyPost_ret (v := .tuple #[.int .u32 0, .bool false]) (by kernel_rfl) (by kernel_rfl) ⟨by simp_all [encR], M27.drop⟩
      · skip
        have h30 : (F2) = true := Kw.not_false h28
        refine wp_skip (Kw.then_normal (wp_seq (Kw.region ?_)))
        refine KS.p (.pointer (some ⟨B25, 0, none⟩)) ?_
        refine KS.l 4 B25 0 (.bool true) M27 0 Try.underlying4 ?_
        refine KS.n2 ?_
        refine wp_cond_true (by kernel_rfl) ?_
        refine Kw.region ?_
        refine KS.p (.int .u64 (u (putI (putI (putI (putI (putI 0#64 0 7 (cd k)) 12 3 (ff k)) 7 5 (getI imm 0 5)) 25 7 (getI imm 5 7)) 15 5 rs1))) ?_
        refine KS.p (.pointer (some ⟨B25, 1, none⟩)) ?_
        refine KS.l 3 B25 1 (.int .i64 20) M27 0 Try.underlying3 ?_
        refine KS.p (.pointer (some ⟨B25, 2, none⟩)) ?_
        refine KS.l 3 B25 2 (.int .i64 (s rs2)) M27 0 Try.underlying3 ?_
        refine Kw.pure (.int .u64 (u rs2)) (by kernel_rfl) (Kw.eqv (v := .int .u64 (IntKind.u64.wrap (s rs2))) (by kernel_rfl) (congrArg (Value.int .u64) (wrap_s rs2))) ?_
        refine KS.c (.int .u64 (u (putI (putI (putI (putI (putI (putI 0#64 0 7 (cd k)) 12 3 (ff k)) 7 5 (getI imm 0 5)) 25 7 (getI imm 5 7)) 15 5 rs1) 20 5 rs2))) 48 #[.int .u64 (u (putI (putI (putI (putI (putI 0#64 0 7 (cd k)) 12 3 (ff k)) 7 5 (getI imm 0 5)) 25 7 (getI imm 5 7)) 15 5 rs1)), .int .i64 20, .int .i64 5, .int .u64 (u rs2)] M27 (put_c (putI (putI (putI (putI (putI 0#64 0 7 (cd k)) 12 3 (ff k)) 7 5 (getI imm 0 5)) 25 7 (getI imm 5 7)) 15 5 rs1) 20 5 rs2 w27) fun w31 M31 => ?_
        refine KS.p (.int .u64 (u (putI (putI (putI (putI (putI (putI 0#64 0 7 (cd k)) 12 3 (ff k)) 7 5 (getI imm 0 5)) 25 7 (getI imm 5 7)) 15 5 rs1) 20 5 rs2))) ?_
        refine Kw.fin (Kw.block_normal (Kw.then_normal (Kw.region ?_)))
        refine KS.p (.int .i64 3) ?_
        refine KS.p (.int .i64 3) ?_
        refine Kw.fin (Kw.then_normal (Kw.round_succ (wp_seq (Kw.region ?_))))
        refine KS.p (.bool false) ?_
        refine Kw.fin (Kw.then_normal (wp_seq ?_))
        refine wp_cond_false (by kernel_rfl) ?_
        refine wp_exit (Kw.then_exit (Kw.then_exit (Kw.block_hit (Kw.then_normal (wp_seq (Kw.region ?_))))))
        refine KS.p (.int .u64 (u (putI (putI (putI (putI (putI (putI 0#64 0 7 (cd k)) 12 3 (ff k)) 7 5 (getI imm 0 5)) 25 7 (getI imm 5 7)) 15 5 rs1) 20 5 rs2))) ?_
        refine Kw.pure (.int .u32 (u ((putI (putI (putI (putI (putI (putI 0#64 0 7 (cd k)) 12 3 (ff k)) 7 5 (getI imm 0 5)) 25 7 (getI imm 5 7)) 15 5 rs1) 20 5 rs2) &&& 4294967295#64))) (by kernel_rfl) (Kw.eqv (v := .int .u32 (IntKind.u32.wrap (u (putI (putI (putI (putI (putI (putI 0#64 0 7 (cd k)) 12 3 (ff k)) 7 5 (getI imm 0 5)) 25 7 (getI imm 5 7)) 15 5 rs1) 20 5 rs2)))) (by kernel_rfl) (congrArg (Value.int .u32) (wrap32_u (putI (putI (putI (putI (putI (putI 0#64 0 7 (cd k)) 12 3 (ff k)) 7 5 (getI imm 0 5)) 25 7 (getI imm 5 7)) 15 5 rs1) 20 5 rs2)))) ?_
        refine KS.p (.int .u32 (u ((putI (putI (putI (putI (putI (putI 0#64 0 7 (cd k)) 12 3 (ff k)) 7 5 (getI imm 0 5)) 25 7 (getI imm 5 7)) 15 5 rs1) 20 5 rs2) &&& 4294967295#64))) ?_
        refine KS.p (.bool true) ?_
        refine Kw.fin (Kw.then_normal (wp_ret ?_))
        exact bodyPost_ret (v := .tuple #[.int .u32 (u ((putI (putI (putI (putI (putI (putI 0#64 0 7 (cd k)) 12 3 (ff k)) 7 5 (getI imm 0 5)) 25 7 (getI imm 5 7)) 15 5 rs1) 20 5 rs2) &&& 4294967295#64)), .bool true]) (by kernel_rfl) (by kernel_rfl) ⟨by simp_all [encR], M31.drop⟩
def word_B (k : Nat) (rd rs1 rs2 imm : BitVec 64) : BitVec 64 := (putI (putI (putI (putI (putI (putI (putI (putI 0#64 0 7 (cd k)) 12 3 (ff k)) 8 4 (getI imm 1 4)) 25 6 (getI imm 5 6)) 7 1 (getI imm 11 1)) 31 1 (getI imm 12 1)) 15 5 rs1) 20 5 rs2)
set_option maxRecDepth 100000 in
set_option maxHeartbeats 1000000 in
theorem enc_B (k : Nat) (hk : k < 69) (hs : sh k = 66) (rd rs1 rs2 imm : BitVec 64) (F0 : Bool) (h0 : fitB_B imm = F0) (F1 : Bool) (g1 : fitsI rs1 5 false = F1) (F2 : Bool) (g2 : fitsI rs2 5 false = F2) (W : World) : Calls Try.prog 25 #[.agg #[.int .i64 ((k + 1 : Nat) : Int), .int .i64 (s rd), .int .i64 (s rs1), .int .i64 (s rs2), .int .i64 (s imm)]] W fun e W' => e = .returned (encR (F0 && F1 && F2) (word_B k rd rs1 rs2 imm)) ∧ Kw.Mem [] W W' [] := by
  unfold word_B
  refine calls_of_wp Try.func25 rfl ?_
  have M0 : Kw.Mem [] W W [] := Kw.Mem.start _ _
  refine Kw.to (b := ⟨#[.agg #[.int .i64 ((k + 1 : Nat) : Int), .int .i64 (s rd), .int .i64 (s rs1), .int .i64 (s rs2), .int .i64 (s imm)], undef, undef, undef, undef, undef, undef, undef, undef, undef, undef, undef, undef, undef, undef, undef, undef, undef, undef, undef, undef, undef, undef, undef, undef, undef, undef, undef, undef, undef, undef, undef, undef, undef, undef, undef, undef, undef, undef, undef, undef, undef, undef, undef, undef, undef, undef, undef, undef, undef, undef, undef, undef, undef, undef, undef, undef, undef, undef, undef, undef, undef, undef, undef, undef, undef, undef, undef, undef, undef, undef, undef, undef, undef, undef, undef, undef, undef, undef, undef, undef, undef, undef, undef, undef], []⟩) (by kernel_rfl) ?_
  refine wp_seq (Kw.region ?_)
  refine Kw.alloc #[.int .i64 ((k + 1 : Nat) : Int), .int .i64 (s rd), .int .i64 (s rs1), .int .i64 (s rs2), .int .i64 (s imm)] 36 M0 (by kernel_rfl) (by kernel_rfl) fun w1 B1 M1 => ?_
  refine KS.p (.int .u32 0) ?_
  refine KS.p (.bool false) ?_
  refine KS.n4 ?_
  refine KS.p (.pointer (some ⟨B1, 0, none⟩)) ?_
  refine KS.l 3 B1 0 (.int .i64 ((k + 1 : Nat) : Int)) M1 0 Try.underlying3 ?_
  refine KS.c (.tuple #[.agg #[.string (nm k), .int .u8 66, .int .u64 (u (cd k)), .int .u64 (u (ff k)), .int .u64 (u (ot k))], .bool true]) 41 #[.int .i64 ((k + 1 : Nat) : Int)] M1 (of_sh 66 k hk hs w1) fun w2 M2 => ?_
  refine KS.p (.tuple #[.agg #[.string (nm k), .int .u8 66, .int .u64 (u (cd k)), .int .u64 (u (ff k)), .int .u64 (u (ot k))], .bool true]) ?_
  refine KS.p (.agg #[.string (nm k), .int .u8 66, .int .u64 (u (cd k)), .int .u64 (u (ff k)), .int .u64 (u (ot k))]) ?_
  refine KS.p (.bool true) ?_
  refine Kw.alloc #[.string ⟨#[]⟩, .int .u8 0, .int .u64 0, .int .u64 0, .int .u64 0] 59 M2 (by kernel_rfl) (by kernel_rfl) fun w3 B3 M3 => ?_
  refine Kw.storeAll 0 59 #[.string (nm k), .int .u8 66, .int .u64 (u (cd k)), .int .u64 (u (ff k)), .int .u64 (u (ot k))] M3 rfl (by kernel_rfl) (by kernel_rfl) (Eq.trans (b := 5) (by kernel_rfl) (by kernel_rfl)) (by kernel_rfl) (by kernel_rfl) fun w4 M4 => ?_
  refine KS.p (.bool true) ?_
  refine Kw.fin (Kw.then_normal (wp_seq (wp_seq ?_)))
  refine Held.start (fun w => Kw.Mem [] W w [(B3, #[.string (nm k), .int .u8 66, .int .u64 (u (cd k)), .int .u64 (u (ff k)), .int .u64 (u (ot k))], 59), (B1, #[.int .i64 ((k + 1 : Nat) : Int), .int .i64 (s rd), .int .i64 (s rs1), .int .i64 (s rs2), .int .i64 (s imm)], 36)]) (by kernel_rfl) ?_
  have M5 := M4.drew
  have MS := M5
  refine KS.hp 0 (.bool true) MS ?_
  refine KS.hp 1 (.bool false) MS ?_
  refine KS.hp 2 (.bool false) MS ?_
  refine KS.hp 3 (.pointer (some ⟨B3, 1, none⟩)) MS ?_
  refine Held.take 4 (Canon.ldS 5 (.pointer (some ⟨B3, 1, none⟩))) (.int .u8 66) rfl (by decide +kernel) (by decide +kernel) (by decide +kernel) (by kernel_rfl) (by kernel_rfl) (fun w hw => Kw.ld_cell 5 1 (.int .u8 66) (hw.get 0 rfl) (by kernel_rfl) _ Try.underlying5 rfl) MS ?_
  refine KS.hp 6 (.pointer (some ⟨B1, 4, none⟩)) MS ?_
  refine Held.take 7 (Canon.ldS 2 (.pointer (some ⟨B1, 4, none⟩))) (.int .i64 (s imm)) rfl (by decide +kernel) (by decide +kernel) (by decide +kernel) (by kernel_rfl) (by kernel_rfl) (fun w hw => Kw.ld_cell 2 4 (.int .i64 (s imm)) (hw.get 1 rfl) (by kernel_rfl) _ Try.underlying2 rfl) MS ?_
  refine Held.oneCall (ι := Nat) 5 (fun B => (.agg #[.slice (some ⟨B, 0, none⟩) 4 4, .int .i64 13, .bool true, .int .i64 1])) 42 #[.int .u8 66] (R := fun B w1 => Kw.Mem [] (w4.drew) w1 [(B, #[.int .i64 1, .int .i64 4, .int .i64 8, .int .i64 5, .int .i64 6, .int .i64 25, .int .i64 11, .int .i64 1, .int .i64 7, .int .i64 12, .int .i64 1, .int .i64 31], 89)]) rfl (by decide +kernel) (by kernel_rfl) (by kernel_rfl) (laid_B (w4.drew)) fun B6 w6 hc => ?_
  have M6 := Held.mem_new M5 hc
  clear hc
  refine ⟨(Held.mem_tail M6), ?_⟩
  have MS := (Held.mem_tail M6)
  refine Held.oneCall (ι := Unit) 8 (fun _ => (.bool F0)) 43 #[.agg #[.slice (some ⟨B6, 0, none⟩) 4 4, .int .i64 13, .bool true, .int .i64 1], .int .i64 (s imm)] (R := fun _ w1 => Kw.Mem [] w6 w1 []) rfl (by decide +kernel) (by kernel_rfl) (by kernel_rfl) (Held.unit (by have h := fit_B imm w6 B6 (Held.mem_of M6 0 rfl); rw [h0] at h; exact h)) fun _ w7 hc => ?_
  have M7 := M6.call hc
  clear hc
  refine ⟨(Held.mem_tail M7), ?_⟩
  have MS := (Held.mem_tail M7)
  refine KS.hp 9 (.bool (!F0)) MS ?_
  refine KS.hp 10 (.bool (!F0)) MS ?_
  refine Held.done (by decide +kernel) ?_
  refine Kw.then_normal ?_
  refine wp_cond_split (t := (!F0)) (by kernel_rfl) (fun h8 => ?_) (fun h8 => ?_)
  · skip
    have h9 : (F0) = false := Kw.not_true h8
    refine wp_seq (Kw.region ?_)
    refine KS.p (.int .u32 0) ?_
    refine KS.p (.bool false) ?_
    refine Kw.fin (Kw.then_normal (wp_ret (Kw.then_ret ?_)))
    exact bodyPost_ret (v := .tuple #[.int .u32 0, .bool false]) (by kernel_rfl) (by kernel_rfl) ⟨by simp_all [encR], M7.drop⟩
  · skip
    have h10 : (F0) = true := Kw.not_false h8
    refine wp_skip (Kw.then_normal (wp_seq (Kw.region ?_)))
    refine KS.la 59 B3 _ M7 1 Try.underlying59 ?_
    refine KS.c (.tuple #[.int .u64 (u (putI (putI 0#64 0 7 (cd k)) 12 3 (ff k))), .int .u64 (u (putI (putI 0#64 0 7 18446744073709551615#64) 12 3 18446744073709551615#64))]) 44 #[.agg #[.string (nm k), .int .u8 66, .int .u64 (u (cd k)), .int .u64 (u (ff k)), .int .u64 (u (ot k))]] M7 (fixed_B (nm k) (cd k) (ff k) (ot k) w7) fun w11 M11 => ?_
    refine KS.p (.tuple #[.int .u64 (u (putI (putI 0#64 0 7 (cd k)) 12 3 (ff k))), .int .u64 (u (putI (putI 0#64 0 7 18446744073709551615#64) 12 3 18446744073709551615#64))]) ?_
    refine KS.p (.int .u64 (u (putI (putI 0#64 0 7 (cd k)) 12 3 (ff k)))) ?_
    refine KS.p (.int .u64 (u (putI (putI 0#64 0 7 18446744073709551615#64) 12 3 18446744073709551615#64))) ?_
    refine KS.p (.int .u64 (u (putI (putI 0#64 0 7 (cd k)) 12 3 (ff k)))) ?_
    refine KS.p (.int .u64 (u (putI (putI 0#64 0 7 18446744073709551615#64) 12 3 18446744073709551615#64))) ?_
    refine KS.n4 ?_
    refine KS.p (.pointer (some ⟨B3, 1, none⟩)) ?_
    refine KS.l 5 B3 1 (.int .u8 66) M11 1 Try.underlying5 ?_
    refine KS.c (.tuple #[.bool false, .bool true, .bool true]) 45 #[.int .u8 66] M11 (has_B w11) fun w12 M12 => ?_
    refine KS.p (.tuple #[.bool false, .bool true, .bool true]) ?_
    refine KS.p (.bool false) ?_
    refine KS.p (.bool true) ?_
    refine KS.p (.bool true) ?_
    refine KS.p (.bool false) ?_
    refine KS.p (.bool true) ?_
    refine KS.p (.bool true) ?_
    refine Kw.fin (Kw.then_normal (wp_seq ?_))
    refine Held.start (fun w => Kw.Mem [] W w [(B6, #[.int .i64 1, .int .i64 4, .int .i64 8, .int .i64 5, .int .i64 6, .int .i64 25, .int .i64 11, .int .i64 1, .int .i64 7, .int .i64 12, .int .i64 1, .int .i64 31], 89), (B3, #[.string (nm k), .int .u8 66, .int .u64 (u (cd k)), .int .u64 (u (ff k)), .int .u64 (u (ot k))], 59), (B1, #[.int .i64 ((k + 1 : Nat) : Int), .int .i64 (s rd), .int .i64 (s rs1), .int .i64 (s rs2), .int .i64 (s imm)], 36)]) (by kernel_rfl) ?_
    have M13 := M12.drew
    have MS := M13
    refine KS.hp 0 (.pointer (some ⟨B3, 1, none⟩)) MS ?_
    refine Held.take 1 (Canon.ldS 5 (.pointer (some ⟨B3, 1, none⟩))) (.int .u8 66) rfl (by decide +kernel) (by decide +kernel) (by decide +kernel) (by kernel_rfl) (by kernel_rfl) (fun w hw => Kw.ld_cell 5 1 (.int .u8 66) (hw.get 1 rfl) (by kernel_rfl) _ Try.underlying5 rfl) MS ?_
    refine KS.hp 3 (.int .u64 (u (putI (putI 0#64 0 7 (cd k)) 12 3 (ff k)))) MS ?_
    refine KS.hp 4 (.pointer (some ⟨B1, 4, none⟩)) MS ?_
    refine Held.take 5 (Canon.ldS 2 (.pointer (some ⟨B1, 4, none⟩))) (.int .i64 (s imm)) rfl (by decide +kernel) (by decide +kernel) (by decide +kernel) (by kernel_rfl) (by kernel_rfl) (fun w hw => Kw.ld_cell 2 4 (.int .i64 (s imm)) (hw.get 2 rfl) (by kernel_rfl) _ Try.underlying2 rfl) MS ?_
    refine Held.oneCall (ι := Nat) 2 (fun B => (.agg #[.slice (some ⟨B, 0, none⟩) 4 4, .int .i64 13, .bool true, .int .i64 1])) 42 #[.int .u8 66] (R := fun B w1 => Kw.Mem [] (w12.drew) w1 [(B, #[.int .i64 1, .int .i64 4, .int .i64 8, .int .i64 5, .int .i64 6, .int .i64 25, .int .i64 11, .int .i64 1, .int .i64 7, .int .i64 12, .int .i64 1, .int .i64 31], 89)]) rfl (by decide +kernel) (by kernel_rfl) (by kernel_rfl) (laid_B (w12.drew)) fun B14 w14 hc => ?_
    have M14 := Held.mem_new M13 hc
    clear hc
    refine ⟨(Held.mem_tail M14), ?_⟩
    have MS := (Held.mem_tail M14)
    refine Held.oneCall (ι := Unit) 6 (fun _ => (.int .u64 (u (putI (putI (putI (putI (putI (putI 0#64 0 7 (cd k)) 12 3 (ff k)) 8 4 (getI imm 1 4)) 25 6 (getI imm 5 6)) 7 1 (getI imm 11 1)) 31 1 (getI imm 12 1))))) 46 #[.agg #[.slice (some ⟨B14, 0, none⟩) 4 4, .int .i64 13, .bool true, .int .i64 1], .int .u64 (u (putI (putI 0#64 0 7 (cd k)) 12 3 (ff k))), .int .i64 (s imm)] (R := fun _ w1 => Kw.Mem [] w14 w1 []) rfl (by decide +kernel) (by kernel_rfl) (by kernel_rfl) (Held.unit (lay_B (putI (putI 0#64 0 7 (cd k)) 12 3 (ff k)) imm w14 B14 (Held.mem_of M14 0 rfl))) fun _ w15 hc => ?_
    have M15 := M14.call hc
    clear hc
    refine ⟨(Held.mem_tail M15), ?_⟩
    have MS := (Held.mem_tail M15)
    refine KS.hp 7 (.int .u64 (u (putI (putI (putI (putI (putI (putI 0#64 0 7 (cd k)) 12 3 (ff k)) 8 4 (getI imm 1 4)) 25 6 (getI imm 5 6)) 7 1 (getI imm 11 1)) 31 1 (getI imm 12 1)))) MS ?_
    refine Held.done (by decide +kernel) ?_
    refine Kw.then_normal (wp_seq (wp_seq (Kw.region ?_)))
    refine KS.p (.bool false) ?_
    refine KS.p (.pointer (some ⟨B1, 1, none⟩)) ?_
    refine KS.l 3 B1 1 (.int .i64 (s rd)) M15 3 Try.underlying3 ?_
    refine KS.p (.agg #[.bool false, .int .i64 7, .int .i64 (s rd)]) ?_
    refine KS.p (.bool true) ?_
    refine KS.p (.pointer (some ⟨B1, 2, none⟩)) ?_
    refine KS.l 3 B1 2 (.int .i64 (s rs1)) M15 3 Try.underlying3 ?_
    refine KS.p (.agg #[.bool true, .int .i64 15, .int .i64 (s rs1)]) ?_
    refine KS.p (.bool true) ?_
    refine KS.p (.pointer (some ⟨B1, 3, none⟩)) ?_
    refine KS.l 3 B1 3 (.int .i64 (s rs2)) M15 3 Try.underlying3 ?_
    refine KS.p (.agg #[.bool true, .int .i64 20, .int .i64 (s rs2)]) ?_
    refine KS.p (.agg #[.bool false, .int .i64 7, .int .i64 (s rd), .bool true, .int .i64 15, .int .i64 (s rs1), .bool true, .int .i64 20, .int .i64 (s rs2)]) ?_
    refine KS.p (.int .i64 0) ?_
    refine Kw.fin (Kw.then_normal (wp_block ?_))
    refine wp_loop_rounds 4 ?_
    refine Kw.round_succ (wp_seq (Kw.region ?_))
    refine KS.p (.bool true) ?_
    refine Kw.fin (Kw.then_normal (wp_seq ?_))
    refine wp_cond_true (by kernel_rfl) ?_
    refine wp_skip (Kw.then_normal (wp_seq (wp_block (wp_seq (Kw.region ?_)))))
    refine KS.p (.agg #[.bool false, .int .i64 7, .int .i64 (s rd)]) ?_
    refine Kw.alloc #[.bool false, .int .i64 0, .int .i64 0] 72 M15 (by kernel_rfl) (by kernel_rfl) fun w16 B16 M16 => ?_
    refine Kw.storeAll 0 72 #[.bool false, .int .i64 7, .int .i64 (s rd)] M16 rfl (by kernel_rfl) (by kernel_rfl) (Eq.trans (b := 3) (by kernel_rfl) (by kernel_rfl)) (by kernel_rfl) (by kernel_rfl) fun w17 M17 => ?_
    refine KS.n5 ?_
    refine KS.p (.pointer (some ⟨B16, 0, none⟩)) ?_
    refine KS.l 4 B16 0 (.bool false) M17 0 Try.underlying4 ?_
    refine KS.p (.bool false) ?_
    refine KS.k ?_
    refine KS.k ?_
    refine KS.k ?_
    refine KS.k ?_
    refine KS.p (.bool false) ?_
    refine KS.n2 ?_
    refine wp_cond_false (by kernel_rfl) ?_
    refine wp_skip (Kw.then_normal (wp_seq (Kw.region ?_)))
    refine KS.p (.pointer (some ⟨B16, 0, none⟩)) ?_
    refine KS.l 4 B16 0 (.bool false) M17 0 Try.underlying4 ?_
    refine KS.n2 ?_
    refine wp_cond_false (by kernel_rfl) ?_
    refine wp_skip (Kw.block_normal (Kw.then_normal (Kw.region ?_)))
    refine KS.p (.int .i64 1) ?_
    refine KS.p (.int .i64 1) ?_
    refine Kw.fin (Kw.then_normal (Kw.round_succ (wp_seq (Kw.region ?_))))
    refine KS.p (.bool true) ?_
    refine Kw.fin (Kw.then_normal (wp_seq ?_))
    refine wp_cond_true (by kernel_rfl) ?_
    refine wp_skip (Kw.then_normal (wp_seq (wp_block (wp_seq (Kw.region ?_)))))
    refine KS.p (.agg #[.bool true, .int .i64 15, .int .i64 (s rs1)]) ?_
    refine Kw.alloc #[.bool false, .int .i64 0, .int .i64 0] 72 M17 (by kernel_rfl) (by kernel_rfl) fun w18 B18 M18 => ?_
    refine Kw.storeAll 0 72 #[.bool true, .int .i64 15, .int .i64 (s rs1)] M18 rfl (by kernel_rfl) (by kernel_rfl) (Eq.trans (b := 3) (by kernel_rfl) (by kernel_rfl)) (by kernel_rfl) (by kernel_rfl) fun w19 M19 => ?_
    refine KS.n5 ?_
    refine KS.p (.pointer (some ⟨B18, 0, none⟩)) ?_
    refine KS.l 4 B18 0 (.bool true) M19 0 Try.underlying4 ?_
    refine KS.p (.bool true) ?_
    refine KS.p (.pointer (some ⟨B18, 2, none⟩)) ?_
    refine KS.l 3 B18 2 (.int .i64 (s rs1)) M19 0 Try.underlying3 ?_
    refine KS.c (.bool F1) 47 #[.int .i64 (s rs1), .int .i64 5, .bool false] M19 (by have h := fits_c rs1 5 false w19; rw [g1] at h; exact h) fun w20 M20 => ?_
    refine KS.p (.bool (!F1)) ?_
    refine KS.p (.bool (!F1)) ?_
    refine KS.n2 ?_
    refine wp_cond_split (t := (!F1)) (by kernel_rfl) (fun h21 => ?_) (fun h21 => ?_)
    · skip
      have h22 : (F1) = false := Kw.not_true h21
      refine wp_seq (Kw.region ?_)
      refine KS.p (.int .u32 0) ?_
      refine KS.p (.bool false) ?_
      refine Kw.fin (Kw.then_normal (wp_ret (Kw.then_ret (Kw.block_ret (Kw.then_ret (Kw.then_ret (Kw.block_ret (Kw.then_ret ?_))))))))
      exact bodyPost_ret (v := .tuple #[.int .u32 0, .bool false]) (by kernel_rfl) (by kernel_rfl) ⟨by simp_all [encR], M20.drop⟩
    · skip
      have h23 : (F1) = true := Kw.not_false h21
      refine wp_skip (Kw.then_normal (wp_seq (Kw.region ?_)))
      refine KS.p (.pointer (some ⟨B18, 0, none⟩)) ?_
      refine KS.l 4 B18 0 (.bool true) M20 0 Try.underlying4 ?_
      refine KS.n2 ?_
      refine wp_cond_true (by kernel_rfl) ?_
      refine Kw.region ?_
      refine KS.p (.int .u64 (u (putI (putI (putI (putI (putI (putI 0#64 0 7 (cd k)) 12 3 (ff k)) 8 4 (getI imm 1 4)) 25 6 (getI imm 5 6)) 7 1 (getI imm 11 1)) 31 1 (getI imm 12 1)))) ?_
      refine KS.p (.pointer (some ⟨B18, 1, none⟩)) ?_
      refine KS.l 3 B18 1 (.int .i64 15) M20 0 Try.underlying3 ?_
      refine KS.p (.pointer (some ⟨B18, 2, none⟩)) ?_
      refine KS.l 3 B18 2 (.int .i64 (s rs1)) M20 0 Try.underlying3 ?_
      refine Kw.pure (.int .u64 (u rs1)) (by kernel_rfl) (Kw.eqv (v := .int .u64 (IntKind.u64.wrap (s rs1))) (by kernel_rfl) (congrArg (Value.int .u64) (wrap_s rs1))) ?_
      refine KS.c (.int .u64 (u (putI (putI (putI (putI (putI (putI (putI 0#64 0 7 (cd k)) 12 3 (ff k)) 8 4 (getI imm 1 4)) 25 6 (getI imm 5 6)) 7 1 (getI imm 11 1)) 31 1 (getI imm 12 1)) 15 5 rs1))) 48 #[.int .u64 (u (putI (putI (putI (putI (putI (putI 0#64 0 7 (cd k)) 12 3 (ff k)) 8 4 (getI imm 1 4)) 25 6 (getI imm 5 6)) 7 1 (getI imm 11 1)) 31 1 (getI imm 12 1))), .int .i64 15, .int .i64 5, .int .u64 (u rs1)] M20 (put_c (putI (putI (putI (putI (putI (putI 0#64 0 7 (cd k)) 12 3 (ff k)) 8 4 (getI imm 1 4)) 25 6 (getI imm 5 6)) 7 1 (getI imm 11 1)) 31 1 (getI imm 12 1)) 15 5 rs1 w20) fun w24 M24 => ?_
      refine KS.p (.int .u64 (u (putI (putI (putI (putI (putI (putI (putI 0#64 0 7 (cd k)) 12 3 (ff k)) 8 4 (getI imm 1 4)) 25 6 (getI imm 5 6)) 7 1 (getI imm 11 1)) 31 1 (getI imm 12 1)) 15 5 rs1))) ?_
      refine Kw.fin (Kw.block_normal (Kw.then_normal (Kw.region ?_)))
      refine KS.p (.int .i64 2) ?_
      refine KS.p (.int .i64 2) ?_
      refine Kw.fin (Kw.then_normal (Kw.round_succ (wp_seq (Kw.region ?_))))
      refine KS.p (.bool true) ?_
      refine Kw.fin (Kw.then_normal (wp_seq ?_))
      refine wp_cond_true (by kernel_rfl) ?_
      refine wp_skip (Kw.then_normal (wp_seq (wp_block (wp_seq (Kw.region ?_)))))
      refine KS.p (.agg #[.bool true, .int .i64 20, .int .i64 (s rs2)]) ?_
      refine Kw.alloc #[.bool false, .int .i64 0, .int .i64 0] 72 M24 (by kernel_rfl) (by kernel_rfl) fun w25 B25 M25 => ?_
      refine Kw.storeAll 0 72 #[.bool true, .int .i64 20, .int .i64 (s rs2)] M25 rfl (by kernel_rfl) (by kernel_rfl) (Eq.trans (b := 3) (by kernel_rfl) (by kernel_rfl)) (by kernel_rfl) (by kernel_rfl) fun w26 M26 => ?_
      refine KS.n5 ?_
      refine KS.p (.pointer (some ⟨B25, 0, none⟩)) ?_
      refine KS.l 4 B25 0 (.bool true) M26 0 Try.underlying4 ?_
      refine KS.p (.bool true) ?_
      refine KS.p (.pointer (some ⟨B25, 2, none⟩)) ?_
      refine KS.l 3 B25 2 (.int .i64 (s rs2)) M26 0 Try.underlying3 ?_
      refine KS.c (.bool F2) 47 #[.int .i64 (s rs2), .int .i64 5, .bool false] M26 (by have h := fits_c rs2 5 false w26; rw [g2] at h; exact h) fun w27 M27 => ?_
      refine KS.p (.bool (!F2)) ?_
      refine KS.p (.bool (!F2)) ?_
      refine KS.n2 ?_
      refine wp_cond_split (t := (!F2)) (by kernel_rfl) (fun h28 => ?_) (fun h28 => ?_)
      · skip
        have h29 : (F2) = false := Kw.not_true h28
        refine wp_seq (Kw.region ?_)
        refine KS.p (.int .u32 0) ?_
        refine KS.p (.bool false) ?_
        refine Kw.fin (Kw.then_normal (wp_ret (Kw.then_ret (Kw.block_ret (Kw.then_ret (Kw.then_ret (Kw.block_ret (Kw.then_ret ?_))))))))
        exact bodyPost_ret (v := .tuple #[.int .u32 0, .bool false]) (by kernel_rfl) (by kernel_rfl) ⟨by simp_all [encR], M27.drop⟩
      · skip
        have h30 : (F2) = true := Kw.not_false h28
        refine wp_skip (Kw.then_normal (wp_seq (Kw.region ?_)))
        refine KS.p (.pointer (some ⟨B25, 0, none⟩)) ?_
        refine KS.l 4 B25 0 (.bool true) M27 0 Try.underlying4 ?_
        refine KS.n2 ?_
        refine wp_cond_true (by kernel_rfl) ?_
        refine Kw.region ?_
        refine KS.p (.int .u64 (u (putI (putI (putI (putI (putI (putI (putI 0#64 0 7 (cd k)) 12 3 (ff k)) 8 4 (getI imm 1 4)) 25 6 (getI imm 5 6)) 7 1 (getI imm 11 1)) 31 1 (getI imm 12 1)) 15 5 rs1))) ?_
        refine KS.p (.pointer (some ⟨B25, 1, none⟩)) ?_
        refine KS.l 3 B25 1 (.int .i64 20) M27 0 Try.underlying3 ?_
        refine KS.p (.pointer (some ⟨B25, 2, none⟩)) ?_
        refine KS.l 3 B25 2 (.int .i64 (s rs2)) M27 0 Try.underlying3 ?_
        refine Kw.pure (.int .u64 (u rs2)) (by kernel_rfl) (Kw.eqv (v := .int .u64 (IntKind.u64.wrap (s rs2))) (by kernel_rfl) (congrArg (Value.int .u64) (wrap_s rs2))) ?_
        refine KS.c (.int .u64 (u (putI (putI (putI (putI (putI (putI (putI (putI 0#64 0 7 (cd k)) 12 3 (ff k)) 8 4 (getI imm 1 4)) 25 6 (getI imm 5 6)) 7 1 (getI imm 11 1)) 31 1 (getI imm 12 1)) 15 5 rs1) 20 5 rs2))) 48 #[.int .u64 (u (putI (putI (putI (putI (putI (putI (putI 0#64 0 7 (cd k)) 12 3 (ff k)) 8 4 (getI imm 1 4)) 25 6 (getI imm 5 6)) 7 1 (getI imm 11 1)) 31 1 (getI imm 12 1)) 15 5 rs1)), .int .i64 20, .int .i64 5, .int .u64 (u rs2)] M27 (put_c (putI (putI (putI (putI (putI (putI (putI 0#64 0 7 (cd k)) 12 3 (ff k)) 8 4 (getI imm 1 4)) 25 6 (getI imm 5 6)) 7 1 (getI imm 11 1)) 31 1 (getI imm 12 1)) 15 5 rs1) 20 5 rs2 w27) fun w31 M31 => ?_
        refine KS.p (.int .u64 (u (putI (putI (putI (putI (putI (putI (putI (putI 0#64 0 7 (cd k)) 12 3 (ff k)) 8 4 (getI imm 1 4)) 25 6 (getI imm 5 6)) 7 1 (getI imm 11 1)) 31 1 (getI imm 12 1)) 15 5 rs1) 20 5 rs2))) ?_
        refine Kw.fin (Kw.block_normal (Kw.then_normal (Kw.region ?_)))
        refine KS.p (.int .i64 3) ?_
        refine KS.p (.int .i64 3) ?_
        refine Kw.fin (Kw.then_normal (Kw.round_succ (wp_seq (Kw.region ?_))))
        refine KS.p (.bool false) ?_
        refine Kw.fin (Kw.then_normal (wp_seq ?_))
        refine wp_cond_false (by kernel_rfl) ?_
        refine wp_exit (Kw.then_exit (Kw.then_exit (Kw.block_hit (Kw.then_normal (wp_seq (Kw.region ?_))))))
        refine KS.p (.int .u64 (u (putI (putI (putI (putI (putI (putI (putI (putI 0#64 0 7 (cd k)) 12 3 (ff k)) 8 4 (getI imm 1 4)) 25 6 (getI imm 5 6)) 7 1 (getI imm 11 1)) 31 1 (getI imm 12 1)) 15 5 rs1) 20 5 rs2))) ?_
        refine Kw.pure (.int .u32 (u ((putI (putI (putI (putI (putI (putI (putI (putI 0#64 0 7 (cd k)) 12 3 (ff k)) 8 4 (getI imm 1 4)) 25 6 (getI imm 5 6)) 7 1 (getI imm 11 1)) 31 1 (getI imm 12 1)) 15 5 rs1) 20 5 rs2) &&& 4294967295#64))) (by kernel_rfl) (Kw.eqv (v := .int .u32 (IntKind.u32.wrap (u (putI (putI (putI (putI (putI (putI (putI (putI 0#64 0 7 (cd k)) 12 3 (ff k)) 8 4 (getI imm 1 4)) 25 6 (getI imm 5 6)) 7 1 (getI imm 11 1)) 31 1 (getI imm 12 1)) 15 5 rs1) 20 5 rs2)))) (by kernel_rfl) (congrArg (Value.int .u32) (wrap32_u (putI (putI (putI (putI (putI (putI (putI (putI 0#64 0 7 (cd k)) 12 3 (ff k)) 8 4 (getI imm 1 4)) 25 6 (getI imm 5 6)) 7 1 (getI imm 11 1)) 31 1 (getI imm 12 1)) 15 5 rs1) 20 5 rs2)))) ?_
        refine KS.p (.int .u32 (u ((putI (putI (putI (putI (putI (putI (putI (putI 0#64 0 7 (cd k)) 12 3 (ff k)) 8 4 (getI imm 1 4)) 25 6 (getI imm 5 6)) 7 1 (getI imm 11 1)) 31 1 (getI imm 12 1)) 15 5 rs1) 20 5 rs2) &&& 4294967295#64))) ?_
        refine KS.p (.bool true) ?_
        refine Kw.fin (Kw.then_normal (wp_ret ?_))
        exact bodyPost_ret (v := .tuple #[.int .u32 (u ((putI (putI (putI (putI (putI (putI (putI (putI 0#64 0 7 (cd k)) 12 3 (ff k)) 8 4 (getI imm 1 4)) 25 6 (getI imm 5 6)) 7 1 (getI imm 11 1)) 31 1 (getI imm 12 1)) 15 5 rs1) 20 5 rs2) &&& 4294967295#64)), .bool true]) (by kernel_rfl) (by kernel_rfl) ⟨by simp_all [encR], M31.drop⟩
def word_U (k : Nat) (rd rs1 rs2 imm : BitVec 64) : BitVec 64 := (putI (putI (putI 0#64 0 7 (cd k)) 12 20 (getI imm 12 20)) 7 5 rd)
set_option maxRecDepth 100000 in
set_option maxHeartbeats 1000000 in
theorem enc_U (k : Nat) (hk : k < 69) (hs : sh k = 85) (rd rs1 rs2 imm : BitVec 64) (F0 : Bool) (h0 : fitB_U imm = F0) (F1 : Bool) (g1 : fitsI rd 5 false = F1) (W : World) : Calls Try.prog 25 #[.agg #[.int .i64 ((k + 1 : Nat) : Int), .int .i64 (s rd), .int .i64 (s rs1), .int .i64 (s rs2), .int .i64 (s imm)]] W fun e W' => e = .returned (encR (F0 && F1) (word_U k rd rs1 rs2 imm)) ∧ Kw.Mem [] W W' [] := by
  unfold word_U
  refine calls_of_wp Try.func25 rfl ?_
  have M0 : Kw.Mem [] W W [] := Kw.Mem.start _ _
  refine Kw.to (b := ⟨#[.agg #[.int .i64 ((k + 1 : Nat) : Int), .int .i64 (s rd), .int .i64 (s rs1), .int .i64 (s rs2), .int .i64 (s imm)], undef, undef, undef, undef, undef, undef, undef, undef, undef, undef, undef, undef, undef, undef, undef, undef, undef, undef, undef, undef, undef, undef, undef, undef, undef, undef, undef, undef, undef, undef, undef, undef, undef, undef, undef, undef, undef, undef, undef, undef, undef, undef, undef, undef, undef, undef, undef, undef, undef, undef, undef, undef, undef, undef, undef, undef, undef, undef, undef, undef, undef, undef, undef, undef, undef, undef, undef, undef, undef, undef, undef, undef, undef, undef, undef, undef, undef, undef, undef, undef, undef, undef, undef, undef], []⟩) (by kernel_rfl) ?_
  refine wp_seq (Kw.region ?_)
  refine Kw.alloc #[.int .i64 ((k + 1 : Nat) : Int), .int .i64 (s rd), .int .i64 (s rs1), .int .i64 (s rs2), .int .i64 (s imm)] 36 M0 (by kernel_rfl) (by kernel_rfl) fun w1 B1 M1 => ?_
  refine KS.p (.int .u32 0) ?_
  refine KS.p (.bool false) ?_
  refine KS.n4 ?_
  refine KS.p (.pointer (some ⟨B1, 0, none⟩)) ?_
  refine KS.l 3 B1 0 (.int .i64 ((k + 1 : Nat) : Int)) M1 0 Try.underlying3 ?_
  refine KS.c (.tuple #[.agg #[.string (nm k), .int .u8 85, .int .u64 (u (cd k)), .int .u64 (u (ff k)), .int .u64 (u (ot k))], .bool true]) 41 #[.int .i64 ((k + 1 : Nat) : Int)] M1 (of_sh 85 k hk hs w1) fun w2 M2 => ?_
  refine KS.p (.tuple #[.agg #[.string (nm k), .int .u8 85, .int .u64 (u (cd k)), .int .u64 (u (ff k)), .int .u64 (u (ot k))], .bool true]) ?_
  refine KS.p (.agg #[.string (nm k), .int .u8 85, .int .u64 (u (cd k)), .int .u64 (u (ff k)), .int .u64 (u (ot k))]) ?_
  refine KS.p (.bool true) ?_
  refine Kw.alloc #[.string ⟨#[]⟩, .int .u8 0, .int .u64 0, .int .u64 0, .int .u64 0] 59 M2 (by kernel_rfl) (by kernel_rfl) fun w3 B3 M3 => ?_
  refine Kw.storeAll 0 59 #[.string (nm k), .int .u8 85, .int .u64 (u (cd k)), .int .u64 (u (ff k)), .int .u64 (u (ot k))] M3 rfl (by kernel_rfl) (by kernel_rfl) (Eq.trans (b := 5) (by kernel_rfl) (by kernel_rfl)) (by kernel_rfl) (by kernel_rfl) fun w4 M4 => ?_
  refine KS.p (.bool true) ?_
  refine Kw.fin (Kw.then_normal (wp_seq (wp_seq ?_)))
  refine Held.start (fun w => Kw.Mem [] W w [(B3, #[.string (nm k), .int .u8 85, .int .u64 (u (cd k)), .int .u64 (u (ff k)), .int .u64 (u (ot k))], 59), (B1, #[.int .i64 ((k + 1 : Nat) : Int), .int .i64 (s rd), .int .i64 (s rs1), .int .i64 (s rs2), .int .i64 (s imm)], 36)]) (by kernel_rfl) ?_
  have M5 := M4.drew
  have MS := M5
  refine KS.hp 0 (.bool true) MS ?_
  refine KS.hp 1 (.bool false) MS ?_
  refine KS.hp 2 (.bool false) MS ?_
  refine KS.hp 3 (.pointer (some ⟨B3, 1, none⟩)) MS ?_
  refine Held.take 4 (Canon.ldS 5 (.pointer (some ⟨B3, 1, none⟩))) (.int .u8 85) rfl (by decide +kernel) (by decide +kernel) (by decide +kernel) (by kernel_rfl) (by kernel_rfl) (fun w hw => Kw.ld_cell 5 1 (.int .u8 85) (hw.get 0 rfl) (by kernel_rfl) _ Try.underlying5 rfl) MS ?_
  refine KS.hp 6 (.pointer (some ⟨B1, 4, none⟩)) MS ?_
  refine Held.take 7 (Canon.ldS 2 (.pointer (some ⟨B1, 4, none⟩))) (.int .i64 (s imm)) rfl (by decide +kernel) (by decide +kernel) (by decide +kernel) (by kernel_rfl) (by kernel_rfl) (fun w hw => Kw.ld_cell 2 4 (.int .i64 (s imm)) (hw.get 1 rfl) (by kernel_rfl) _ Try.underlying2 rfl) MS ?_
  refine Held.oneCall (ι := Nat) 5 (fun B => (.agg #[.slice (some ⟨B, 0, none⟩) 1 1, .int .i64 32, .bool true, .int .i64 12])) 42 #[.int .u8 85] (R := fun B w1 => Kw.Mem [] (w4.drew) w1 [(B, #[.int .i64 12, .int .i64 20, .int .i64 12], 89)]) rfl (by decide +kernel) (by kernel_rfl) (by kernel_rfl) (laid_U (w4.drew)) fun B6 w6 hc => ?_
  have M6 := Held.mem_new M5 hc
  clear hc
  refine ⟨(Held.mem_tail M6), ?_⟩
  have MS := (Held.mem_tail M6)
  refine Held.oneCall (ι := Unit) 8 (fun _ => (.bool F0)) 43 #[.agg #[.slice (some ⟨B6, 0, none⟩) 1 1, .int .i64 32, .bool true, .int .i64 12], .int .i64 (s imm)] (R := fun _ w1 => Kw.Mem [] w6 w1 []) rfl (by decide +kernel) (by kernel_rfl) (by kernel_rfl) (Held.unit (by have h := fit_U imm w6 B6 (Held.mem_of M6 0 rfl); rw [h0] at h; exact h)) fun _ w7 hc => ?_
  have M7 := M6.call hc
  clear hc
  refine ⟨(Held.mem_tail M7), ?_⟩
  have MS := (Held.mem_tail M7)
  refine KS.hp 9 (.bool (!F0)) MS ?_
  refine KS.hp 10 (.bool (!F0)) MS ?_
  refine Held.done (by decide +kernel) ?_
  refine Kw.then_normal ?_
  refine wp_cond_split (t := (!F0)) (by kernel_rfl) (fun h8 => ?_) (fun h8 => ?_)
  · skip
    have h9 : (F0) = false := Kw.not_true h8
    refine wp_seq (Kw.region ?_)
    refine KS.p (.int .u32 0) ?_
    refine KS.p (.bool false) ?_
    refine Kw.fin (Kw.then_normal (wp_ret (Kw.then_ret ?_)))
    exact bodyPost_ret (v := .tuple #[.int .u32 0, .bool false]) (by kernel_rfl) (by kernel_rfl) ⟨by simp_all [encR], M7.drop⟩
  · skip
    have h10 : (F0) = true := Kw.not_false h8
    refine wp_skip (Kw.then_normal (wp_seq (Kw.region ?_)))
    refine KS.la 59 B3 _ M7 1 Try.underlying59 ?_
    refine KS.c (.tuple #[.int .u64 (u (putI 0#64 0 7 (cd k))), .int .u64 (u (putI 0#64 0 7 18446744073709551615#64))]) 44 #[.agg #[.string (nm k), .int .u8 85, .int .u64 (u (cd k)), .int .u64 (u (ff k)), .int .u64 (u (ot k))]] M7 (fixed_U (nm k) (cd k) (ff k) (ot k) w7) fun w11 M11 => ?_
    refine KS.p (.tuple #[.int .u64 (u (putI 0#64 0 7 (cd k))), .int .u64 (u (putI 0#64 0 7 18446744073709551615#64))]) ?_
    refine KS.p (.int .u64 (u (putI 0#64 0 7 (cd k)))) ?_
    refine KS.p (.int .u64 (u (putI 0#64 0 7 18446744073709551615#64))) ?_
    refine KS.p (.int .u64 (u (putI 0#64 0 7 (cd k)))) ?_
    refine KS.p (.int .u64 (u (putI 0#64 0 7 18446744073709551615#64))) ?_
    refine KS.n4 ?_
    refine KS.p (.pointer (some ⟨B3, 1, none⟩)) ?_
    refine KS.l 5 B3 1 (.int .u8 85) M11 1 Try.underlying5 ?_
    refine KS.c (.tuple #[.bool true, .bool false, .bool false]) 45 #[.int .u8 85] M11 (has_U w11) fun w12 M12 => ?_
    refine KS.p (.tuple #[.bool true, .bool false, .bool false]) ?_
    refine KS.p (.bool true) ?_
    refine KS.p (.bool false) ?_
    refine KS.p (.bool false) ?_
    refine KS.p (.bool true) ?_
    refine KS.p (.bool false) ?_
    refine KS.p (.bool false) ?_
    refine Kw.fin (Kw.then_normal (wp_seq ?_))
    refine Held.start (fun w => Kw.Mem [] W w [(B6, #[.int .i64 12, .int .i64 20, .int .i64 12], 89), (B3, #[.string (nm k), .int .u8 85, .int .u64 (u (cd k)), .int .u64 (u (ff k)), .int .u64 (u (ot k))], 59), (B1, #[.int .i64 ((k + 1 : Nat) : Int), .int .i64 (s rd), .int .i64 (s rs1), .int .i64 (s rs2), .int .i64 (s imm)], 36)]) (by kernel_rfl) ?_
    have M13 := M12.drew
    have MS := M13
    refine KS.hp 0 (.pointer (some ⟨B3, 1, none⟩)) MS ?_
    refine Held.take 1 (Canon.ldS 5 (.pointer (some ⟨B3, 1, none⟩))) (.int .u8 85) rfl (by decide +kernel) (by decide +kernel) (by decide +kernel) (by kernel_rfl) (by kernel_rfl) (fun w hw => Kw.ld_cell 5 1 (.int .u8 85) (hw.get 1 rfl) (by kernel_rfl) _ Try.underlying5 rfl) MS ?_
    refine KS.hp 3 (.int .u64 (u (putI 0#64 0 7 (cd k)))) MS ?_
    refine KS.hp 4 (.pointer (some ⟨B1, 4, none⟩)) MS ?_
    refine Held.take 5 (Canon.ldS 2 (.pointer (some ⟨B1, 4, none⟩))) (.int .i64 (s imm)) rfl (by decide +kernel) (by decide +kernel) (by decide +kernel) (by kernel_rfl) (by kernel_rfl) (fun w hw => Kw.ld_cell 2 4 (.int .i64 (s imm)) (hw.get 2 rfl) (by kernel_rfl) _ Try.underlying2 rfl) MS ?_
    refine Held.oneCall (ι := Nat) 2 (fun B => (.agg #[.slice (some ⟨B, 0, none⟩) 1 1, .int .i64 32, .bool true, .int .i64 12])) 42 #[.int .u8 85] (R := fun B w1 => Kw.Mem [] (w12.drew) w1 [(B, #[.int .i64 12, .int .i64 20, .int .i64 12], 89)]) rfl (by decide +kernel) (by kernel_rfl) (by kernel_rfl) (laid_U (w12.drew)) fun B14 w14 hc => ?_
    have M14 := Held.mem_new M13 hc
    clear hc
    refine ⟨(Held.mem_tail M14), ?_⟩
    have MS := (Held.mem_tail M14)
    refine Held.oneCall (ι := Unit) 6 (fun _ => (.int .u64 (u (putI (putI 0#64 0 7 (cd k)) 12 20 (getI imm 12 20))))) 46 #[.agg #[.slice (some ⟨B14, 0, none⟩) 1 1, .int .i64 32, .bool true, .int .i64 12], .int .u64 (u (putI 0#64 0 7 (cd k))), .int .i64 (s imm)] (R := fun _ w1 => Kw.Mem [] w14 w1 []) rfl (by decide +kernel) (by kernel_rfl) (by kernel_rfl) (Held.unit (lay_U (putI 0#64 0 7 (cd k)) imm w14 B14 (Held.mem_of M14 0 rfl))) fun _ w15 hc => ?_
    have M15 := M14.call hc
    clear hc
    refine ⟨(Held.mem_tail M15), ?_⟩
    have MS := (Held.mem_tail M15)
    refine KS.hp 7 (.int .u64 (u (putI (putI 0#64 0 7 (cd k)) 12 20 (getI imm 12 20)))) MS ?_
    refine Held.done (by decide +kernel) ?_
    refine Kw.then_normal (wp_seq (wp_seq (Kw.region ?_)))
    refine KS.p (.bool true) ?_
    refine KS.p (.pointer (some ⟨B1, 1, none⟩)) ?_
    refine KS.l 3 B1 1 (.int .i64 (s rd)) M15 3 Try.underlying3 ?_
    refine KS.p (.agg #[.bool true, .int .i64 7, .int .i64 (s rd)]) ?_
    refine KS.p (.bool false) ?_
    refine KS.p (.pointer (some ⟨B1, 2, none⟩)) ?_
    refine KS.l 3 B1 2 (.int .i64 (s rs1)) M15 3 Try.underlying3 ?_
    refine KS.p (.agg #[.bool false, .int .i64 15, .int .i64 (s rs1)]) ?_
    refine KS.p (.bool false) ?_
    refine KS.p (.pointer (some ⟨B1, 3, none⟩)) ?_
    refine KS.l 3 B1 3 (.int .i64 (s rs2)) M15 3 Try.underlying3 ?_
    refine KS.p (.agg #[.bool false, .int .i64 20, .int .i64 (s rs2)]) ?_
    refine KS.p (.agg #[.bool true, .int .i64 7, .int .i64 (s rd), .bool false, .int .i64 15, .int .i64 (s rs1), .bool false, .int .i64 20, .int .i64 (s rs2)]) ?_
    refine KS.p (.int .i64 0) ?_
    refine Kw.fin (Kw.then_normal (wp_block ?_))
    refine wp_loop_rounds 4 ?_
    refine Kw.round_succ (wp_seq (Kw.region ?_))
    refine KS.p (.bool true) ?_
    refine Kw.fin (Kw.then_normal (wp_seq ?_))
    refine wp_cond_true (by kernel_rfl) ?_
    refine wp_skip (Kw.then_normal (wp_seq (wp_block (wp_seq (Kw.region ?_)))))
    refine KS.p (.agg #[.bool true, .int .i64 7, .int .i64 (s rd)]) ?_
    refine Kw.alloc #[.bool false, .int .i64 0, .int .i64 0] 72 M15 (by kernel_rfl) (by kernel_rfl) fun w16 B16 M16 => ?_
    refine Kw.storeAll 0 72 #[.bool true, .int .i64 7, .int .i64 (s rd)] M16 rfl (by kernel_rfl) (by kernel_rfl) (Eq.trans (b := 3) (by kernel_rfl) (by kernel_rfl)) (by kernel_rfl) (by kernel_rfl) fun w17 M17 => ?_
    refine KS.n5 ?_
    refine KS.p (.pointer (some ⟨B16, 0, none⟩)) ?_
    refine KS.l 4 B16 0 (.bool true) M17 0 Try.underlying4 ?_
    refine KS.p (.bool true) ?_
    refine KS.p (.pointer (some ⟨B16, 2, none⟩)) ?_
    refine KS.l 3 B16 2 (.int .i64 (s rd)) M17 0 Try.underlying3 ?_
    refine KS.c (.bool F1) 47 #[.int .i64 (s rd), .int .i64 5, .bool false] M17 (by have h := fits_c rd 5 false w17; rw [g1] at h; exact h) fun w18 M18 => ?_
    refine KS.p (.bool (!F1)) ?_
    refine KS.p (.bool (!F1)) ?_
    refine KS.n2 ?_
    refine wp_cond_split (t := (!F1)) (by kernel_rfl) (fun h19 => ?_) (fun h19 => ?_)
    · skip
      have h20 : (F1) = false := Kw.not_true h19
      refine wp_seq (Kw.region ?_)
      refine KS.p (.int .u32 0) ?_
      refine KS.p (.bool false) ?_
      refine Kw.fin (Kw.then_normal (wp_ret (Kw.then_ret (Kw.block_ret (Kw.then_ret (Kw.then_ret (Kw.block_ret (Kw.then_ret ?_))))))))
      exact bodyPost_ret (v := .tuple #[.int .u32 0, .bool false]) (by kernel_rfl) (by kernel_rfl) ⟨by simp_all [encR], M18.drop⟩
    · skip
      have h21 : (F1) = true := Kw.not_false h19
      refine wp_skip (Kw.then_normal (wp_seq (Kw.region ?_)))
      refine KS.p (.pointer (some ⟨B16, 0, none⟩)) ?_
      refine KS.l 4 B16 0 (.bool true) M18 0 Try.underlying4 ?_
      refine KS.n2 ?_
      refine wp_cond_true (by kernel_rfl) ?_
      refine Kw.region ?_
      refine KS.p (.int .u64 (u (putI (putI 0#64 0 7 (cd k)) 12 20 (getI imm 12 20)))) ?_
      refine KS.p (.pointer (some ⟨B16, 1, none⟩)) ?_
      refine KS.l 3 B16 1 (.int .i64 7) M18 0 Try.underlying3 ?_
      refine KS.p (.pointer (some ⟨B16, 2, none⟩)) ?_
      refine KS.l 3 B16 2 (.int .i64 (s rd)) M18 0 Try.underlying3 ?_
      refine Kw.pure (.int .u64 (u rd)) (by kernel_rfl) (Kw.eqv (v := .int .u64 (IntKind.u64.wrap (s rd))) (by kernel_rfl) (congrArg (Value.int .u64) (wrap_s rd))) ?_
      refine KS.c (.int .u64 (u (putI (putI (putI 0#64 0 7 (cd k)) 12 20 (getI imm 12 20)) 7 5 rd))) 48 #[.int .u64 (u (putI (putI 0#64 0 7 (cd k)) 12 20 (getI imm 12 20))), .int .i64 7, .int .i64 5, .int .u64 (u rd)] M18 (put_c (putI (putI 0#64 0 7 (cd k)) 12 20 (getI imm 12 20)) 7 5 rd w18) fun w22 M22 => ?_
      refine KS.p (.int .u64 (u (putI (putI (putI 0#64 0 7 (cd k)) 12 20 (getI imm 12 20)) 7 5 rd))) ?_
      refine Kw.fin (Kw.block_normal (Kw.then_normal (Kw.region ?_)))
      refine KS.p (.int .i64 1) ?_
      refine KS.p (.int .i64 1) ?_
      refine Kw.fin (Kw.then_normal (Kw.round_succ (wp_seq (Kw.region ?_))))
      refine KS.p (.bool true) ?_
      refine Kw.fin (Kw.then_normal (wp_seq ?_))
      refine wp_cond_true (by kernel_rfl) ?_
      refine wp_skip (Kw.then_normal (wp_seq (wp_block (wp_seq (Kw.region ?_)))))
      refine KS.p (.agg #[.bool false, .int .i64 15, .int .i64 (s rs1)]) ?_
      refine Kw.alloc #[.bool false, .int .i64 0, .int .i64 0] 72 M22 (by kernel_rfl) (by kernel_rfl) fun w23 B23 M23 => ?_
      refine Kw.storeAll 0 72 #[.bool false, .int .i64 15, .int .i64 (s rs1)] M23 rfl (by kernel_rfl) (by kernel_rfl) (Eq.trans (b := 3) (by kernel_rfl) (by kernel_rfl)) (by kernel_rfl) (by kernel_rfl) fun w24 M24 => ?_
      refine KS.n5 ?_
      refine KS.p (.pointer (some ⟨B23, 0, none⟩)) ?_
      refine KS.l 4 B23 0 (.bool false) M24 0 Try.underlying4 ?_
      refine KS.p (.bool false) ?_
      refine KS.k ?_
      refine KS.k ?_
      refine KS.k ?_
      refine KS.k ?_
      refine KS.p (.bool false) ?_
      refine KS.n2 ?_
      refine wp_cond_false (by kernel_rfl) ?_
      refine wp_skip (Kw.then_normal (wp_seq (Kw.region ?_)))
      refine KS.p (.pointer (some ⟨B23, 0, none⟩)) ?_
      refine KS.l 4 B23 0 (.bool false) M24 0 Try.underlying4 ?_
      refine KS.n2 ?_
      refine wp_cond_false (by kernel_rfl) ?_
      refine wp_skip (Kw.block_normal (Kw.then_normal (Kw.region ?_)))
      refine KS.p (.int .i64 2) ?_
      refine KS.p (.int .i64 2) ?_
      refine Kw.fin (Kw.then_normal (Kw.round_succ (wp_seq (Kw.region ?_))))
      refine KS.p (.bool true) ?_
      refine Kw.fin (Kw.then_normal (wp_seq ?_))
      refine wp_cond_true (by kernel_rfl) ?_
      refine wp_skip (Kw.then_normal (wp_seq (wp_block (wp_seq (Kw.region ?_)))))
      refine KS.p (.agg #[.bool false, .int .i64 20, .int .i64 (s rs2)]) ?_
      refine Kw.alloc #[.bool false, .int .i64 0, .int .i64 0] 72 M24 (by kernel_rfl) (by kernel_rfl) fun w25 B25 M25 => ?_
      refine Kw.storeAll 0 72 #[.bool false, .int .i64 20, .int .i64 (s rs2)] M25 rfl (by kernel_rfl) (by kernel_rfl) (Eq.trans (b := 3) (by kernel_rfl) (by kernel_rfl)) (by kernel_rfl) (by kernel_rfl) fun w26 M26 => ?_
      refine KS.n5 ?_
      refine KS.p (.pointer (some ⟨B25, 0, none⟩)) ?_
      refine KS.l 4 B25 0 (.bool false) M26 0 Try.underlying4 ?_
      refine KS.p (.bool false) ?_
      refine KS.k ?_
      refine KS.k ?_
      refine KS.k ?_
      refine KS.k ?_
      refine KS.p (.bool false) ?_
      refine KS.n2 ?_
      refine wp_cond_false (by kernel_rfl) ?_
      refine wp_skip (Kw.then_normal (wp_seq (Kw.region ?_)))
      refine KS.p (.pointer (some ⟨B25, 0, none⟩)) ?_
      refine KS.l 4 B25 0 (.bool false) M26 0 Try.underlying4 ?_
      refine KS.n2 ?_
      refine wp_cond_false (by kernel_rfl) ?_
      refine wp_skip (Kw.block_normal (Kw.then_normal (Kw.region ?_)))
      refine KS.p (.int .i64 3) ?_
      refine KS.p (.int .i64 3) ?_
      refine Kw.fin (Kw.then_normal (Kw.round_succ (wp_seq (Kw.region ?_))))
      refine KS.p (.bool false) ?_
      refine Kw.fin (Kw.then_normal (wp_seq ?_))
      refine wp_cond_false (by kernel_rfl) ?_
      refine wp_exit (Kw.then_exit (Kw.then_exit (Kw.block_hit (Kw.then_normal (wp_seq (Kw.region ?_))))))
      refine KS.p (.int .u64 (u (putI (putI (putI 0#64 0 7 (cd k)) 12 20 (getI imm 12 20)) 7 5 rd))) ?_
      refine Kw.pure (.int .u32 (u ((putI (putI (putI 0#64 0 7 (cd k)) 12 20 (getI imm 12 20)) 7 5 rd) &&& 4294967295#64))) (by kernel_rfl) (Kw.eqv (v := .int .u32 (IntKind.u32.wrap (u (putI (putI (putI 0#64 0 7 (cd k)) 12 20 (getI imm 12 20)) 7 5 rd)))) (by kernel_rfl) (congrArg (Value.int .u32) (wrap32_u (putI (putI (putI 0#64 0 7 (cd k)) 12 20 (getI imm 12 20)) 7 5 rd)))) ?_
      refine KS.p (.int .u32 (u ((putI (putI (putI 0#64 0 7 (cd k)) 12 20 (getI imm 12 20)) 7 5 rd) &&& 4294967295#64))) ?_
      refine KS.p (.bool true) ?_
      refine Kw.fin (Kw.then_normal (wp_ret ?_))
      exact bodyPost_ret (v := .tuple #[.int .u32 (u ((putI (putI (putI 0#64 0 7 (cd k)) 12 20 (getI imm 12 20)) 7 5 rd) &&& 4294967295#64)), .bool true]) (by kernel_rfl) (by kernel_rfl) ⟨by simp_all [encR], M26.drop⟩
def word_J (k : Nat) (rd rs1 rs2 imm : BitVec 64) : BitVec 64 := (putI (putI (putI (putI (putI (putI 0#64 0 7 (cd k)) 12 8 (getI imm 12 8)) 20 1 (getI imm 11 1)) 21 10 (getI imm 1 10)) 31 1 (getI imm 20 1)) 7 5 rd)
set_option maxRecDepth 100000 in
set_option maxHeartbeats 1000000 in
theorem enc_J (k : Nat) (hk : k < 69) (hs : sh k = 74) (rd rs1 rs2 imm : BitVec 64) (F0 : Bool) (h0 : fitB_J imm = F0) (F1 : Bool) (g1 : fitsI rd 5 false = F1) (W : World) : Calls Try.prog 25 #[.agg #[.int .i64 ((k + 1 : Nat) : Int), .int .i64 (s rd), .int .i64 (s rs1), .int .i64 (s rs2), .int .i64 (s imm)]] W fun e W' => e = .returned (encR (F0 && F1) (word_J k rd rs1 rs2 imm)) ∧ Kw.Mem [] W W' [] := by
  unfold word_J
  refine calls_of_wp Try.func25 rfl ?_
  have M0 : Kw.Mem [] W W [] := Kw.Mem.start _ _
  refine Kw.to (b := ⟨#[.agg #[.int .i64 ((k + 1 : Nat) : Int), .int .i64 (s rd), .int .i64 (s rs1), .int .i64 (s rs2), .int .i64 (s imm)], undef, undef, undef, undef, undef, undef, undef, undef, undef, undef, undef, undef, undef, undef, undef, undef, undef, undef, undef, undef, undef, undef, undef, undef, undef, undef, undef, undef, undef, undef, undef, undef, undef, undef, undef, undef, undef, undef, undef, undef, undef, undef, undef, undef, undef, undef, undef, undef, undef, undef, undef, undef, undef, undef, undef, undef, undef, undef, undef, undef, undef, undef, undef, undef, undef, undef, undef, undef, undef, undef, undef, undef, undef, undef, undef, undef, undef, undef, undef, undef, undef, undef, undef, undef], []⟩) (by kernel_rfl) ?_
  refine wp_seq (Kw.region ?_)
  refine Kw.alloc #[.int .i64 ((k + 1 : Nat) : Int), .int .i64 (s rd), .int .i64 (s rs1), .int .i64 (s rs2), .int .i64 (s imm)] 36 M0 (by kernel_rfl) (by kernel_rfl) fun w1 B1 M1 => ?_
  refine KS.p (.int .u32 0) ?_
  refine KS.p (.bool false) ?_
  refine KS.n4 ?_
  refine KS.p (.pointer (some ⟨B1, 0, none⟩)) ?_
  refine KS.l 3 B1 0 (.int .i64 ((k + 1 : Nat) : Int)) M1 0 Try.underlying3 ?_
  refine KS.c (.tuple #[.agg #[.string (nm k), .int .u8 74, .int .u64 (u (cd k)), .int .u64 (u (ff k)), .int .u64 (u (ot k))], .bool true]) 41 #[.int .i64 ((k + 1 : Nat) : Int)] M1 (of_sh 74 k hk hs w1) fun w2 M2 => ?_
  refine KS.p (.tuple #[.agg #[.string (nm k), .int .u8 74, .int .u64 (u (cd k)), .int .u64 (u (ff k)), .int .u64 (u (ot k))], .bool true]) ?_
  refine KS.p (.agg #[.string (nm k), .int .u8 74, .int .u64 (u (cd k)), .int .u64 (u (ff k)), .int .u64 (u (ot k))]) ?_
  refine KS.p (.bool true) ?_
  refine Kw.alloc #[.string ⟨#[]⟩, .int .u8 0, .int .u64 0, .int .u64 0, .int .u64 0] 59 M2 (by kernel_rfl) (by kernel_rfl) fun w3 B3 M3 => ?_
  refine Kw.storeAll 0 59 #[.string (nm k), .int .u8 74, .int .u64 (u (cd k)), .int .u64 (u (ff k)), .int .u64 (u (ot k))] M3 rfl (by kernel_rfl) (by kernel_rfl) (Eq.trans (b := 5) (by kernel_rfl) (by kernel_rfl)) (by kernel_rfl) (by kernel_rfl) fun w4 M4 => ?_
  refine KS.p (.bool true) ?_
  refine Kw.fin (Kw.then_normal (wp_seq (wp_seq ?_)))
  refine Held.start (fun w => Kw.Mem [] W w [(B3, #[.string (nm k), .int .u8 74, .int .u64 (u (cd k)), .int .u64 (u (ff k)), .int .u64 (u (ot k))], 59), (B1, #[.int .i64 ((k + 1 : Nat) : Int), .int .i64 (s rd), .int .i64 (s rs1), .int .i64 (s rs2), .int .i64 (s imm)], 36)]) (by kernel_rfl) ?_
  have M5 := M4.drew
  have MS := M5
  refine KS.hp 0 (.bool true) MS ?_
  refine KS.hp 1 (.bool false) MS ?_
  refine KS.hp 2 (.bool false) MS ?_
  refine KS.hp 3 (.pointer (some ⟨B3, 1, none⟩)) MS ?_
  refine Held.take 4 (Canon.ldS 5 (.pointer (some ⟨B3, 1, none⟩))) (.int .u8 74) rfl (by decide +kernel) (by decide +kernel) (by decide +kernel) (by kernel_rfl) (by kernel_rfl) (fun w hw => Kw.ld_cell 5 1 (.int .u8 74) (hw.get 0 rfl) (by kernel_rfl) _ Try.underlying5 rfl) MS ?_
  refine KS.hp 6 (.pointer (some ⟨B1, 4, none⟩)) MS ?_
  refine Held.take 7 (Canon.ldS 2 (.pointer (some ⟨B1, 4, none⟩))) (.int .i64 (s imm)) rfl (by decide +kernel) (by decide +kernel) (by decide +kernel) (by kernel_rfl) (by kernel_rfl) (fun w hw => Kw.ld_cell 2 4 (.int .i64 (s imm)) (hw.get 1 rfl) (by kernel_rfl) _ Try.underlying2 rfl) MS ?_
  refine Held.oneCall (ι := Nat) 5 (fun B => (.agg #[.slice (some ⟨B, 0, none⟩) 4 4, .int .i64 21, .bool true, .int .i64 1])) 42 #[.int .u8 74] (R := fun B w1 => Kw.Mem [] (w4.drew) w1 [(B, #[.int .i64 12, .int .i64 8, .int .i64 12, .int .i64 11, .int .i64 1, .int .i64 20, .int .i64 1, .int .i64 10, .int .i64 21, .int .i64 20, .int .i64 1, .int .i64 31], 89)]) rfl (by decide +kernel) (by kernel_rfl) (by kernel_rfl) (laid_J (w4.drew)) fun B6 w6 hc => ?_
  have M6 := Held.mem_new M5 hc
  clear hc
  refine ⟨(Held.mem_tail M6), ?_⟩
  have MS := (Held.mem_tail M6)
  refine Held.oneCall (ι := Unit) 8 (fun _ => (.bool F0)) 43 #[.agg #[.slice (some ⟨B6, 0, none⟩) 4 4, .int .i64 21, .bool true, .int .i64 1], .int .i64 (s imm)] (R := fun _ w1 => Kw.Mem [] w6 w1 []) rfl (by decide +kernel) (by kernel_rfl) (by kernel_rfl) (Held.unit (by have h := fit_J imm w6 B6 (Held.mem_of M6 0 rfl); rw [h0] at h; exact h)) fun _ w7 hc => ?_
  have M7 := M6.call hc
  clear hc
  refine ⟨(Held.mem_tail M7), ?_⟩
  have MS := (Held.mem_tail M7)
  refine KS.hp 9 (.bool (!F0)) MS ?_
  refine KS.hp 10 (.bool (!F0)) MS ?_
  refine Held.done (by decide +kernel) ?_
  refine Kw.then_normal ?_
  refine wp_cond_split (t := (!F0)) (by kernel_rfl) (fun h8 => ?_) (fun h8 => ?_)
  · skip
    have h9 : (F0) = false := Kw.not_true h8
    refine wp_seq (Kw.region ?_)
    refine KS.p (.int .u32 0) ?_
    refine KS.p (.bool false) ?_
    refine Kw.fin (Kw.then_normal (wp_ret (Kw.then_ret ?_)))
    exact bodyPost_ret (v := .tuple #[.int .u32 0, .bool false]) (by kernel_rfl) (by kernel_rfl) ⟨by simp_all [encR], M7.drop⟩
  · skip
    have h10 : (F0) = true := Kw.not_false h8
    refine wp_skip (Kw.then_normal (wp_seq (Kw.region ?_)))
    refine KS.la 59 B3 _ M7 1 Try.underlying59 ?_
    refine KS.c (.tuple #[.int .u64 (u (putI 0#64 0 7 (cd k))), .int .u64 (u (putI 0#64 0 7 18446744073709551615#64))]) 44 #[.agg #[.string (nm k), .int .u8 74, .int .u64 (u (cd k)), .int .u64 (u (ff k)), .int .u64 (u (ot k))]] M7 (fixed_J (nm k) (cd k) (ff k) (ot k) w7) fun w11 M11 => ?_
    refine KS.p (.tuple #[.int .u64 (u (putI 0#64 0 7 (cd k))), .int .u64 (u (putI 0#64 0 7 18446744073709551615#64))]) ?_
    refine KS.p (.int .u64 (u (putI 0#64 0 7 (cd k)))) ?_
    refine KS.p (.int .u64 (u (putI 0#64 0 7 18446744073709551615#64))) ?_
    refine KS.p (.int .u64 (u (putI 0#64 0 7 (cd k)))) ?_
    refine KS.p (.int .u64 (u (putI 0#64 0 7 18446744073709551615#64))) ?_
    refine KS.n4 ?_
    refine KS.p (.pointer (some ⟨B3, 1, none⟩)) ?_
    refine KS.l 5 B3 1 (.int .u8 74) M11 1 Try.underlying5 ?_
    refine KS.c (.tuple #[.bool true, .bool false, .bool false]) 45 #[.int .u8 74] M11 (has_J w11) fun w12 M12 => ?_
    refine KS.p (.tuple #[.bool true, .bool false, .bool false]) ?_
    refine KS.p (.bool true) ?_
    refine KS.p (.bool false) ?_
    refine KS.p (.bool false) ?_
    refine KS.p (.bool true) ?_
    refine KS.p (.bool false) ?_
    refine KS.p (.bool false) ?_
    refine Kw.fin (Kw.then_normal (wp_seq ?_))
    refine Held.start (fun w => Kw.Mem [] W w [(B6, #[.int .i64 12, .int .i64 8, .int .i64 12, .int .i64 11, .int .i64 1, .int .i64 20, .int .i64 1, .int .i64 10, .int .i64 21, .int .i64 20, .int .i64 1, .int .i64 31], 89), (B3, #[.string (nm k), .int .u8 74, .int .u64 (u (cd k)), .int .u64 (u (ff k)), .int .u64 (u (ot k))], 59), (B1, #[.int .i64 ((k + 1 : Nat) : Int), .int .i64 (s rd), .int .i64 (s rs1), .int .i64 (s rs2), .int .i64 (s imm)], 36)]) (by kernel_rfl) ?_
    have M13 := M12.drew
    have MS := M13
    refine KS.hp 0 (.pointer (some ⟨B3, 1, none⟩)) MS ?_
    refine Held.take 1 (Canon.ldS 5 (.pointer (some ⟨B3, 1, none⟩))) (.int .u8 74) rfl (by decide +kernel) (by decide +kernel) (by decide +kernel) (by kernel_rfl) (by kernel_rfl) (fun w hw => Kw.ld_cell 5 1 (.int .u8 74) (hw.get 1 rfl) (by kernel_rfl) _ Try.underlying5 rfl) MS ?_
    refine KS.hp 3 (.int .u64 (u (putI 0#64 0 7 (cd k)))) MS ?_
    refine KS.hp 4 (.pointer (some ⟨B1, 4, none⟩)) MS ?_
    refine Held.take 5 (Canon.ldS 2 (.pointer (some ⟨B1, 4, none⟩))) (.int .i64 (s imm)) rfl (by decide +kernel) (by decide +kernel) (by decide +kernel) (by kernel_rfl) (by kernel_rfl) (fun w hw => Kw.ld_cell 2 4 (.int .i64 (s imm)) (hw.get 2 rfl) (by kernel_rfl) _ Try.underlying2 rfl) MS ?_
    refine Held.oneCall (ι := Nat) 2 (fun B => (.agg #[.slice (some ⟨B, 0, none⟩) 4 4, .int .i64 21, .bool true, .int .i64 1])) 42 #[.int .u8 74] (R := fun B w1 => Kw.Mem [] (w12.drew) w1 [(B, #[.int .i64 12, .int .i64 8, .int .i64 12, .int .i64 11, .int .i64 1, .int .i64 20, .int .i64 1, .int .i64 10, .int .i64 21, .int .i64 20, .int .i64 1, .int .i64 31], 89)]) rfl (by decide +kernel) (by kernel_rfl) (by kernel_rfl) (laid_J (w12.drew)) fun B14 w14 hc => ?_
    have M14 := Held.mem_new M13 hc
    clear hc
    refine ⟨(Held.mem_tail M14), ?_⟩
    have MS := (Held.mem_tail M14)
    refine Held.oneCall (ι := Unit) 6 (fun _ => (.int .u64 (u (putI (putI (putI (putI (putI 0#64 0 7 (cd k)) 12 8 (getI imm 12 8)) 20 1 (getI imm 11 1)) 21 10 (getI imm 1 10)) 31 1 (getI imm 20 1))))) 46 #[.agg #[.slice (some ⟨B14, 0, none⟩) 4 4, .int .i64 21, .bool true, .int .i64 1], .int .u64 (u (putI 0#64 0 7 (cd k))), .int .i64 (s imm)] (R := fun _ w1 => Kw.Mem [] w14 w1 []) rfl (by decide +kernel) (by kernel_rfl) (by kernel_rfl) (Held.unit (lay_J (putI 0#64 0 7 (cd k)) imm w14 B14 (Held.mem_of M14 0 rfl))) fun _ w15 hc => ?_
    have M15 := M14.call hc
    clear hc
    refine ⟨(Held.mem_tail M15), ?_⟩
    have MS := (Held.mem_tail M15)
    refine KS.hp 7 (.int .u64 (u (putI (putI (putI (putI (putI 0#64 0 7 (cd k)) 12 8 (getI imm 12 8)) 20 1 (getI imm 11 1)) 21 10 (getI imm 1 10)) 31 1 (getI imm 20 1)))) MS ?_
    refine Held.done (by decide +kernel) ?_
    refine Kw.then_normal (wp_seq (wp_seq (Kw.region ?_)))
    refine KS.p (.bool true) ?_
    refine KS.p (.pointer (some ⟨B1, 1, none⟩)) ?_
    refine KS.l 3 B1 1 (.int .i64 (s rd)) M15 3 Try.underlying3 ?_
    refine KS.p (.agg #[.bool true, .int .i64 7, .int .i64 (s rd)]) ?_
    refine KS.p (.bool false) ?_
    refine KS.p (.pointer (some ⟨B1, 2, none⟩)) ?_
    refine KS.l 3 B1 2 (.int .i64 (s rs1)) M15 3 Try.underlying3 ?_
    refine KS.p (.agg #[.bool false, .int .i64 15, .int .i64 (s rs1)]) ?_
    refine KS.p (.bool false) ?_
    refine KS.p (.pointer (some ⟨B1, 3, none⟩)) ?_
    refine KS.l 3 B1 3 (.int .i64 (s rs2)) M15 3 Try.underlying3 ?_
    refine KS.p (.agg #[.bool false, .int .i64 20, .int .i64 (s rs2)]) ?_
    refine KS.p (.agg #[.bool true, .int .i64 7, .int .i64 (s rd), .bool false, .int .i64 15, .int .i64 (s rs1), .bool false, .int .i64 20, .int .i64 (s rs2)]) ?_
    refine KS.p (.int .i64 0) ?_
    refine Kw.fin (Kw.then_normal (wp_block ?_))
    refine wp_loop_rounds 4 ?_
    refine Kw.round_succ (wp_seq (Kw.region ?_))
    refine KS.p (.bool true) ?_
    refine Kw.fin (Kw.then_normal (wp_seq ?_))
    refine wp_cond_true (by kernel_rfl) ?_
    refine wp_skip (Kw.then_normal (wp_seq (wp_block (wp_seq (Kw.region ?_)))))
    refine KS.p (.agg #[.bool true, .int .i64 7, .int .i64 (s rd)]) ?_
    refine Kw.alloc #[.bool false, .int .i64 0, .int .i64 0] 72 M15 (by kernel_rfl) (by kernel_rfl) fun w16 B16 M16 => ?_
    refine Kw.storeAll 0 72 #[.bool true, .int .i64 7, .int .i64 (s rd)] M16 rfl (by kernel_rfl) (by kernel_rfl) (Eq.trans (b := 3) (by kernel_rfl) (by kernel_rfl)) (by kernel_rfl) (by kernel_rfl) fun w17 M17 => ?_
    refine KS.n5 ?_
    refine KS.p (.pointer (some ⟨B16, 0, none⟩)) ?_
    refine KS.l 4 B16 0 (.bool true) M17 0 Try.underlying4 ?_
    refine KS.p (.bool true) ?_
    refine KS.p (.pointer (some ⟨B16, 2, none⟩)) ?_
    refine KS.l 3 B16 2 (.int .i64 (s rd)) M17 0 Try.underlying3 ?_
    refine KS.c (.bool F1) 47 #[.int .i64 (s rd), .int .i64 5, .bool false] M17 (by have h := fits_c rd 5 false w17; rw [g1] at h; exact h) fun w18 M18 => ?_
    refine KS.p (.bool (!F1)) ?_
    refine KS.p (.bool (!F1)) ?_
    refine KS.n2 ?_
    refine wp_cond_split (t := (!F1)) (by kernel_rfl) (fun h19 => ?_) (fun h19 => ?_)
    · skip
      have h20 : (F1) = false := Kw.not_true h19
      refine wp_seq (Kw.region ?_)
      refine KS.p (.int .u32 0) ?_
      refine KS.p (.bool false) ?_
      refine Kw.fin (Kw.then_normal (wp_ret (Kw.then_ret (Kw.block_ret (Kw.then_ret (Kw.then_ret (Kw.block_ret (Kw.then_ret ?_))))))))
      exact bodyPost_ret (v := .tuple #[.int .u32 0, .bool false]) (by kernel_rfl) (by kernel_rfl) ⟨by simp_all [encR], M18.drop⟩
    · skip
      have h21 : (F1) = true := Kw.not_false h19
      refine wp_skip (Kw.then_normal (wp_seq (Kw.region ?_)))
      refine KS.p (.pointer (some ⟨B16, 0, none⟩)) ?_
      refine KS.l 4 B16 0 (.bool true) M18 0 Try.underlying4 ?_
      refine KS.n2 ?_
      refine wp_cond_true (by kernel_rfl) ?_
      refine Kw.region ?_
      refine KS.p (.int .u64 (u (putI (putI (putI (putI (putI 0#64 0 7 (cd k)) 12 8 (getI imm 12 8)) 20 1 (getI imm 11 1)) 21 10 (getI imm 1 10)) 31 1 (getI imm 20 1)))) ?_
      refine KS.p (.pointer (some ⟨B16, 1, none⟩)) ?_
      refine KS.l 3 B16 1 (.int .i64 7) M18 0 Try.underlying3 ?_
      refine KS.p (.pointer (some ⟨B16, 2, none⟩)) ?_
      refine KS.l 3 B16 2 (.int .i64 (s rd)) M18 0 Try.underlying3 ?_
      refine Kw.pure (.int .u64 (u rd)) (by kernel_rfl) (Kw.eqv (v := .int .u64 (IntKind.u64.wrap (s rd))) (by kernel_rfl) (congrArg (Value.int .u64) (wrap_s rd))) ?_
      refine KS.c (.int .u64 (u (putI (putI (putI (putI (putI (putI 0#64 0 7 (cd k)) 12 8 (getI imm 12 8)) 20 1 (getI imm 11 1)) 21 10 (getI imm 1 10)) 31 1 (getI imm 20 1)) 7 5 rd))) 48 #[.int .u64 (u (putI (putI (putI (putI (putI 0#64 0 7 (cd k)) 12 8 (getI imm 12 8)) 20 1 (getI imm 11 1)) 21 10 (getI imm 1 10)) 31 1 (getI imm 20 1))), .int .i64 7, .int .i64 5, .int .u64 (u rd)] M18 (put_c (putI (putI (putI (putI (putI 0#64 0 7 (cd k)) 12 8 (getI imm 12 8)) 20 1 (getI imm 11 1)) 21 10 (getI imm 1 10)) 31 1 (getI imm 20 1)) 7 5 rd w18) fun w22 M22 => ?_
      refine KS.p (.int .u64 (u (putI (putI (putI (putI (putI (putI 0#64 0 7 (cd k)) 12 8 (getI imm 12 8)) 20 1 (getI imm 11 1)) 21 10 (getI imm 1 10)) 31 1 (getI imm 20 1)) 7 5 rd))) ?_
      refine Kw.fin (Kw.block_normal (Kw.then_normal (Kw.region ?_)))
      refine KS.p (.int .i64 1) ?_
      refine KS.p (.int .i64 1) ?_
      refine Kw.fin (Kw.then_normal (Kw.round_succ (wp_seq (Kw.region ?_))))
      refine KS.p (.bool true) ?_
      refine Kw.fin (Kw.then_normal (wp_seq ?_))
      refine wp_cond_true (by kernel_rfl) ?_
      refine wp_skip (Kw.then_normal (wp_seq (wp_block (wp_seq (Kw.region ?_)))))
      refine KS.p (.agg #[.bool false, .int .i64 15, .int .i64 (s rs1)]) ?_
      refine Kw.alloc #[.bool false, .int .i64 0, .int .i64 0] 72 M22 (by kernel_rfl) (by kernel_rfl) fun w23 B23 M23 => ?_
      refine Kw.storeAll 0 72 #[.bool false, .int .i64 15, .int .i64 (s rs1)] M23 rfl (by kernel_rfl) (by kernel_rfl) (Eq.trans (b := 3) (by kernel_rfl) (by kernel_rfl)) (by kernel_rfl) (by kernel_rfl) fun w24 M24 => ?_
      refine KS.n5 ?_
      refine KS.p (.pointer (some ⟨B23, 0, none⟩)) ?_
      refine KS.l 4 B23 0 (.bool false) M24 0 Try.underlying4 ?_
      refine KS.p (.bool false) ?_
      refine KS.k ?_
      refine KS.k ?_
      refine KS.k ?_
      refine KS.k ?_
      refine KS.p (.bool false) ?_
      refine KS.n2 ?_
      refine wp_cond_false (by kernel_rfl) ?_
      refine wp_skip (Kw.then_normal (wp_seq (Kw.region ?_)))
      refine KS.p (.pointer (some ⟨B23, 0, none⟩)) ?_
      refine KS.l 4 B23 0 (.bool false) M24 0 Try.underlying4 ?_
      refine KS.n2 ?_
      refine wp_cond_false (by kernel_rfl) ?_
      refine wp_skip (Kw.block_normal (Kw.then_normal (Kw.region ?_)))
      refine KS.p (.int .i64 2) ?_
      refine KS.p (.int .i64 2) ?_
      refine Kw.fin (Kw.then_normal (Kw.round_succ (wp_seq (Kw.region ?_))))
      refine KS.p (.bool true) ?_
      refine Kw.fin (Kw.then_normal (wp_seq ?_))
      refine wp_cond_true (by kernel_rfl) ?_
      refine wp_skip (Kw.then_normal (wp_seq (wp_block (wp_seq (Kw.region ?_)))))
      refine KS.p (.agg #[.bool false, .int .i64 20, .int .i64 (s rs2)]) ?_
      refine Kw.alloc #[.bool false, .int .i64 0, .int .i64 0] 72 M24 (by kernel_rfl) (by kernel_rfl) fun w25 B25 M25 => ?_
      refine Kw.storeAll 0 72 #[.bool false, .int .i64 20, .int .i64 (s rs2)] M25 rfl (by kernel_rfl) (by kernel_rfl) (Eq.trans (b := 3) (by kernel_rfl) (by kernel_rfl)) (by kernel_rfl) (by kernel_rfl) fun w26 M26 => ?_
      refine KS.n5 ?_
      refine KS.p (.pointer (some ⟨B25, 0, none⟩)) ?_
      refine KS.l 4 B25 0 (.bool false) M26 0 Try.underlying4 ?_
      refine KS.p (.bool false) ?_
      refine KS.k ?_
      refine KS.k ?_
      refine KS.k ?_
      refine KS.k ?_
      refine KS.p (.bool false) ?_
      refine KS.n2 ?_
      refine wp_cond_false (by kernel_rfl) ?_
      refine wp_skip (Kw.then_normal (wp_seq (Kw.region ?_)))
      refine KS.p (.pointer (some ⟨B25, 0, none⟩)) ?_
      refine KS.l 4 B25 0 (.bool false) M26 0 Try.underlying4 ?_
      refine KS.n2 ?_
      refine wp_cond_false (by kernel_rfl) ?_
      refine wp_skip (Kw.block_normal (Kw.then_normal (Kw.region ?_)))
      refine KS.p (.int .i64 3) ?_
      refine KS.p (.int .i64 3) ?_
      refine Kw.fin (Kw.then_normal (Kw.round_succ (wp_seq (Kw.region ?_))))
      refine KS.p (.bool false) ?_
      refine Kw.fin (Kw.then_normal (wp_seq ?_))
      refine wp_cond_false (by kernel_rfl) ?_
      refine wp_exit (Kw.then_exit (Kw.then_exit (Kw.block_hit (Kw.then_normal (wp_seq (Kw.region ?_))))))
      refine KS.p (.int .u64 (u (putI (putI (putI (putI (putI (putI 0#64 0 7 (cd k)) 12 8 (getI imm 12 8)) 20 1 (getI imm 11 1)) 21 10 (getI imm 1 10)) 31 1 (getI imm 20 1)) 7 5 rd))) ?_
      refine Kw.pure (.int .u32 (u ((putI (putI (putI (putI (putI (putI 0#64 0 7 (cd k)) 12 8 (getI imm 12 8)) 20 1 (getI imm 11 1)) 21 10 (getI imm 1 10)) 31 1 (getI imm 20 1)) 7 5 rd) &&& 4294967295#64))) (by kernel_rfl) (Kw.eqv (v := .int .u32 (IntKind.u32.wrap (u (putI (putI (putI (putI (putI (putI 0#64 0 7 (cd k)) 12 8 (getI imm 12 8)) 20 1 (getI imm 11 1)) 21 10 (getI imm 1 10)) 31 1 (getI imm 20 1)) 7 5 rd)))) (by kernel_rfl) (congrArg (Value.int .u32) (wrap32_u (putI (putI (putI (putI (putI (putI 0#64 0 7 (cd k)) 12 8 (getI imm 12 8)) 20 1 (getI imm 11 1)) 21 10 (getI imm 1 10)) 31 1 (getI imm 20 1)) 7 5 rd)))) ?_
      refine KS.p (.int .u32 (u ((putI (putI (putI (putI (putI (putI 0#64 0 7 (cd k)) 12 8 (getI imm 12 8)) 20 1 (getI imm 11 1)) 21 10 (getI imm 1 10)) 31 1 (getI imm 20 1)) 7 5 rd) &&& 4294967295#64))) ?_
      refine KS.p (.bool true) ?_
      refine Kw.fin (Kw.then_normal (wp_ret ?_))
      exact bodyPost_ret (v := .tuple #[.int .u32 (u ((putI (putI (putI (putI (putI (putI 0#64 0 7 (cd k)) 12 8 (getI imm 12 8)) 20 1 (getI imm 11 1)) 21 10 (getI imm 1 10)) 31 1 (getI imm 20 1)) 7 5 rd) &&& 4294967295#64)), .bool true]) (by kernel_rfl) (by kernel_rfl) ⟨by simp_all [encR], M26.drop⟩
def word_N (k : Nat) (rd rs1 rs2 imm : BitVec 64) : BitVec 64 := (putI (putI (putI 0#64 0 7 (cd k)) 7 13 0#64) 20 12 (ot k))
set_option maxRecDepth 100000 in
set_option maxHeartbeats 1000000 in
theorem enc_N (k : Nat) (hk : k < 69) (hs : sh k = 78) (rd rs1 rs2 imm : BitVec 64) (W : World) : Calls Try.prog 25 #[.agg #[.int .i64 ((k + 1 : Nat) : Int), .int .i64 (s rd), .int .i64 (s rs1), .int .i64 (s rs2), .int .i64 (s imm)]] W fun e W' => e = .returned (encR (true) (word_N k rd rs1 rs2 imm)) ∧ Kw.Mem [] W W' [] := by
  unfold word_N
  refine calls_of_wp Try.func25 rfl ?_
  have M0 : Kw.Mem [] W W [] := Kw.Mem.start _ _
  refine Kw.to (b := ⟨#[.agg #[.int .i64 ((k + 1 : Nat) : Int), .int .i64 (s rd), .int .i64 (s rs1), .int .i64 (s rs2), .int .i64 (s imm)], undef, undef, undef, undef, undef, undef, undef, undef, undef, undef, undef, undef, undef, undef, undef, undef, undef, undef, undef, undef, undef, undef, undef, undef, undef, undef, undef, undef, undef, undef, undef, undef, undef, undef, undef, undef, undef, undef, undef, undef, undef, undef, undef, undef, undef, undef, undef, undef, undef, undef, undef, undef, undef, undef, undef, undef, undef, undef, undef, undef, undef, undef, undef, undef, undef, undef, undef, undef, undef, undef, undef, undef, undef, undef, undef, undef, undef, undef, undef, undef, undef, undef, undef, undef], []⟩) (by kernel_rfl) ?_
  refine wp_seq (Kw.region ?_)
  refine Kw.alloc #[.int .i64 ((k + 1 : Nat) : Int), .int .i64 (s rd), .int .i64 (s rs1), .int .i64 (s rs2), .int .i64 (s imm)] 36 M0 (by kernel_rfl) (by kernel_rfl) fun w1 B1 M1 => ?_
  refine KS.p (.int .u32 0) ?_
  refine KS.p (.bool false) ?_
  refine KS.n4 ?_
  refine KS.p (.pointer (some ⟨B1, 0, none⟩)) ?_
  refine KS.l 3 B1 0 (.int .i64 ((k + 1 : Nat) : Int)) M1 0 Try.underlying3 ?_
  refine KS.c (.tuple #[.agg #[.string (nm k), .int .u8 78, .int .u64 (u (cd k)), .int .u64 (u (ff k)), .int .u64 (u (ot k))], .bool true]) 41 #[.int .i64 ((k + 1 : Nat) : Int)] M1 (of_sh 78 k hk hs w1) fun w2 M2 => ?_
  refine KS.p (.tuple #[.agg #[.string (nm k), .int .u8 78, .int .u64 (u (cd k)), .int .u64 (u (ff k)), .int .u64 (u (ot k))], .bool true]) ?_
  refine KS.p (.agg #[.string (nm k), .int .u8 78, .int .u64 (u (cd k)), .int .u64 (u (ff k)), .int .u64 (u (ot k))]) ?_
  refine KS.p (.bool true) ?_
  refine Kw.alloc #[.string ⟨#[]⟩, .int .u8 0, .int .u64 0, .int .u64 0, .int .u64 0] 59 M2 (by kernel_rfl) (by kernel_rfl) fun w3 B3 M3 => ?_
  refine Kw.storeAll 0 59 #[.string (nm k), .int .u8 78, .int .u64 (u (cd k)), .int .u64 (u (ff k)), .int .u64 (u (ot k))] M3 rfl (by kernel_rfl) (by kernel_rfl) (Eq.trans (b := 5) (by kernel_rfl) (by kernel_rfl)) (by kernel_rfl) (by kernel_rfl) fun w4 M4 => ?_
  refine KS.p (.bool true) ?_
  refine Kw.fin (Kw.then_normal (wp_seq (wp_seq ?_)))
  refine Held.start (fun w => Kw.Mem [] W w [(B3, #[.string (nm k), .int .u8 78, .int .u64 (u (cd k)), .int .u64 (u (ff k)), .int .u64 (u (ot k))], 59), (B1, #[.int .i64 ((k + 1 : Nat) : Int), .int .i64 (s rd), .int .i64 (s rs1), .int .i64 (s rs2), .int .i64 (s imm)], 36)]) (by kernel_rfl) ?_
  have M5 := M4.drew
  have MS := M5
  refine KS.hp 0 (.bool true) MS ?_
  refine KS.hp 1 (.bool false) MS ?_
  refine KS.hp 2 (.bool false) MS ?_
  refine KS.hp 3 (.pointer (some ⟨B3, 1, none⟩)) MS ?_
  refine Held.take 4 (Canon.ldS 5 (.pointer (some ⟨B3, 1, none⟩))) (.int .u8 78) rfl (by decide +kernel) (by decide +kernel) (by decide +kernel) (by kernel_rfl) (by kernel_rfl) (fun w hw => Kw.ld_cell 5 1 (.int .u8 78) (hw.get 0 rfl) (by kernel_rfl) _ Try.underlying5 rfl) MS ?_
  refine KS.hp 6 (.pointer (some ⟨B1, 4, none⟩)) MS ?_
  refine Held.take 7 (Canon.ldS 2 (.pointer (some ⟨B1, 4, none⟩))) (.int .i64 (s imm)) rfl (by decide +kernel) (by decide +kernel) (by decide +kernel) (by kernel_rfl) (by kernel_rfl) (fun w hw => Kw.ld_cell 2 4 (.int .i64 (s imm)) (hw.get 1 rfl) (by kernel_rfl) _ Try.underlying2 rfl) MS ?_
  refine Held.oneCall (ι := Unit) 5 (fun _ => (.agg #[.slice none 0 0, .int .i64 0, .bool false, .int .i64 0])) 42 #[.int .u8 78] (R := fun _ w1 => Kw.Mem [] (w4.drew) w1 []) rfl (by decide +kernel) (by kernel_rfl) (by kernel_rfl) (Held.unit (laid_N (w4.drew))) fun _ w6 hc => ?_
  have M6 := M5.call hc
  clear hc
  refine ⟨M6, ?_⟩
  have MS := M6
  refine Held.oneCall (ι := Unit) 8 (fun _ => (.bool true)) 43 #[.agg #[.slice none 0 0, .int .i64 0, .bool false, .int .i64 0], .int .i64 (s imm)] (R := fun _ w1 => Kw.Mem [] w6 w1 []) rfl (by decide +kernel) (by kernel_rfl) (by kernel_rfl) (Held.unit (fits_R1 imm w6)) fun _ w7 hc => ?_
  have M7 := M6.call hc
  clear hc
  refine ⟨M7, ?_⟩
  have MS := M7
  refine KS.hp 9 (.bool false) MS ?_
  refine KS.hp 10 (.bool false) MS ?_
  refine Held.done (by decide +kernel) ?_
  refine Kw.then_normal ?_
  refine wp_cond_false (by kernel_rfl) ?_
  refine wp_skip (Kw.then_normal (wp_seq (Kw.region ?_)))
  refine KS.la 59 B3 _ M7 0 Try.underlying59 ?_
  refine KS.c (.tuple #[.int .u64 (u (putI (putI (putI 0#64 0 7 (cd k)) 7 13 0#64) 20 12 (ot k))), .int .u64 (u (putI (putI (putI 0#64 0 7 18446744073709551615#64) 7 13 18446744073709551615#64) 20 12 18446744073709551615#64))]) 44 #[.agg #[.string (nm k), .int .u8 78, .int .u64 (u (cd k)), .int .u64 (u (ff k)), .int .u64 (u (ot k))]] M7 (fixed_N (nm k) (cd k) (ff k) (ot k) w7) fun w8 M8 => ?_
  refine KS.p (.tuple #[.int .u64 (u (putI (putI (putI 0#64 0 7 (cd k)) 7 13 0#64) 20 12 (ot k))), .int .u64 (u (putI (putI (putI 0#64 0 7 18446744073709551615#64) 7 13 18446744073709551615#64) 20 12 18446744073709551615#64))]) ?_
  refine KS.p (.int .u64 (u (putI (putI (putI 0#64 0 7 (cd k)) 7 13 0#64) 20 12 (ot k)))) ?_
  refine KS.p (.int .u64 (u (putI (putI (putI 0#64 0 7 18446744073709551615#64) 7 13 18446744073709551615#64) 20 12 18446744073709551615#64))) ?_
  refine KS.p (.int .u64 (u (putI (putI (putI 0#64 0 7 (cd k)) 7 13 0#64) 20 12 (ot k)))) ?_
  refine KS.p (.int .u64 (u (putI (putI (putI 0#64 0 7 18446744073709551615#64) 7 13 18446744073709551615#64) 20 12 18446744073709551615#64))) ?_
  refine KS.n4 ?_
  refine KS.p (.pointer (some ⟨B3, 1, none⟩)) ?_
  refine KS.l 5 B3 1 (.int .u8 78) M8 0 Try.underlying5 ?_
  refine KS.c (.tuple #[.bool false, .bool false, .bool false]) 45 #[.int .u8 78] M8 (has_N w8) fun w9 M9 => ?_
  refine KS.p (.tuple #[.bool false, .bool false, .bool false]) ?_
  refine KS.p (.bool false) ?_
  refine KS.p (.bool false) ?_
  refine KS.p (.bool false) ?_
  refine KS.p (.bool false) ?_
  refine KS.p (.bool false) ?_
  refine KS.p (.bool false) ?_
  refine Kw.fin (Kw.then_normal (wp_seq ?_))
  refine Held.start (fun w => Kw.Mem [] W w [(B3, #[.string (nm k), .int .u8 78, .int .u64 (u (cd k)), .int .u64 (u (ff k)), .int .u64 (u (ot k))], 59), (B1, #[.int .i64 ((k + 1 : Nat) : Int), .int .i64 (s rd), .int .i64 (s rs1), .int .i64 (s rs2), .int .i64 (s imm)], 36)]) (by kernel_rfl) ?_
  have M10 := M9.drew
  have MS := M10
  refine KS.hp 0 (.pointer (some ⟨B3, 1, none⟩)) MS ?_
  refine Held.take 1 (Canon.ldS 5 (.pointer (some ⟨B3, 1, none⟩))) (.int .u8 78) rfl (by decide +kernel) (by decide +kernel) (by decide +kernel) (by kernel_rfl) (by kernel_rfl) (fun w hw => Kw.ld_cell 5 1 (.int .u8 78) (hw.get 0 rfl) (by kernel_rfl) _ Try.underlying5 rfl) MS ?_
  refine KS.hp 3 (.int .u64 (u (putI (putI (putI 0#64 0 7 (cd k)) 7 13 0#64) 20 12 (ot k)))) MS ?_
  refine KS.hp 4 (.pointer (some ⟨B1, 4, none⟩)) MS ?_
  refine Held.take 5 (Canon.ldS 2 (.pointer (some ⟨B1, 4, none⟩))) (.int .i64 (s imm)) rfl (by decide +kernel) (by decide +kernel) (by decide +kernel) (by kernel_rfl) (by kernel_rfl) (fun w hw => Kw.ld_cell 2 4 (.int .i64 (s imm)) (hw.get 1 rfl) (by kernel_rfl) _ Try.underlying2 rfl) MS ?_
  refine Held.oneCall (ι := Unit) 2 (fun _ => (.agg #[.slice none 0 0, .int .i64 0, .bool false, .int .i64 0])) 42 #[.int .u8 78] (R := fun _ w1 => Kw.Mem [] (w9.drew) w1 []) rfl (by decide +kernel) (by kernel_rfl) (by kernel_rfl) (Held.unit (laid_N (w9.drew))) fun _ w11 hc => ?_
  have M11 := M10.call hc
  clear hc
  refine ⟨M11, ?_⟩
  have MS := M11
  refine Held.oneCall (ι := Unit) 6 (fun _ => (.int .u64 (u (putI (putI (putI 0#64 0 7 (cd k)) 7 13 0#64) 20 12 (ot k))))) 46 #[.agg #[.slice none 0 0, .int .i64 0, .bool false, .int .i64 0], .int .u64 (u (putI (putI (putI 0#64 0 7 (cd k)) 7 13 0#64) 20 12 (ot k))), .int .i64 (s imm)] (R := fun _ w1 => Kw.Mem [] w11 w1 []) rfl (by decide +kernel) (by kernel_rfl) (by kernel_rfl) (Held.unit (lay_R (putI (putI (putI 0#64 0 7 (cd k)) 7 13 0#64) 20 12 (ot k)) imm w11)) fun _ w12 hc => ?_
  have M12 := M11.call hc
  clear hc
  refine ⟨M12, ?_⟩
  have MS := M12
  refine KS.hp 7 (.int .u64 (u (putI (putI (putI 0#64 0 7 (cd k)) 7 13 0#64) 20 12 (ot k)))) MS ?_
  refine Held.done (by decide +kernel) ?_
  refine Kw.then_normal (wp_seq (wp_seq (Kw.region ?_)))
  refine KS.p (.bool false) ?_
  refine KS.p (.pointer (some ⟨B1, 1, none⟩)) ?_
  refine KS.l 3 B1 1 (.int .i64 (s rd)) M12 1 Try.underlying3 ?_
  refine KS.p (.agg #[.bool false, .int .i64 7, .int .i64 (s rd)]) ?_
  refine KS.p (.bool false) ?_
  refine KS.p (.pointer (some ⟨B1, 2, none⟩)) ?_
  refine KS.l 3 B1 2 (.int .i64 (s rs1)) M12 1 Try.underlying3 ?_
  refine KS.p (.agg #[.bool false, .int .i64 15, .int .i64 (s rs1)]) ?_
  refine KS.p (.bool false) ?_
  refine KS.p (.pointer (some ⟨B1, 3, none⟩)) ?_
  refine KS.l 3 B1 3 (.int .i64 (s rs2)) M12 1 Try.underlying3 ?_
  refine KS.p (.agg #[.bool false, .int .i64 20, .int .i64 (s rs2)]) ?_
  refine KS.p (.agg #[.bool false, .int .i64 7, .int .i64 (s rd), .bool false, .int .i64 15, .int .i64 (s rs1), .bool false, .int .i64 20, .int .i64 (s rs2)]) ?_
  refine KS.p (.int .i64 0) ?_
  refine Kw.fin (Kw.then_normal (wp_block ?_))
  refine wp_loop_rounds 4 ?_
  refine Kw.round_succ (wp_seq (Kw.region ?_))
  refine KS.p (.bool true) ?_
  refine Kw.fin (Kw.then_normal (wp_seq ?_))
  refine wp_cond_true (by kernel_rfl) ?_
  refine wp_skip (Kw.then_normal (wp_seq (wp_block (wp_seq (Kw.region ?_)))))
  refine KS.p (.agg #[.bool false, .int .i64 7, .int .i64 (s rd)]) ?_
  refine Kw.alloc #[.bool false, .int .i64 0, .int .i64 0] 72 M12 (by kernel_rfl) (by kernel_rfl) fun w13 B13 M13 => ?_
  refine Kw.storeAll 0 72 #[.bool false, .int .i64 7, .int .i64 (s rd)] M13 rfl (by kernel_rfl) (by kernel_rfl) (Eq.trans (b := 3) (by kernel_rfl) (by kernel_rfl)) (by kernel_rfl) (by kernel_rfl) fun w14 M14 => ?_
  refine KS.n5 ?_
  refine KS.p (.pointer (some ⟨B13, 0, none⟩)) ?_
  refine KS.l 4 B13 0 (.bool false) M14 0 Try.underlying4 ?_
  refine KS.p (.bool false) ?_
  refine KS.k ?_
  refine KS.k ?_
  refine KS.k ?_
  refine KS.k ?_
  refine KS.p (.bool false) ?_
  refine KS.n2 ?_
  refine wp_cond_false (by kernel_rfl) ?_
  refine wp_skip (Kw.then_normal (wp_seq (Kw.region ?_)))
  refine KS.p (.pointer (some ⟨B13, 0, none⟩)) ?_
  refine KS.l 4 B13 0 (.bool false) M14 0 Try.underlying4 ?_
  refine KS.n2 ?_
  refine wp_cond_false (by kernel_rfl) ?_
  refine wp_skip (Kw.block_normal (Kw.then_normal (Kw.region ?_)))
  refine KS.p (.int .i64 1) ?_
  refine KS.p (.int .i64 1) ?_
  refine Kw.fin (Kw.then_normal (Kw.round_succ (wp_seq (Kw.region ?_))))
  refine KS.p (.bool true) ?_
  refine Kw.fin (Kw.then_normal (wp_seq ?_))
  refine wp_cond_true (by kernel_rfl) ?_
  refine wp_skip (Kw.then_normal (wp_seq (wp_block (wp_seq (Kw.region ?_)))))
  refine KS.p (.agg #[.bool false, .int .i64 15, .int .i64 (s rs1)]) ?_
  refine Kw.alloc #[.bool false, .int .i64 0, .int .i64 0] 72 M14 (by kernel_rfl) (by kernel_rfl) fun w15 B15 M15 => ?_
  refine Kw.storeAll 0 72 #[.bool false, .int .i64 15, .int .i64 (s rs1)] M15 rfl (by kernel_rfl) (by kernel_rfl) (Eq.trans (b := 3) (by kernel_rfl) (by kernel_rfl)) (by kernel_rfl) (by kernel_rfl) fun w16 M16 => ?_
  refine KS.n5 ?_
  refine KS.p (.pointer (some ⟨B15, 0, none⟩)) ?_
  refine KS.l 4 B15 0 (.bool false) M16 0 Try.underlying4 ?_
  refine KS.p (.bool false) ?_
  refine KS.k ?_
  refine KS.k ?_
  refine KS.k ?_
  refine KS.k ?_
  refine KS.p (.bool false) ?_
  refine KS.n2 ?_
  refine wp_cond_false (by kernel_rfl) ?_
  refine wp_skip (Kw.then_normal (wp_seq (Kw.region ?_)))
  refine KS.p (.pointer (some ⟨B15, 0, none⟩)) ?_
  refine KS.l 4 B15 0 (.bool false) M16 0 Try.underlying4 ?_
  refine KS.n2 ?_
  refine wp_cond_false (by kernel_rfl) ?_
  refine wp_skip (Kw.block_normal (Kw.then_normal (Kw.region ?_)))
  refine KS.p (.int .i64 2) ?_
  refine KS.p (.int .i64 2) ?_
  refine Kw.fin (Kw.then_normal (Kw.round_succ (wp_seq (Kw.region ?_))))
  refine KS.p (.bool true) ?_
  refine Kw.fin (Kw.then_normal (wp_seq ?_))
  refine wp_cond_true (by kernel_rfl) ?_
  refine wp_skip (Kw.then_normal (wp_seq (wp_block (wp_seq (Kw.region ?_)))))
  refine KS.p (.agg #[.bool false, .int .i64 20, .int .i64 (s rs2)]) ?_
  refine Kw.alloc #[.bool false, .int .i64 0, .int .i64 0] 72 M16 (by kernel_rfl) (by kernel_rfl) fun w17 B17 M17 => ?_
  refine Kw.storeAll 0 72 #[.bool false, .int .i64 20, .int .i64 (s rs2)] M17 rfl (by kernel_rfl) (by kernel_rfl) (Eq.trans (b := 3) (by kernel_rfl) (by kernel_rfl)) (by kernel_rfl) (by kernel_rfl) fun w18 M18 => ?_
  refine KS.n5 ?_
  refine KS.p (.pointer (some ⟨B17, 0, none⟩)) ?_
  refine KS.l 4 B17 0 (.bool false) M18 0 Try.underlying4 ?_
  refine KS.p (.bool false) ?_
  refine KS.k ?_
  refine KS.k ?_
  refine KS.k ?_
  refine KS.k ?_
  refine KS.p (.bool false) ?_
  refine KS.n2 ?_
  refine wp_cond_false (by kernel_rfl) ?_
  refine wp_skip (Kw.then_normal (wp_seq (Kw.region ?_)))
  refine KS.p (.pointer (some ⟨B17, 0, none⟩)) ?_
  refine KS.l 4 B17 0 (.bool false) M18 0 Try.underlying4 ?_
  refine KS.n2 ?_
  refine wp_cond_false (by kernel_rfl) ?_
  refine wp_skip (Kw.block_normal (Kw.then_normal (Kw.region ?_)))
  refine KS.p (.int .i64 3) ?_
  refine KS.p (.int .i64 3) ?_
  refine Kw.fin (Kw.then_normal (Kw.round_succ (wp_seq (Kw.region ?_))))
  refine KS.p (.bool false) ?_
  refine Kw.fin (Kw.then_normal (wp_seq ?_))
  refine wp_cond_false (by kernel_rfl) ?_
  refine wp_exit (Kw.then_exit (Kw.then_exit (Kw.block_hit (Kw.then_normal (wp_seq (Kw.region ?_))))))
  refine KS.p (.int .u64 (u (putI (putI (putI 0#64 0 7 (cd k)) 7 13 0#64) 20 12 (ot k)))) ?_
  refine Kw.pure (.int .u32 (u ((putI (putI (putI 0#64 0 7 (cd k)) 7 13 0#64) 20 12 (ot k)) &&& 4294967295#64))) (by kernel_rfl) (Kw.eqv (v := .int .u32 (IntKind.u32.wrap (u (putI (putI (putI 0#64 0 7 (cd k)) 7 13 0#64) 20 12 (ot k))))) (by kernel_rfl) (congrArg (Value.int .u32) (wrap32_u (putI (putI (putI 0#64 0 7 (cd k)) 7 13 0#64) 20 12 (ot k))))) ?_
  refine KS.p (.int .u32 (u ((putI (putI (putI 0#64 0 7 (cd k)) 7 13 0#64) 20 12 (ot k)) &&& 4294967295#64))) ?_
  refine KS.p (.bool true) ?_
  refine Kw.fin (Kw.then_normal (wp_ret ?_))
  exact bodyPost_ret (v := .tuple #[.int .u32 (u ((putI (putI (putI 0#64 0 7 (cd k)) 7 13 0#64) 20 12 (ot k)) &&& 4294967295#64)), .bool true]) (by kernel_rfl) (by kernel_rfl) ⟨by simp_all [encR], M18.drop⟩
end Go.Proofs.Ytpmpibcfmejbfaa.Inst
