/- The word of an instruction, or none, by its shape: what the program's function answers. No condition. -/
import Derived.Test.YtpmpibcfmejbfaaInstHas
namespace Go.Proofs.Ytpmpibcfmejbfaa.Inst
open Go.RowKit Go.Proofs.Ytpmpibcfmejbfaa.Bits
attribute [local irreducible] Go.wpList
set_option linter.unusedVariables false
def encR (b : Bool) (w : BitVec 64) : Value := if b then .tuple #[.int .u32 (u (w &&& 4294967295#64)), .bool true] else .tuple #[.int .u32 0, .bool false]
def word_R (k : Nat) (rd rs1 rs2 imm : BitVec 64) : BitVec 64 := (putI (putI (putI (putI (putI (putI 0#64 0 7 (cd k)) 12 3 (ff k)) 25 7 (ot k)) 7 5 rd) 15 5 rs1) 20 5 rs2)
set_option maxRecDepth 100000 in
set_option maxHeartbeats 1000000 in
theorem enc_R (k : Nat) (hk : k < 69) (hs : sh k = 82) (rd rs1 rs2 imm : BitVec 64) (F1 : Bool) (g1 : fitsI rd 5 false = F1) (F2 : Bool) (g2 : fitsI rs1 5 false = F2) (F3 : Bool) (g3 : fitsI rs2 5 false = F3) (W : World) : Calls Try.prog 25 #[.agg #[.int .i64 ((k + 1 : Nat) : Int), .int .i64 (s rd), .int .i64 (s rs1), .int .i64 (s rs2), .int .i64 (s imm)]] W fun e W' => e = .returned (encR (F1 && F2 && F3) (word_R k rd rs1 rs2 imm)) ∧ Kw.Mem [] W W' [] := by
  unfold word_R
  refine calls_of_wp Try.func25 rfl ?_
  have M0 : Kw.Mem [] W W [] := Kw.Mem.start _ _
  refine Kw.to (b := ⟨#[.agg #[.int .i64 ((k + 1 : Nat) : Int), .int .i64 (s rd), .int .i64 (s rs1), .int .i64 (s rs2), .int .i64 (s imm)], undef, undef, undef, undef, undef, undef, undef, undef, undef, undef, undef, undef, undef, undef, undef, undef, undef, undef, undef, undef, undef, undef, undef, undef, undef, undef, undef, undef, undef, undef, undef, undef, undef, undef, undef, undef, undef, undef, undef, undef, undef, undef, undef, undef, undef, undef, undef, undef, undef, undef, undef, undef, undef, undef, undef, undef, undef, undef, undef, undef, undef, undef, undef, undef, undef, undef, undef, undef, undef, undef, undef, undef, undef, undef, undef, undef, undef, undef, undef, undef, undef, undef, undef, undef], []⟩) (by kernel_rfl) ?_
  refine wp_seq ?_
  refine Kw.region ?_
  refine Kw.alloc #[.int .i64 ((k + 1 : Nat) : Int), .int .i64 (s rd), .int .i64 (s rs1), .int .i64 (s rs2), .int .i64 (s imm)] 36 M0 (by kernel_rfl) (by kernel_rfl) fun w1 B1 M1 => ?_
  refine Kw.pure (.int .u32 0) (by kernel_rfl) (by kernel_rfl) ?_
  refine Kw.pure (.bool false) (by kernel_rfl) (by kernel_rfl) ?_
  refine Kw.fin ?_
  refine Kw.then_normal ?_
  refine wp_seq ?_
  refine Kw.region ?_
  refine Kw.pure (.pointer (some ⟨B1, 0, none⟩)) (by kernel_rfl) (by kernel_rfl) ?_
  refine Kw.pureS (Canon.ldS 3 (.pointer (some ⟨B1, 0, none⟩))) (.int .i64 ((k + 1 : Nat) : Int)) (by kernel_rfl) (by kernel_rfl) (Kw.ld_cell 3 0 (.int .i64 ((k + 1 : Nat) : Int)) (M1.get 0 rfl) (by kernel_rfl) _ Try.underlying3 rfl) ?_
  refine Kw.call (.tuple #[.agg #[.string (nm k), .int .u8 82, .int .u64 (u (cd k)), .int .u64 (u (ff k)), .int .u64 (u (ot k))], .bool true]) 41 #[.int .i64 ((k + 1 : Nat) : Int)] M1 (by kernel_rfl) (by kernel_rfl) (of_sh 82 k hk hs w1) fun w2 M2 => ?_
  refine Kw.pure (.tuple #[.agg #[.string (nm k), .int .u8 82, .int .u64 (u (cd k)), .int .u64 (u (ff k)), .int .u64 (u (ot k))], .bool true]) (by kernel_rfl) (by kernel_rfl) ?_
  refine Kw.pure (.agg #[.string (nm k), .int .u8 82, .int .u64 (u (cd k)), .int .u64 (u (ff k)), .int .u64 (u (ot k))]) (by kernel_rfl) (by kernel_rfl) ?_
  refine Kw.pure (.bool true) (by kernel_rfl) (by kernel_rfl) ?_
  refine Kw.alloc #[.string ⟨#[]⟩, .int .u8 0, .int .u64 0, .int .u64 0, .int .u64 0] 59 M2 (by kernel_rfl) (by kernel_rfl) fun w3 B3 M3 => ?_
  refine Kw.storeAll 0 59 #[.string (nm k), .int .u8 82, .int .u64 (u (cd k)), .int .u64 (u (ff k)), .int .u64 (u (ot k))] M3 rfl (by kernel_rfl) (by kernel_rfl) (by kernel_rfl) (by kernel_rfl) (by kernel_rfl) fun w4 M4 => ?_
  refine Kw.pure (.bool true) (by kernel_rfl) (by kernel_rfl) ?_
  refine Kw.fin ?_
  refine Kw.then_normal ?_
  refine wp_seq ?_
  refine wp_seq ?_
  refine Held.start (fun w => Kw.Mem [] W w [(B3, #[.string (nm k), .int .u8 82, .int .u64 (u (cd k)), .int .u64 (u (ff k)), .int .u64 (u (ot k))], 59), (B1, #[.int .i64 ((k + 1 : Nat) : Int), .int .i64 (s rd), .int .i64 (s rs1), .int .i64 (s rs2), .int .i64 (s imm)], 36)]) (by kernel_rfl) ?_
  have M5 := M4.drew
  have MS := M5
  refine Held.takeP 0 (.bool true) rfl (by decide +kernel) (by decide +kernel) (by decide +kernel) (by kernel_rfl) (fun w => by kernel_rfl) MS ?_
  refine Held.takeP 1 (.bool false) rfl (by decide +kernel) (by decide +kernel) (by decide +kernel) (by kernel_rfl) (fun w => by kernel_rfl) MS ?_
  refine Held.takeP 2 (.bool false) rfl (by decide +kernel) (by decide +kernel) (by decide +kernel) (by kernel_rfl) (fun w => by kernel_rfl) MS ?_
  refine Held.takeP 3 (.pointer (some ⟨B3, 1, none⟩)) rfl (by decide +kernel) (by decide +kernel) (by decide +kernel) (by kernel_rfl) (fun w => by kernel_rfl) MS ?_
  refine Held.take 4 (Canon.ldS 5 (.pointer (some ⟨B3, 1, none⟩))) (.int .u8 82) rfl (by decide +kernel) (by decide +kernel) (by decide +kernel) (by kernel_rfl) (by kernel_rfl) (fun w hw => Kw.ld_cell 5 1 (.int .u8 82) (hw.get 0 rfl) (by kernel_rfl) _ Try.underlying5 rfl) MS ?_
  refine Held.takeP 6 (.pointer (some ⟨B1, 4, none⟩)) rfl (by decide +kernel) (by decide +kernel) (by decide +kernel) (by kernel_rfl) (fun w => by kernel_rfl) MS ?_
  refine Held.take 7 (Canon.ldS 2 (.pointer (some ⟨B1, 4, none⟩))) (.int .i64 (s imm)) rfl (by decide +kernel) (by decide +kernel) (by decide +kernel) (by kernel_rfl) (by kernel_rfl) (fun w hw => Kw.ld_cell 2 4 (.int .i64 (s imm)) (hw.get 1 rfl) (by kernel_rfl) _ Try.underlying2 rfl) MS ?_
  refine Held.oneCall (ι := Unit) 5 (fun _ => (.agg #[.slice none 0 0, .int .i64 0, .bool false, .int .i64 0])) 42 #[.int .u8 82] (R := fun _ w1 => Kw.Mem [] (w4.drew) w1 []) rfl (by decide +kernel) (by kernel_rfl) (by kernel_rfl) (Held.unit (laid_R (w4.drew))) fun _ w6 hc => ?_
  have M6 := M5.call hc
  clear hc
  refine ⟨M6, ?_⟩
  have MS := M6
  refine Held.oneCall (ι := Unit) 8 (fun _ => (.bool true)) 43 #[.agg #[.slice none 0 0, .int .i64 0, .bool false, .int .i64 0], .int .i64 (s imm)] (R := fun _ w1 => Kw.Mem [] w6 w1 []) rfl (by decide +kernel) (by kernel_rfl) (by kernel_rfl) (Held.unit (fits_R1 imm w6)) fun _ w7 hc => ?_
  have M7 := M6.call hc
  clear hc
  refine ⟨M7, ?_⟩
  have MS := M7
  refine Held.takeP 9 (.bool false) rfl (by decide +kernel) (by decide +kernel) (by decide +kernel) (by kernel_rfl) (fun w => by kernel_rfl) MS ?_
  refine Held.takeP 10 (.bool false) rfl (by decide +kernel) (by decide +kernel) (by decide +kernel) (by kernel_rfl) (fun w => by kernel_rfl) MS ?_
  refine Held.done (by decide +kernel) ?_
  refine Kw.then_normal ?_
  refine wp_cond_false (by kernel_rfl) ?_
  refine wp_skip ?_
  refine Kw.then_normal ?_
  refine wp_seq ?_
  refine Kw.region ?_
  refine Kw.pureS (Canon.ldS 59 (.pointer (some ⟨B3, 0, none⟩))) (.agg #[.string (nm k), .int .u8 82, .int .u64 (u (cd k)), .int .u64 (u (ff k)), .int .u64 (u (ot k))]) (by kernel_rfl) (by kernel_rfl) (Kw.ld_all 59 (M7.get 0 rfl) _ Try.underlying59 rfl (by kernel_rfl)) ?_
  refine Kw.call (.tuple #[.int .u64 (u (putI (putI (putI 0#64 0 7 (cd k)) 12 3 (ff k)) 25 7 (ot k))), .int .u64 (u (putI (putI (putI 0#64 0 7 18446744073709551615#64) 12 3 18446744073709551615#64) 25 7 18446744073709551615#64))]) 44 #[.agg #[.string (nm k), .int .u8 82, .int .u64 (u (cd k)), .int .u64 (u (ff k)), .int .u64 (u (ot k))]] M7 (by kernel_rfl) (by kernel_rfl) (fixed_R (nm k) (cd k) (ff k) (ot k) w7) fun w8 M8 => ?_
  refine Kw.pure (.tuple #[.int .u64 (u (putI (putI (putI 0#64 0 7 (cd k)) 12 3 (ff k)) 25 7 (ot k))), .int .u64 (u (putI (putI (putI 0#64 0 7 18446744073709551615#64) 12 3 18446744073709551615#64) 25 7 18446744073709551615#64))]) (by kernel_rfl) (by kernel_rfl) ?_
  refine Kw.pure (.int .u64 (u (putI (putI (putI 0#64 0 7 (cd k)) 12 3 (ff k)) 25 7 (ot k)))) (by kernel_rfl) (by kernel_rfl) ?_
  refine Kw.pure (.int .u64 (u (putI (putI (putI 0#64 0 7 18446744073709551615#64) 12 3 18446744073709551615#64) 25 7 18446744073709551615#64))) (by kernel_rfl) (by kernel_rfl) ?_
  refine Kw.pure (.int .u64 (u (putI (putI (putI 0#64 0 7 (cd k)) 12 3 (ff k)) 25 7 (ot k)))) (by kernel_rfl) (by kernel_rfl) ?_
  refine Kw.pure (.int .u64 (u (putI (putI (putI 0#64 0 7 18446744073709551615#64) 12 3 18446744073709551615#64) 25 7 18446744073709551615#64))) (by kernel_rfl) (by kernel_rfl) ?_
  refine Kw.fin ?_
  refine Kw.then_normal ?_
  refine wp_seq ?_
  refine Kw.region ?_
  refine Kw.pure (.pointer (some ⟨B3, 1, none⟩)) (by kernel_rfl) (by kernel_rfl) ?_
  refine Kw.pureS (Canon.ldS 5 (.pointer (some ⟨B3, 1, none⟩))) (.int .u8 82) (by kernel_rfl) (by kernel_rfl) (Kw.ld_cell 5 1 (.int .u8 82) (M8.get 0 rfl) (by kernel_rfl) _ Try.underlying5 rfl) ?_
  refine Kw.call (.tuple #[.bool true, .bool true, .bool true]) 45 #[.int .u8 82] M8 (by kernel_rfl) (by kernel_rfl) (has_R w8) fun w9 M9 => ?_
  refine Kw.pure (.tuple #[.bool true, .bool true, .bool true]) (by kernel_rfl) (by kernel_rfl) ?_
  refine Kw.pure (.bool true) (by kernel_rfl) (by kernel_rfl) ?_
  refine Kw.pure (.bool true) (by kernel_rfl) (by kernel_rfl) ?_
  refine Kw.pure (.bool true) (by kernel_rfl) (by kernel_rfl) ?_
  refine Kw.pure (.bool true) (by kernel_rfl) (by kernel_rfl) ?_
  refine Kw.pure (.bool true) (by kernel_rfl) (by kernel_rfl) ?_
  refine Kw.pure (.bool true) (by kernel_rfl) (by kernel_rfl) ?_
  refine Kw.fin ?_
  refine Kw.then_normal ?_
  refine wp_seq ?_
  refine Held.start (fun w => Kw.Mem [] W w [(B3, #[.string (nm k), .int .u8 82, .int .u64 (u (cd k)), .int .u64 (u (ff k)), .int .u64 (u (ot k))], 59), (B1, #[.int .i64 ((k + 1 : Nat) : Int), .int .i64 (s rd), .int .i64 (s rs1), .int .i64 (s rs2), .int .i64 (s imm)], 36)]) (by kernel_rfl) ?_
  have M10 := M9.drew
  have MS := M10
  refine Held.takeP 0 (.pointer (some ⟨B3, 1, none⟩)) rfl (by decide +kernel) (by decide +kernel) (by decide +kernel) (by kernel_rfl) (fun w => by kernel_rfl) MS ?_
  refine Held.take 1 (Canon.ldS 5 (.pointer (some ⟨B3, 1, none⟩))) (.int .u8 82) rfl (by decide +kernel) (by decide +kernel) (by decide +kernel) (by kernel_rfl) (by kernel_rfl) (fun w hw => Kw.ld_cell 5 1 (.int .u8 82) (hw.get 0 rfl) (by kernel_rfl) _ Try.underlying5 rfl) MS ?_
  refine Held.takeP 3 (.int .u64 (u (putI (putI (putI 0#64 0 7 (cd k)) 12 3 (ff k)) 25 7 (ot k)))) rfl (by decide +kernel) (by decide +kernel) (by decide +kernel) (by kernel_rfl) (fun w => by kernel_rfl) MS ?_
  refine Held.takeP 4 (.pointer (some ⟨B1, 4, none⟩)) rfl (by decide +kernel) (by decide +kernel) (by decide +kernel) (by kernel_rfl) (fun w => by kernel_rfl) MS ?_
  refine Held.take 5 (Canon.ldS 2 (.pointer (some ⟨B1, 4, none⟩))) (.int .i64 (s imm)) rfl (by decide +kernel) (by decide +kernel) (by decide +kernel) (by kernel_rfl) (by kernel_rfl) (fun w hw => Kw.ld_cell 2 4 (.int .i64 (s imm)) (hw.get 1 rfl) (by kernel_rfl) _ Try.underlying2 rfl) MS ?_
  refine Held.oneCall (ι := Unit) 2 (fun _ => (.agg #[.slice none 0 0, .int .i64 0, .bool false, .int .i64 0])) 42 #[.int .u8 82] (R := fun _ w1 => Kw.Mem [] (w9.drew) w1 []) rfl (by decide +kernel) (by kernel_rfl) (by kernel_rfl) (Held.unit (laid_R (w9.drew))) fun _ w11 hc => ?_
  have M11 := M10.call hc
  clear hc
  refine ⟨M11, ?_⟩
  have MS := M11
  refine Held.oneCall (ι := Unit) 6 (fun _ => (.int .u64 (u (putI (putI (putI 0#64 0 7 (cd k)) 12 3 (ff k)) 25 7 (ot k))))) 46 #[.agg #[.slice none 0 0, .int .i64 0, .bool false, .int .i64 0], .int .u64 (u (putI (putI (putI 0#64 0 7 (cd k)) 12 3 (ff k)) 25 7 (ot k))), .int .i64 (s imm)] (R := fun _ w1 => Kw.Mem [] w11 w1 []) rfl (by decide +kernel) (by kernel_rfl) (by kernel_rfl) (Held.unit (lay_R (putI (putI (putI 0#64 0 7 (cd k)) 12 3 (ff k)) 25 7 (ot k)) imm w11)) fun _ w12 hc => ?_
  have M12 := M11.call hc
  clear hc
  refine ⟨M12, ?_⟩
  have MS := M12
  refine Held.takeP 7 (.int .u64 (u (putI (putI (putI 0#64 0 7 (cd k)) 12 3 (ff k)) 25 7 (ot k)))) rfl (by decide +kernel) (by decide +kernel) (by decide +kernel) (by kernel_rfl) (fun w => by kernel_rfl) MS ?_
  refine Held.done (by decide +kernel) ?_
  refine Kw.then_normal ?_
  refine wp_seq ?_
  refine wp_seq ?_
  refine Kw.region ?_
  refine Kw.pure (.bool true) (by kernel_rfl) (by kernel_rfl) ?_
  refine Kw.pure (.pointer (some ⟨B1, 1, none⟩)) (by kernel_rfl) (by kernel_rfl) ?_
  refine Kw.pureS (Canon.ldS 3 (.pointer (some ⟨B1, 1, none⟩))) (.int .i64 (s rd)) (by kernel_rfl) (by kernel_rfl) (Kw.ld_cell 3 1 (.int .i64 (s rd)) (M12.get 1 rfl) (by kernel_rfl) _ Try.underlying3 rfl) ?_
  refine Kw.pure (.agg #[.bool true, .int .i64 7, .int .i64 (s rd)]) (by kernel_rfl) (by kernel_rfl) ?_
  refine Kw.pure (.bool true) (by kernel_rfl) (by kernel_rfl) ?_
  refine Kw.pure (.pointer (some ⟨B1, 2, none⟩)) (by kernel_rfl) (by kernel_rfl) ?_
  refine Kw.pureS (Canon.ldS 3 (.pointer (some ⟨B1, 2, none⟩))) (.int .i64 (s rs1)) (by kernel_rfl) (by kernel_rfl) (Kw.ld_cell 3 2 (.int .i64 (s rs1)) (M12.get 1 rfl) (by kernel_rfl) _ Try.underlying3 rfl) ?_
  refine Kw.pure (.agg #[.bool true, .int .i64 15, .int .i64 (s rs1)]) (by kernel_rfl) (by kernel_rfl) ?_
  refine Kw.pure (.bool true) (by kernel_rfl) (by kernel_rfl) ?_
  refine Kw.pure (.pointer (some ⟨B1, 3, none⟩)) (by kernel_rfl) (by kernel_rfl) ?_
  refine Kw.pureS (Canon.ldS 3 (.pointer (some ⟨B1, 3, none⟩))) (.int .i64 (s rs2)) (by kernel_rfl) (by kernel_rfl) (Kw.ld_cell 3 3 (.int .i64 (s rs2)) (M12.get 1 rfl) (by kernel_rfl) _ Try.underlying3 rfl) ?_
  refine Kw.pure (.agg #[.bool true, .int .i64 20, .int .i64 (s rs2)]) (by kernel_rfl) (by kernel_rfl) ?_
  refine Kw.pure (.agg #[.bool true, .int .i64 7, .int .i64 (s rd), .bool true, .int .i64 15, .int .i64 (s rs1), .bool true, .int .i64 20, .int .i64 (s rs2)]) (by kernel_rfl) (by kernel_rfl) ?_
  refine Kw.pure (.int .i64 0) (by kernel_rfl) (by kernel_rfl) ?_
  refine Kw.fin ?_
  refine Kw.then_normal ?_
  refine wp_block ?_
  refine wp_loop_rounds 4 ?_
  refine Kw.round_succ ?_
  refine wp_seq ?_
  refine Kw.region ?_
  refine Kw.pureS (Canon.opS .lss 3 (.tmp 62) (.const (.int .i64 3)) (.int .i64 0) (.int .i64 3)) (.bool true) (by kernel_rfl) (by kernel_rfl) (by kernel_rfl) ?_
  refine Kw.fin ?_
  refine Kw.then_normal ?_
  refine wp_seq ?_
  refine wp_cond_true (by kernel_rfl) ?_
  refine wp_skip ?_
  refine Kw.then_normal ?_
  refine wp_seq ?_
  refine wp_block ?_
  refine wp_seq ?_
  refine Kw.region ?_
  refine Kw.pure (.agg #[.bool true, .int .i64 7, .int .i64 (s rd)]) (by kernel_rfl) (by kernel_rfl) ?_
  refine Kw.alloc #[.bool false, .int .i64 0, .int .i64 0] 72 M12 (by kernel_rfl) (by kernel_rfl) fun w13 B13 M13 => ?_
  refine Kw.storeAll 0 72 #[.bool true, .int .i64 7, .int .i64 (s rd)] M13 rfl (by kernel_rfl) (by kernel_rfl) (by kernel_rfl) (by kernel_rfl) (by kernel_rfl) fun w14 M14 => ?_
  refine Kw.fin ?_
  refine Kw.then_normal ?_
  refine wp_seq ?_
  refine wp_seq ?_
  refine Kw.region ?_
  refine Kw.pure (.pointer (some ⟨B13, 0, none⟩)) (by kernel_rfl) (by kernel_rfl) ?_
  refine Kw.pureS (Canon.ldS 4 (.pointer (some ⟨B13, 0, none⟩))) (.bool true) (by kernel_rfl) (by kernel_rfl) (Kw.ld_cell 4 0 (.bool true) (M14.get 0 rfl) (by kernel_rfl) _ Try.underlying4 rfl) ?_
  refine Kw.pure (.bool true) (by kernel_rfl) (by kernel_rfl) ?_
  refine Kw.pure (.pointer (some ⟨B13, 2, none⟩)) (by kernel_rfl) (by kernel_rfl) ?_
  refine Kw.pureS (Canon.ldS 3 (.pointer (some ⟨B13, 2, none⟩))) (.int .i64 (s rd)) (by kernel_rfl) (by kernel_rfl) (Kw.ld_cell 3 2 (.int .i64 (s rd)) (M14.get 0 rfl) (by kernel_rfl) _ Try.underlying3 rfl) ?_
  refine Kw.call (.bool F1) 47 #[.int .i64 (s rd), .int .i64 5, .bool false] M14 (by kernel_rfl) (by kernel_rfl) (by have h := fits_c rd 5 false w14; rw [g1] at h; exact h) fun w15 M15 => ?_
  refine Kw.pure (.bool (!F1)) (by kernel_rfl) (by kernel_rfl) ?_
  refine Kw.pure (.bool (!F1)) (by kernel_rfl) (by kernel_rfl) ?_
  refine Kw.fin ?_
  refine Kw.then_normal ?_
  refine wp_cond_split (t := (!F1)) (by kernel_rfl) (fun h16 => ?_) (fun h16 => ?_)
  · skip
    refine wp_seq ?_
    refine Kw.region ?_
    refine Kw.pure (.int .u32 0) (by kernel_rfl) (by kernel_rfl) ?_
    refine Kw.pure (.bool false) (by kernel_rfl) (by kernel_rfl) ?_
    refine Kw.fin ?_
    refine Kw.then_normal ?_
    refine wp_ret ?_
    refine Kw.then_ret ?_
    refine Kw.block_ret ?_
    refine Kw.then_ret ?_
    refine Kw.then_ret ?_
    refine Kw.block_ret ?_
    refine Kw.then_ret ?_
    exact bodyPost_ret (v := .tuple #[.int .u32 0, .bool false]) (by kernel_rfl) (by kernel_rfl) ⟨by simp_all [encR], M15.drop⟩
  · skip
    refine wp_skip ?_
    refine Kw.then_normal ?_
    refine wp_seq ?_
    refine Kw.region ?_
    refine Kw.pure (.pointer (some ⟨B13, 0, none⟩)) (by kernel_rfl) (by kernel_rfl) ?_
    refine Kw.pureS (Canon.ldS 4 (.pointer (some ⟨B13, 0, none⟩))) (.bool true) (by kernel_rfl) (by kernel_rfl) (Kw.ld_cell 4 0 (.bool true) (M15.get 0 rfl) (by kernel_rfl) _ Try.underlying4 rfl) ?_
    refine Kw.fin ?_
    refine Kw.then_normal ?_
    refine wp_cond_true (by kernel_rfl) ?_
    refine Kw.region ?_
    refine Kw.pure (.int .u64 (u (putI (putI (putI 0#64 0 7 (cd k)) 12 3 (ff k)) 25 7 (ot k)))) (by kernel_rfl) (by kernel_rfl) ?_
    refine Kw.pure (.pointer (some ⟨B13, 1, none⟩)) (by kernel_rfl) (by kernel_rfl) ?_
    refine Kw.pureS (Canon.ldS 3 (.pointer (some ⟨B13, 1, none⟩))) (.int .i64 7) (by kernel_rfl) (by kernel_rfl) (Kw.ld_cell 3 1 (.int .i64 7) (M15.get 0 rfl) (by kernel_rfl) _ Try.underlying3 rfl) ?_
    refine Kw.pure (.pointer (some ⟨B13, 2, none⟩)) (by kernel_rfl) (by kernel_rfl) ?_
    refine Kw.pureS (Canon.ldS 3 (.pointer (some ⟨B13, 2, none⟩))) (.int .i64 (s rd)) (by kernel_rfl) (by kernel_rfl) (Kw.ld_cell 3 2 (.int .i64 (s rd)) (M15.get 0 rfl) (by kernel_rfl) _ Try.underlying3 rfl) ?_
    refine Kw.pure (.int .u64 (u rd)) (by kernel_rfl) (Kw.eqv (v := .int .u64 (IntKind.u64.wrap (s rd))) (by kernel_rfl) (congrArg (Value.int .u64) (wrap_s rd))) ?_
    refine Kw.call (.int .u64 (u (putI (putI (putI (putI 0#64 0 7 (cd k)) 12 3 (ff k)) 25 7 (ot k)) 7 5 rd))) 48 #[.int .u64 (u (putI (putI (putI 0#64 0 7 (cd k)) 12 3 (ff k)) 25 7 (ot k))), .int .i64 7, .int .i64 5, .int .u64 (u rd)] M15 (by kernel_rfl) (by kernel_rfl) (put_c (putI (putI (putI 0#64 0 7 (cd k)) 12 3 (ff k)) 25 7 (ot k)) 7 5 rd w15) fun w17 M17 => ?_
    refine Kw.pure (.int .u64 (u (putI (putI (putI (putI 0#64 0 7 (cd k)) 12 3 (ff k)) 25 7 (ot k)) 7 5 rd))) (by kernel_rfl) (by kernel_rfl) ?_
    refine Kw.fin ?_
    refine Kw.block_normal ?_
    refine Kw.then_normal ?_
    refine Kw.region ?_
    refine Kw.pureS (Canon.opS .add 3 (.tmp 62) (.const (.int .i64 1)) (.int .i64 0) (.int .i64 1)) (.int .i64 1) (by kernel_rfl) (by kernel_rfl) (by kernel_rfl) ?_
    refine Kw.pure (.int .i64 1) (by kernel_rfl) (by kernel_rfl) ?_
    refine Kw.fin ?_
    refine Kw.then_normal ?_
    refine Kw.round_succ ?_
    refine wp_seq ?_
    refine Kw.region ?_
    refine Kw.pureS (Canon.opS .lss 3 (.tmp 62) (.const (.int .i64 3)) (.int .i64 1) (.int .i64 3)) (.bool true) (by kernel_rfl) (by kernel_rfl) (by kernel_rfl) ?_
    refine Kw.fin ?_
    refine Kw.then_normal ?_
    refine wp_seq ?_
    refine wp_cond_true (by kernel_rfl) ?_
    refine wp_skip ?_
    refine Kw.then_normal ?_
    refine wp_seq ?_
    refine wp_block ?_
    refine wp_seq ?_
    refine Kw.region ?_
    refine Kw.pure (.agg #[.bool true, .int .i64 15, .int .i64 (s rs1)]) (by kernel_rfl) (by kernel_rfl) ?_
    refine Kw.alloc #[.bool false, .int .i64 0, .int .i64 0] 72 M17 (by kernel_rfl) (by kernel_rfl) fun w18 B18 M18 => ?_
    refine Kw.storeAll 0 72 #[.bool true, .int .i64 15, .int .i64 (s rs1)] M18 rfl (by kernel_rfl) (by kernel_rfl) (by kernel_rfl) (by kernel_rfl) (by kernel_rfl) fun w19 M19 => ?_
    refine Kw.fin ?_
    refine Kw.then_normal ?_
    refine wp_seq ?_
    refine wp_seq ?_
    refine Kw.region ?_
    refine Kw.pure (.pointer (some ⟨B18, 0, none⟩)) (by kernel_rfl) (by kernel_rfl) ?_
    refine Kw.pureS (Canon.ldS 4 (.pointer (some ⟨B18, 0, none⟩))) (.bool true) (by kernel_rfl) (by kernel_rfl) (Kw.ld_cell 4 0 (.bool true) (M19.get 0 rfl) (by kernel_rfl) _ Try.underlying4 rfl) ?_
    refine Kw.pure (.bool true) (by kernel_rfl) (by kernel_rfl) ?_
    refine Kw.pure (.pointer (some ⟨B18, 2, none⟩)) (by kernel_rfl) (by kernel_rfl) ?_
    refine Kw.pureS (Canon.ldS 3 (.pointer (some ⟨B18, 2, none⟩))) (.int .i64 (s rs1)) (by kernel_rfl) (by kernel_rfl) (Kw.ld_cell 3 2 (.int .i64 (s rs1)) (M19.get 0 rfl) (by kernel_rfl) _ Try.underlying3 rfl) ?_
    refine Kw.call (.bool F2) 47 #[.int .i64 (s rs1), .int .i64 5, .bool false] M19 (by kernel_rfl) (by kernel_rfl) (by have h := fits_c rs1 5 false w19; rw [g2] at h; exact h) fun w20 M20 => ?_
    refine Kw.pure (.bool (!F2)) (by kernel_rfl) (by kernel_rfl) ?_
    refine Kw.pure (.bool (!F2)) (by kernel_rfl) (by kernel_rfl) ?_
    refine Kw.fin ?_
    refine Kw.then_normal ?_
    refine wp_cond_split (t := (!F2)) (by kernel_rfl) (fun h21 => ?_) (fun h21 => ?_)
    · skip
      refine wp_seq ?_
      refine Kw.region ?_
      refine Kw.pure (.int .u32 0) (by kernel_rfl) (by kernel_rfl) ?_
      refine Kw.pure (.bool false) (by kernel_rfl) (by kernel_rfl) ?_
      refine Kw.fin ?_
      refine Kw.then_normal ?_
      refine wp_ret ?_
      refine Kw.then_ret ?_
      refine Kw.block_ret ?_
      refine Kw.then_ret ?_
      refine Kw.then_ret ?_
      refine Kw.block_ret ?_
      refine Kw.then_ret ?_
      exact bodyPost_ret (v := .tuple #[.int .u32 0, .bool false]) (by kernel_rfl) (by kernel_rfl) ⟨by simp_all [encR], M20.drop⟩
    · skip
      refine wp_skip ?_
      refine Kw.then_normal ?_
      refine wp_seq ?_
      refine Kw.region ?_
      refine Kw.pure (.pointer (some ⟨B18, 0, none⟩)) (by kernel_rfl) (by kernel_rfl) ?_
      refine Kw.pureS (Canon.ldS 4 (.pointer (some ⟨B18, 0, none⟩))) (.bool true) (by kernel_rfl) (by kernel_rfl) (Kw.ld_cell 4 0 (.bool true) (M20.get 0 rfl) (by kernel_rfl) _ Try.underlying4 rfl) ?_
      refine Kw.fin ?_
      refine Kw.then_normal ?_
      refine wp_cond_true (by kernel_rfl) ?_
      refine Kw.region ?_
      refine Kw.pure (.int .u64 (u (putI (putI (putI (putI 0#64 0 7 (cd k)) 12 3 (ff k)) 25 7 (ot k)) 7 5 rd))) (by kernel_rfl) (by kernel_rfl) ?_
      refine Kw.pure (.pointer (some ⟨B18, 1, none⟩)) (by kernel_rfl) (by kernel_rfl) ?_
      refine Kw.pureS (Canon.ldS 3 (.pointer (some ⟨B18, 1, none⟩))) (.int .i64 15) (by kernel_rfl) (by kernel_rfl) (Kw.ld_cell 3 1 (.int .i64 15) (M20.get 0 rfl) (by kernel_rfl) _ Try.underlying3 rfl) ?_
      refine Kw.pure (.pointer (some ⟨B18, 2, none⟩)) (by kernel_rfl) (by kernel_rfl) ?_
      refine Kw.pureS (Canon.ldS 3 (.pointer (some ⟨B18, 2, none⟩))) (.int .i64 (s rs1)) (by kernel_rfl) (by kernel_rfl) (Kw.ld_cell 3 2 (.int .i64 (s rs1)) (M20.get 0 rfl) (by kernel_rfl) _ Try.underlying3 rfl) ?_
      refine Kw.pure (.int .u64 (u rs1)) (by kernel_rfl) (Kw.eqv (v := .int .u64 (IntKind.u64.wrap (s rs1))) (by kernel_rfl) (congrArg (Value.int .u64) (wrap_s rs1))) ?_
      refine Kw.call (.int .u64 (u (putI (putI (putI (putI (putI 0#64 0 7 (cd k)) 12 3 (ff k)) 25 7 (ot k)) 7 5 rd) 15 5 rs1))) 48 #[.int .u64 (u (putI (putI (putI (putI 0#64 0 7 (cd k)) 12 3 (ff k)) 25 7 (ot k)) 7 5 rd)), .int .i64 15, .int .i64 5, .int .u64 (u rs1)] M20 (by kernel_rfl) (by kernel_rfl) (put_c (putI (putI (putI (putI 0#64 0 7 (cd k)) 12 3 (ff k)) 25 7 (ot k)) 7 5 rd) 15 5 rs1 w20) fun w22 M22 => ?_
      refine Kw.pure (.int .u64 (u (putI (putI (putI (putI (putI 0#64 0 7 (cd k)) 12 3 (ff k)) 25 7 (ot k)) 7 5 rd) 15 5 rs1))) (by kernel_rfl) (by kernel_rfl) ?_
      refine Kw.fin ?_
      refine Kw.block_normal ?_
      refine Kw.then_normal ?_
      refine Kw.region ?_
      refine Kw.pureS (Canon.opS .add 3 (.tmp 62) (.const (.int .i64 1)) (.int .i64 1) (.int .i64 1)) (.int .i64 2) (by kernel_rfl) (by kernel_rfl) (by kernel_rfl) ?_
      refine Kw.pure (.int .i64 2) (by kernel_rfl) (by kernel_rfl) ?_
      refine Kw.fin ?_
      refine Kw.then_normal ?_
      refine Kw.round_succ ?_
      refine wp_seq ?_
      refine Kw.region ?_
      refine Kw.pureS (Canon.opS .lss 3 (.tmp 62) (.const (.int .i64 3)) (.int .i64 2) (.int .i64 3)) (.bool true) (by kernel_rfl) (by kernel_rfl) (by kernel_rfl) ?_
      refine Kw.fin ?_
      refine Kw.then_normal ?_
      refine wp_seq ?_
      refine wp_cond_true (by kernel_rfl) ?_
      refine wp_skip ?_
      refine Kw.then_normal ?_
      refine wp_seq ?_
      refine wp_block ?_
      refine wp_seq ?_
      refine Kw.region ?_
      refine Kw.pure (.agg #[.bool true, .int .i64 20, .int .i64 (s rs2)]) (by kernel_rfl) (by kernel_rfl) ?_
      refine Kw.alloc #[.bool false, .int .i64 0, .int .i64 0] 72 M22 (by kernel_rfl) (by kernel_rfl) fun w23 B23 M23 => ?_
      refine Kw.storeAll 0 72 #[.bool true, .int .i64 20, .int .i64 (s rs2)] M23 rfl (by kernel_rfl) (by kernel_rfl) (by kernel_rfl) (by kernel_rfl) (by kernel_rfl) fun w24 M24 => ?_
      refine Kw.fin ?_
      refine Kw.then_normal ?_
      refine wp_seq ?_
      refine wp_seq ?_
      refine Kw.region ?_
      refine Kw.pure (.pointer (some ⟨B23, 0, none⟩)) (by kernel_rfl) (by kernel_rfl) ?_
      refine Kw.pureS (Canon.ldS 4 (.pointer (some ⟨B23, 0, none⟩))) (.bool true) (by kernel_rfl) (by kernel_rfl) (Kw.ld_cell 4 0 (.bool true) (M24.get 0 rfl) (by kernel_rfl) _ Try.underlying4 rfl) ?_
      refine Kw.pure (.bool true) (by kernel_rfl) (by kernel_rfl) ?_
      refine Kw.pure (.pointer (some ⟨B23, 2, none⟩)) (by kernel_rfl) (by kernel_rfl) ?_
      refine Kw.pureS (Canon.ldS 3 (.pointer (some ⟨B23, 2, none⟩))) (.int .i64 (s rs2)) (by kernel_rfl) (by kernel_rfl) (Kw.ld_cell 3 2 (.int .i64 (s rs2)) (M24.get 0 rfl) (by kernel_rfl) _ Try.underlying3 rfl) ?_
      refine Kw.call (.bool F3) 47 #[.int .i64 (s rs2), .int .i64 5, .bool false] M24 (by kernel_rfl) (by kernel_rfl) (by have h := fits_c rs2 5 false w24; rw [g3] at h; exact h) fun w25 M25 => ?_
      refine Kw.pure (.bool (!F3)) (by kernel_rfl) (by kernel_rfl) ?_
      refine Kw.pure (.bool (!F3)) (by kernel_rfl) (by kernel_rfl) ?_
      refine Kw.fin ?_
      refine Kw.then_normal ?_
      refine wp_cond_split (t := (!F3)) (by kernel_rfl) (fun h26 => ?_) (fun h26 => ?_)
      · skip
        refine wp_seq ?_
        refine Kw.region ?_
        refine Kw.pure (.int .u32 0) (by kernel_rfl) (by kernel_rfl) ?_
        refine Kw.pure (.bool false) (by kernel_rfl) (by kernel_rfl) ?_
        refine Kw.fin ?_
        refine Kw.then_normal ?_
        refine wp_ret ?_
        refine Kw.then_ret ?_
        refine Kw.block_ret ?_
        refine Kw.then_ret ?_
        refine Kw.then_ret ?_
        refine Kw.block_ret ?_
        refine Kw.then_ret ?_
        exact bodyPost_ret (v := .tuple #[.int .u32 0, .bool false]) (by kernel_rfl) (by kernel_rfl) ⟨by simp_all [encR], M25.drop⟩
      · skip
        refine wp_skip ?_
        refine Kw.then_normal ?_
        refine wp_seq ?_
        refine Kw.region ?_
        refine Kw.pure (.pointer (some ⟨B23, 0, none⟩)) (by kernel_rfl) (by kernel_rfl) ?_
        refine Kw.pureS (Canon.ldS 4 (.pointer (some ⟨B23, 0, none⟩))) (.bool true) (by kernel_rfl) (by kernel_rfl) (Kw.ld_cell 4 0 (.bool true) (M25.get 0 rfl) (by kernel_rfl) _ Try.underlying4 rfl) ?_
        refine Kw.fin ?_
        refine Kw.then_normal ?_
        refine wp_cond_true (by kernel_rfl) ?_
        refine Kw.region ?_
        refine Kw.pure (.int .u64 (u (putI (putI (putI (putI (putI 0#64 0 7 (cd k)) 12 3 (ff k)) 25 7 (ot k)) 7 5 rd) 15 5 rs1))) (by kernel_rfl) (by kernel_rfl) ?_
        refine Kw.pure (.pointer (some ⟨B23, 1, none⟩)) (by kernel_rfl) (by kernel_rfl) ?_
        refine Kw.pureS (Canon.ldS 3 (.pointer (some ⟨B23, 1, none⟩))) (.int .i64 20) (by kernel_rfl) (by kernel_rfl) (Kw.ld_cell 3 1 (.int .i64 20) (M25.get 0 rfl) (by kernel_rfl) _ Try.underlying3 rfl) ?_
        refine Kw.pure (.pointer (some ⟨B23, 2, none⟩)) (by kernel_rfl) (by kernel_rfl) ?_
        refine Kw.pureS (Canon.ldS 3 (.pointer (some ⟨B23, 2, none⟩))) (.int .i64 (s rs2)) (by kernel_rfl) (by kernel_rfl) (Kw.ld_cell 3 2 (.int .i64 (s rs2)) (M25.get 0 rfl) (by kernel_rfl) _ Try.underlying3 rfl) ?_
        refine Kw.pure (.int .u64 (u rs2)) (by kernel_rfl) (Kw.eqv (v := .int .u64 (IntKind.u64.wrap (s rs2))) (by kernel_rfl) (congrArg (Value.int .u64) (wrap_s rs2))) ?_
        refine Kw.call (.int .u64 (u (putI (putI (putI (putI (putI (putI 0#64 0 7 (cd k)) 12 3 (ff k)) 25 7 (ot k)) 7 5 rd) 15 5 rs1) 20 5 rs2))) 48 #[.int .u64 (u (putI (putI (putI (putI (putI 0#64 0 7 (cd k)) 12 3 (ff k)) 25 7 (ot k)) 7 5 rd) 15 5 rs1)), .int .i64 20, .int .i64 5, .int .u64 (u rs2)] M25 (by kernel_rfl) (by kernel_rfl) (put_c (putI (putI (putI (putI (putI 0#64 0 7 (cd k)) 12 3 (ff k)) 25 7 (ot k)) 7 5 rd) 15 5 rs1) 20 5 rs2 w25) fun w27 M27 => ?_
        refine Kw.pure (.int .u64 (u (putI (putI (putI (putI (putI (putI 0#64 0 7 (cd k)) 12 3 (ff k)) 25 7 (ot k)) 7 5 rd) 15 5 rs1) 20 5 rs2))) (by kernel_rfl) (by kernel_rfl) ?_
        refine Kw.fin ?_
        refine Kw.block_normal ?_
        refine Kw.then_normal ?_
        refine Kw.region ?_
        refine Kw.pureS (Canon.opS .add 3 (.tmp 62) (.const (.int .i64 1)) (.int .i64 2) (.int .i64 1)) (.int .i64 3) (by kernel_rfl) (by kernel_rfl) (by kernel_rfl) ?_
        refine Kw.pure (.int .i64 3) (by kernel_rfl) (by kernel_rfl) ?_
        refine Kw.fin ?_
        refine Kw.then_normal ?_
        refine Kw.round_succ ?_
        refine wp_seq ?_
        refine Kw.region ?_
        refine Kw.pureS (Canon.opS .lss 3 (.tmp 62) (.const (.int .i64 3)) (.int .i64 3) (.int .i64 3)) (.bool false) (by kernel_rfl) (by kernel_rfl) (by kernel_rfl) ?_
        refine Kw.fin ?_
        refine Kw.then_normal ?_
        refine wp_seq ?_
        refine wp_cond_false (by kernel_rfl) ?_
        refine wp_exit ?_
        refine Kw.then_exit ?_
        refine Kw.then_exit ?_
        refine Kw.block_hit ?_
        refine Kw.then_normal ?_
        refine wp_seq ?_
        refine Kw.region ?_
        refine Kw.pure (.int .u64 (u (putI (putI (putI (putI (putI (putI 0#64 0 7 (cd k)) 12 3 (ff k)) 25 7 (ot k)) 7 5 rd) 15 5 rs1) 20 5 rs2))) (by kernel_rfl) (by kernel_rfl) ?_
        refine Kw.pure (.int .u32 (u ((putI (putI (putI (putI (putI (putI 0#64 0 7 (cd k)) 12 3 (ff k)) 25 7 (ot k)) 7 5 rd) 15 5 rs1) 20 5 rs2) &&& 4294967295#64))) (by kernel_rfl) (Kw.eqv (v := .int .u32 (IntKind.u32.wrap (u (putI (putI (putI (putI (putI (putI 0#64 0 7 (cd k)) 12 3 (ff k)) 25 7 (ot k)) 7 5 rd) 15 5 rs1) 20 5 rs2)))) (by kernel_rfl) (congrArg (Value.int .u32) (wrap32_u (putI (putI (putI (putI (putI (putI 0#64 0 7 (cd k)) 12 3 (ff k)) 25 7 (ot k)) 7 5 rd) 15 5 rs1) 20 5 rs2)))) ?_
        refine Kw.pure (.int .u32 (u ((putI (putI (putI (putI (putI (putI 0#64 0 7 (cd k)) 12 3 (ff k)) 25 7 (ot k)) 7 5 rd) 15 5 rs1) 20 5 rs2) &&& 4294967295#64))) (by kernel_rfl) (by kernel_rfl) ?_
        refine Kw.pure (.bool true) (by kernel_rfl) (by kernel_rfl) ?_
        refine Kw.fin ?_
        refine Kw.then_normal ?_
        refine wp_ret ?_
        exact bodyPost_ret (v := .tuple #[.int .u32 (u ((putI (putI (putI (putI (putI (putI 0#64 0 7 (cd k)) 12 3 (ff k)) 25 7 (ot k)) 7 5 rd) 15 5 rs1) 20 5 rs2) &&& 4294967295#64)), .bool true]) (by kernel_rfl) (by kernel_rfl) ⟨by simp_all [encR], M27.drop⟩
def word_G (k : Nat) (rd rs1 rs2 imm : BitVec 64) : BitVec 64 := (putI (putI (putI (putI (putI (putI 0#64 0 7 (cd k)) 12 3 (ff k)) 20 5 (ot k)) 25 7 127#64) 7 5 rd) 15 5 rs1)
set_option maxRecDepth 100000 in
set_option maxHeartbeats 1000000 in
theorem enc_G (k : Nat) (hk : k < 69) (hs : sh k = 71) (rd rs1 rs2 imm : BitVec 64) (F1 : Bool) (g1 : fitsI rd 5 false = F1) (F2 : Bool) (g2 : fitsI rs1 5 false = F2) (W : World) : Calls Try.prog 25 #[.agg #[.int .i64 ((k + 1 : Nat) : Int), .int .i64 (s rd), .int .i64 (s rs1), .int .i64 (s rs2), .int .i64 (s imm)]] W fun e W' => e = .returned (encR (F1 && F2) (word_G k rd rs1 rs2 imm)) ∧ Kw.Mem [] W W' [] := by
  unfold word_G
  refine calls_of_wp Try.func25 rfl ?_
  have M0 : Kw.Mem [] W W [] := Kw.Mem.start _ _
  refine Kw.to (b := ⟨#[.agg #[.int .i64 ((k + 1 : Nat) : Int), .int .i64 (s rd), .int .i64 (s rs1), .int .i64 (s rs2), .int .i64 (s imm)], undef, undef, undef, undef, undef, undef, undef, undef, undef, undef, undef, undef, undef, undef, undef, undef, undef, undef, undef, undef, undef, undef, undef, undef, undef, undef, undef, undef, undef, undef, undef, undef, undef, undef, undef, undef, undef, undef, undef, undef, undef, undef, undef, undef, undef, undef, undef, undef, undef, undef, undef, undef, undef, undef, undef, undef, undef, undef, undef, undef, undef, undef, undef, undef, undef, undef, undef, undef, undef, undef, undef, undef, undef, undef, undef, undef, undef, undef, undef, undef, undef, undef, undef, undef], []⟩) (by kernel_rfl) ?_
  refine wp_seq ?_
  refine Kw.region ?_
  refine Kw.alloc #[.int .i64 ((k + 1 : Nat) : Int), .int .i64 (s rd), .int .i64 (s rs1), .int .i64 (s rs2), .int .i64 (s imm)] 36 M0 (by kernel_rfl) (by kernel_rfl) fun w1 B1 M1 => ?_
  refine Kw.pure (.int .u32 0) (by kernel_rfl) (by kernel_rfl) ?_
  refine Kw.pure (.bool false) (by kernel_rfl) (by kernel_rfl) ?_
  refine Kw.fin ?_
  refine Kw.then_normal ?_
  refine wp_seq ?_
  refine Kw.region ?_
  refine Kw.pure (.pointer (some ⟨B1, 0, none⟩)) (by kernel_rfl) (by kernel_rfl) ?_
  refine Kw.pureS (Canon.ldS 3 (.pointer (some ⟨B1, 0, none⟩))) (.int .i64 ((k + 1 : Nat) : Int)) (by kernel_rfl) (by kernel_rfl) (Kw.ld_cell 3 0 (.int .i64 ((k + 1 : Nat) : Int)) (M1.get 0 rfl) (by kernel_rfl) _ Try.underlying3 rfl) ?_
  refine Kw.call (.tuple #[.agg #[.string (nm k), .int .u8 71, .int .u64 (u (cd k)), .int .u64 (u (ff k)), .int .u64 (u (ot k))], .bool true]) 41 #[.int .i64 ((k + 1 : Nat) : Int)] M1 (by kernel_rfl) (by kernel_rfl) (of_sh 71 k hk hs w1) fun w2 M2 => ?_
  refine Kw.pure (.tuple #[.agg #[.string (nm k), .int .u8 71, .int .u64 (u (cd k)), .int .u64 (u (ff k)), .int .u64 (u (ot k))], .bool true]) (by kernel_rfl) (by kernel_rfl) ?_
  refine Kw.pure (.agg #[.string (nm k), .int .u8 71, .int .u64 (u (cd k)), .int .u64 (u (ff k)), .int .u64 (u (ot k))]) (by kernel_rfl) (by kernel_rfl) ?_
  refine Kw.pure (.bool true) (by kernel_rfl) (by kernel_rfl) ?_
  refine Kw.alloc #[.string ⟨#[]⟩, .int .u8 0, .int .u64 0, .int .u64 0, .int .u64 0] 59 M2 (by kernel_rfl) (by kernel_rfl) fun w3 B3 M3 => ?_
  refine Kw.storeAll 0 59 #[.string (nm k), .int .u8 71, .int .u64 (u (cd k)), .int .u64 (u (ff k)), .int .u64 (u (ot k))] M3 rfl (by kernel_rfl) (by kernel_rfl) (by kernel_rfl) (by kernel_rfl) (by kernel_rfl) fun w4 M4 => ?_
  refine Kw.pure (.bool true) (by kernel_rfl) (by kernel_rfl) ?_
  refine Kw.fin ?_
  refine Kw.then_normal ?_
  refine wp_seq ?_
  refine wp_seq ?_
  refine Held.start (fun w => Kw.Mem [] W w [(B3, #[.string (nm k), .int .u8 71, .int .u64 (u (cd k)), .int .u64 (u (ff k)), .int .u64 (u (ot k))], 59), (B1, #[.int .i64 ((k + 1 : Nat) : Int), .int .i64 (s rd), .int .i64 (s rs1), .int .i64 (s rs2), .int .i64 (s imm)], 36)]) (by kernel_rfl) ?_
  have M5 := M4.drew
  have MS := M5
  refine Held.takeP 0 (.bool true) rfl (by decide +kernel) (by decide +kernel) (by decide +kernel) (by kernel_rfl) (fun w => by kernel_rfl) MS ?_
  refine Held.takeP 1 (.bool false) rfl (by decide +kernel) (by decide +kernel) (by decide +kernel) (by kernel_rfl) (fun w => by kernel_rfl) MS ?_
  refine Held.takeP 2 (.bool false) rfl (by decide +kernel) (by decide +kernel) (by decide +kernel) (by kernel_rfl) (fun w => by kernel_rfl) MS ?_
  refine Held.takeP 3 (.pointer (some ⟨B3, 1, none⟩)) rfl (by decide +kernel) (by decide +kernel) (by decide +kernel) (by kernel_rfl) (fun w => by kernel_rfl) MS ?_
  refine Held.take 4 (Canon.ldS 5 (.pointer (some ⟨B3, 1, none⟩))) (.int .u8 71) rfl (by decide +kernel) (by decide +kernel) (by decide +kernel) (by kernel_rfl) (by kernel_rfl) (fun w hw => Kw.ld_cell 5 1 (.int .u8 71) (hw.get 0 rfl) (by kernel_rfl) _ Try.underlying5 rfl) MS ?_
  refine Held.takeP 6 (.pointer (some ⟨B1, 4, none⟩)) rfl (by decide +kernel) (by decide +kernel) (by decide +kernel) (by kernel_rfl) (fun w => by kernel_rfl) MS ?_
  refine Held.take 7 (Canon.ldS 2 (.pointer (some ⟨B1, 4, none⟩))) (.int .i64 (s imm)) rfl (by decide +kernel) (by decide +kernel) (by decide +kernel) (by kernel_rfl) (by kernel_rfl) (fun w hw => Kw.ld_cell 2 4 (.int .i64 (s imm)) (hw.get 1 rfl) (by kernel_rfl) _ Try.underlying2 rfl) MS ?_
  refine Held.oneCall (ι := Unit) 5 (fun _ => (.agg #[.slice none 0 0, .int .i64 0, .bool false, .int .i64 0])) 42 #[.int .u8 71] (R := fun _ w1 => Kw.Mem [] (w4.drew) w1 []) rfl (by decide +kernel) (by kernel_rfl) (by kernel_rfl) (Held.unit (laid_G (w4.drew))) fun _ w6 hc => ?_
  have M6 := M5.call hc
  clear hc
  refine ⟨M6, ?_⟩
  have MS := M6
  refine Held.oneCall (ι := Unit) 8 (fun _ => (.bool true)) 43 #[.agg #[.slice none 0 0, .int .i64 0, .bool false, .int .i64 0], .int .i64 (s imm)] (R := fun _ w1 => Kw.Mem [] w6 w1 []) rfl (by decide +kernel) (by kernel_rfl) (by kernel_rfl) (Held.unit (fits_R1 imm w6)) fun _ w7 hc => ?_
  have M7 := M6.call hc
  clear hc
  refine ⟨M7, ?_⟩
  have MS := M7
  refine Held.takeP 9 (.bool false) rfl (by decide +kernel) (by decide +kernel) (by decide +kernel) (by kernel_rfl) (fun w => by kernel_rfl) MS ?_
  refine Held.takeP 10 (.bool false) rfl (by decide +kernel) (by decide +kernel) (by decide +kernel) (by kernel_rfl) (fun w => by kernel_rfl) MS ?_
  refine Held.done (by decide +kernel) ?_
  refine Kw.then_normal ?_
  refine wp_cond_false (by kernel_rfl) ?_
  refine wp_skip ?_
  refine Kw.then_normal ?_
  refine wp_seq ?_
  refine Kw.region ?_
  refine Kw.pureS (Canon.ldS 59 (.pointer (some ⟨B3, 0, none⟩))) (.agg #[.string (nm k), .int .u8 71, .int .u64 (u (cd k)), .int .u64 (u (ff k)), .int .u64 (u (ot k))]) (by kernel_rfl) (by kernel_rfl) (Kw.ld_all 59 (M7.get 0 rfl) _ Try.underlying59 rfl (by kernel_rfl)) ?_
  refine Kw.call (.tuple #[.int .u64 (u (putI (putI (putI (putI 0#64 0 7 (cd k)) 12 3 (ff k)) 20 5 (ot k)) 25 7 127#64)), .int .u64 (u (putI (putI (putI (putI 0#64 0 7 18446744073709551615#64) 12 3 18446744073709551615#64) 20 5 18446744073709551615#64) 25 7 18446744073709551615#64))]) 44 #[.agg #[.string (nm k), .int .u8 71, .int .u64 (u (cd k)), .int .u64 (u (ff k)), .int .u64 (u (ot k))]] M7 (by kernel_rfl) (by kernel_rfl) (fixed_G (nm k) (cd k) (ff k) (ot k) w7) fun w8 M8 => ?_
  refine Kw.pure (.tuple #[.int .u64 (u (putI (putI (putI (putI 0#64 0 7 (cd k)) 12 3 (ff k)) 20 5 (ot k)) 25 7 127#64)), .int .u64 (u (putI (putI (putI (putI 0#64 0 7 18446744073709551615#64) 12 3 18446744073709551615#64) 20 5 18446744073709551615#64) 25 7 18446744073709551615#64))]) (by kernel_rfl) (by kernel_rfl) ?_
  refine Kw.pure (.int .u64 (u (putI (putI (putI (putI 0#64 0 7 (cd k)) 12 3 (ff k)) 20 5 (ot k)) 25 7 127#64))) (by kernel_rfl) (by kernel_rfl) ?_
  refine Kw.pure (.int .u64 (u (putI (putI (putI (putI 0#64 0 7 18446744073709551615#64) 12 3 18446744073709551615#64) 20 5 18446744073709551615#64) 25 7 18446744073709551615#64))) (by kernel_rfl) (by kernel_rfl) ?_
  refine Kw.pure (.int .u64 (u (putI (putI (putI (putI 0#64 0 7 (cd k)) 12 3 (ff k)) 20 5 (ot k)) 25 7 127#64))) (by kernel_rfl) (by kernel_rfl) ?_
  refine Kw.pure (.int .u64 (u (putI (putI (putI (putI 0#64 0 7 18446744073709551615#64) 12 3 18446744073709551615#64) 20 5 18446744073709551615#64) 25 7 18446744073709551615#64))) (by kernel_rfl) (by kernel_rfl) ?_
  refine Kw.fin ?_
  refine Kw.then_normal ?_
  refine wp_seq ?_
  refine Kw.region ?_
  refine Kw.pure (.pointer (some ⟨B3, 1, none⟩)) (by kernel_rfl) (by kernel_rfl) ?_
  refine Kw.pureS (Canon.ldS 5 (.pointer (some ⟨B3, 1, none⟩))) (.int .u8 71) (by kernel_rfl) (by kernel_rfl) (Kw.ld_cell 5 1 (.int .u8 71) (M8.get 0 rfl) (by kernel_rfl) _ Try.underlying5 rfl) ?_
  refine Kw.call (.tuple #[.bool true, .bool true, .bool false]) 45 #[.int .u8 71] M8 (by kernel_rfl) (by kernel_rfl) (has_G w8) fun w9 M9 => ?_
  refine Kw.pure (.tuple #[.bool true, .bool true, .bool false]) (by kernel_rfl) (by kernel_rfl) ?_
  refine Kw.pure (.bool true) (by kernel_rfl) (by kernel_rfl) ?_
  refine Kw.pure (.bool true) (by kernel_rfl) (by kernel_rfl) ?_
  refine Kw.pure (.bool false) (by kernel_rfl) (by kernel_rfl) ?_
  refine Kw.pure (.bool true) (by kernel_rfl) (by kernel_rfl) ?_
  refine Kw.pure (.bool true) (by kernel_rfl) (by kernel_rfl) ?_
  refine Kw.pure (.bool false) (by kernel_rfl) (by kernel_rfl) ?_
  refine Kw.fin ?_
  refine Kw.then_normal ?_
  refine wp_seq ?_
  refine Held.start (fun w => Kw.Mem [] W w [(B3, #[.string (nm k), .int .u8 71, .int .u64 (u (cd k)), .int .u64 (u (ff k)), .int .u64 (u (ot k))], 59), (B1, #[.int .i64 ((k + 1 : Nat) : Int), .int .i64 (s rd), .int .i64 (s rs1), .int .i64 (s rs2), .int .i64 (s imm)], 36)]) (by kernel_rfl) ?_
  have M10 := M9.drew
  have MS := M10
  refine Held.takeP 0 (.pointer (some ⟨B3, 1, none⟩)) rfl (by decide +kernel) (by decide +kernel) (by decide +kernel) (by kernel_rfl) (fun w => by kernel_rfl) MS ?_
  refine Held.take 1 (Canon.ldS 5 (.pointer (some ⟨B3, 1, none⟩))) (.int .u8 71) rfl (by decide +kernel) (by decide +kernel) (by decide +kernel) (by kernel_rfl) (by kernel_rfl) (fun w hw => Kw.ld_cell 5 1 (.int .u8 71) (hw.get 0 rfl) (by kernel_rfl) _ Try.underlying5 rfl) MS ?_
  refine Held.takeP 3 (.int .u64 (u (putI (putI (putI (putI 0#64 0 7 (cd k)) 12 3 (ff k)) 20 5 (ot k)) 25 7 127#64))) rfl (by decide +kernel) (by decide +kernel) (by decide +kernel) (by kernel_rfl) (fun w => by kernel_rfl) MS ?_
  refine Held.takeP 4 (.pointer (some ⟨B1, 4, none⟩)) rfl (by decide +kernel) (by decide +kernel) (by decide +kernel) (by kernel_rfl) (fun w => by kernel_rfl) MS ?_
  refine Held.take 5 (Canon.ldS 2 (.pointer (some ⟨B1, 4, none⟩))) (.int .i64 (s imm)) rfl (by decide +kernel) (by decide +kernel) (by decide +kernel) (by kernel_rfl) (by kernel_rfl) (fun w hw => Kw.ld_cell 2 4 (.int .i64 (s imm)) (hw.get 1 rfl) (by kernel_rfl) _ Try.underlying2 rfl) MS ?_
  refine Held.oneCall (ι := Unit) 2 (fun _ => (.agg #[.slice none 0 0, .int .i64 0, .bool false, .int .i64 0])) 42 #[.int .u8 71] (R := fun _ w1 => Kw.Mem [] (w9.drew) w1 []) rfl (by decide +kernel) (by kernel_rfl) (by kernel_rfl) (Held.unit (laid_G (w9.drew))) fun _ w11 hc => ?_
  have M11 := M10.call hc
  clear hc
  refine ⟨M11, ?_⟩
  have MS := M11
  refine Held.oneCall (ι := Unit) 6 (fun _ => (.int .u64 (u (putI (putI (putI (putI 0#64 0 7 (cd k)) 12 3 (ff k)) 20 5 (ot k)) 25 7 127#64)))) 46 #[.agg #[.slice none 0 0, .int .i64 0, .bool false, .int .i64 0], .int .u64 (u (putI (putI (putI (putI 0#64 0 7 (cd k)) 12 3 (ff k)) 20 5 (ot k)) 25 7 127#64)), .int .i64 (s imm)] (R := fun _ w1 => Kw.Mem [] w11 w1 []) rfl (by decide +kernel) (by kernel_rfl) (by kernel_rfl) (Held.unit (lay_R (putI (putI (putI (putI 0#64 0 7 (cd k)) 12 3 (ff k)) 20 5 (ot k)) 25 7 127#64) imm w11)) fun _ w12 hc => ?_
  have M12 := M11.call hc
  clear hc
  refine ⟨M12, ?_⟩
  have MS := M12
  refine Held.takeP 7 (.int .u64 (u (putI (putI (putI (putI 0#64 0 7 (cd k)) 12 3 (ff k)) 20 5 (ot k)) 25 7 127#64))) rfl (by decide +kernel) (by decide +kernel) (by decide +kernel) (by kernel_rfl) (fun w => by kernel_rfl) MS ?_
  refine Held.done (by decide +kernel) ?_
  refine Kw.then_normal ?_
  refine wp_seq ?_
  refine wp_seq ?_
  refine Kw.region ?_
  refine Kw.pure (.bool true) (by kernel_rfl) (by kernel_rfl) ?_
  refine Kw.pure (.pointer (some ⟨B1, 1, none⟩)) (by kernel_rfl) (by kernel_rfl) ?_
  refine Kw.pureS (Canon.ldS 3 (.pointer (some ⟨B1, 1, none⟩))) (.int .i64 (s rd)) (by kernel_rfl) (by kernel_rfl) (Kw.ld_cell 3 1 (.int .i64 (s rd)) (M12.get 1 rfl) (by kernel_rfl) _ Try.underlying3 rfl) ?_
  refine Kw.pure (.agg #[.bool true, .int .i64 7, .int .i64 (s rd)]) (by kernel_rfl) (by kernel_rfl) ?_
  refine Kw.pure (.bool true) (by kernel_rfl) (by kernel_rfl) ?_
  refine Kw.pure (.pointer (some ⟨B1, 2, none⟩)) (by kernel_rfl) (by kernel_rfl) ?_
  refine Kw.pureS (Canon.ldS 3 (.pointer (some ⟨B1, 2, none⟩))) (.int .i64 (s rs1)) (by kernel_rfl) (by kernel_rfl) (Kw.ld_cell 3 2 (.int .i64 (s rs1)) (M12.get 1 rfl) (by kernel_rfl) _ Try.underlying3 rfl) ?_
  refine Kw.pure (.agg #[.bool true, .int .i64 15, .int .i64 (s rs1)]) (by kernel_rfl) (by kernel_rfl) ?_
  refine Kw.pure (.bool false) (by kernel_rfl) (by kernel_rfl) ?_
  refine Kw.pure (.pointer (some ⟨B1, 3, none⟩)) (by kernel_rfl) (by kernel_rfl) ?_
  refine Kw.pureS (Canon.ldS 3 (.pointer (some ⟨B1, 3, none⟩))) (.int .i64 (s rs2)) (by kernel_rfl) (by kernel_rfl) (Kw.ld_cell 3 3 (.int .i64 (s rs2)) (M12.get 1 rfl) (by kernel_rfl) _ Try.underlying3 rfl) ?_
  refine Kw.pure (.agg #[.bool false, .int .i64 20, .int .i64 (s rs2)]) (by kernel_rfl) (by kernel_rfl) ?_
  refine Kw.pure (.agg #[.bool true, .int .i64 7, .int .i64 (s rd), .bool true, .int .i64 15, .int .i64 (s rs1), .bool false, .int .i64 20, .int .i64 (s rs2)]) (by kernel_rfl) (by kernel_rfl) ?_
  refine Kw.pure (.int .i64 0) (by kernel_rfl) (by kernel_rfl) ?_
  refine Kw.fin ?_
  refine Kw.then_normal ?_
  refine wp_block ?_
  refine wp_loop_rounds 4 ?_
  refine Kw.round_succ ?_
  refine wp_seq ?_
  refine Kw.region ?_
  refine Kw.pureS (Canon.opS .lss 3 (.tmp 62) (.const (.int .i64 3)) (.int .i64 0) (.int .i64 3)) (.bool true) (by kernel_rfl) (by kernel_rfl) (by kernel_rfl) ?_
  refine Kw.fin ?_
  refine Kw.then_normal ?_
  refine wp_seq ?_
  refine wp_cond_true (by kernel_rfl) ?_
  refine wp_skip ?_
  refine Kw.then_normal ?_
  refine wp_seq ?_
  refine wp_block ?_
  refine wp_seq ?_
  refine Kw.region ?_
  refine Kw.pure (.agg #[.bool true, .int .i64 7, .int .i64 (s rd)]) (by kernel_rfl) (by kernel_rfl) ?_
  refine Kw.alloc #[.bool false, .int .i64 0, .int .i64 0] 72 M12 (by kernel_rfl) (by kernel_rfl) fun w13 B13 M13 => ?_
  refine Kw.storeAll 0 72 #[.bool true, .int .i64 7, .int .i64 (s rd)] M13 rfl (by kernel_rfl) (by kernel_rfl) (by kernel_rfl) (by kernel_rfl) (by kernel_rfl) fun w14 M14 => ?_
  refine Kw.fin ?_
  refine Kw.then_normal ?_
  refine wp_seq ?_
  refine wp_seq ?_
  refine Kw.region ?_
  refine Kw.pure (.pointer (some ⟨B13, 0, none⟩)) (by kernel_rfl) (by kernel_rfl) ?_
  refine Kw.pureS (Canon.ldS 4 (.pointer (some ⟨B13, 0, none⟩))) (.bool true) (by kernel_rfl) (by kernel_rfl) (Kw.ld_cell 4 0 (.bool true) (M14.get 0 rfl) (by kernel_rfl) _ Try.underlying4 rfl) ?_
  refine Kw.pure (.bool true) (by kernel_rfl) (by kernel_rfl) ?_
  refine Kw.pure (.pointer (some ⟨B13, 2, none⟩)) (by kernel_rfl) (by kernel_rfl) ?_
  refine Kw.pureS (Canon.ldS 3 (.pointer (some ⟨B13, 2, none⟩))) (.int .i64 (s rd)) (by kernel_rfl) (by kernel_rfl) (Kw.ld_cell 3 2 (.int .i64 (s rd)) (M14.get 0 rfl) (by kernel_rfl) _ Try.underlying3 rfl) ?_
  refine Kw.call (.bool F1) 47 #[.int .i64 (s rd), .int .i64 5, .bool false] M14 (by kernel_rfl) (by kernel_rfl) (by have h := fits_c rd 5 false w14; rw [g1] at h; exact h) fun w15 M15 => ?_
  refine Kw.pure (.bool (!F1)) (by kernel_rfl) (by kernel_rfl) ?_
  refine Kw.pure (.bool (!F1)) (by kernel_rfl) (by kernel_rfl) ?_
  refine Kw.fin ?_
  refine Kw.then_normal ?_
  refine wp_cond_split (t := (!F1)) (by kernel_rfl) (fun h16 => ?_) (fun h16 => ?_)
  · skip
    refine wp_seq ?_
    refine Kw.region ?_
    refine Kw.pure (.int .u32 0) (by kernel_rfl) (by kernel_rfl) ?_
    refine Kw.pure (.bool false) (by kernel_rfl) (by kernel_rfl) ?_
    refine Kw.fin ?_
    refine Kw.then_normal ?_
    refine wp_ret ?_
    refine Kw.then_ret ?_
    refine Kw.block_ret ?_
    refine Kw.then_ret ?_
    refine Kw.then_ret ?_
    refine Kw.block_ret ?_
    refine Kw.then_ret ?_
    exact bodyPost_ret (v := .tuple #[.int .u32 0, .bool false]) (by kernel_rfl) (by kernel_rfl) ⟨by simp_all [encR], M15.drop⟩
  · skip
    refine wp_skip ?_
    refine Kw.then_normal ?_
    refine wp_seq ?_
    refine Kw.region ?_
    refine Kw.pure (.pointer (some ⟨B13, 0, none⟩)) (by kernel_rfl) (by kernel_rfl) ?_
    refine Kw.pureS (Canon.ldS 4 (.pointer (some ⟨B13, 0, none⟩))) (.bool true) (by kernel_rfl) (by kernel_rfl) (Kw.ld_cell 4 0 (.bool true) (M15.get 0 rfl) (by kernel_rfl) _ Try.underlying4 rfl) ?_
    refine Kw.fin ?_
    refine Kw.then_normal ?_
    refine wp_cond_true (by kernel_rfl) ?_
    refine Kw.region ?_
    refine Kw.pure (.int .u64 (u (putI (putI (putI (putI 0#64 0 7 (cd k)) 12 3 (ff k)) 20 5 (ot k)) 25 7 127#64))) (by kernel_rfl) (by kernel_rfl) ?_
    refine Kw.pure (.pointer (some ⟨B13, 1, none⟩)) (by kernel_rfl) (by kernel_rfl) ?_
    refine Kw.pureS (Canon.ldS 3 (.pointer (some ⟨B13, 1, none⟩))) (.int .i64 7) (by kernel_rfl) (by kernel_rfl) (Kw.ld_cell 3 1 (.int .i64 7) (M15.get 0 rfl) (by kernel_rfl) _ Try.underlying3 rfl) ?_
    refine Kw.pure (.pointer (some ⟨B13, 2, none⟩)) (by kernel_rfl) (by kernel_rfl) ?_
    refine Kw.pureS (Canon.ldS 3 (.pointer (some ⟨B13, 2, none⟩))) (.int .i64 (s rd)) (by kernel_rfl) (by kernel_rfl) (Kw.ld_cell 3 2 (.int .i64 (s rd)) (M15.get 0 rfl) (by kernel_rfl) _ Try.underlying3 rfl) ?_
    refine Kw.pure (.int .u64 (u rd)) (by kernel_rfl) (Kw.eqv (v := .int .u64 (IntKind.u64.wrap (s rd))) (by kernel_rfl) (congrArg (Value.int .u64) (wrap_s rd))) ?_
    refine Kw.call (.int .u64 (u (putI (putI (putI (putI (putI 0#64 0 7 (cd k)) 12 3 (ff k)) 20 5 (ot k)) 25 7 127#64) 7 5 rd))) 48 #[.int .u64 (u (putI (putI (putI (putI 0#64 0 7 (cd k)) 12 3 (ff k)) 20 5 (ot k)) 25 7 127#64)), .int .i64 7, .int .i64 5, .int .u64 (u rd)] M15 (by kernel_rfl) (by kernel_rfl) (put_c (putI (putI (putI (putI 0#64 0 7 (cd k)) 12 3 (ff k)) 20 5 (ot k)) 25 7 127#64) 7 5 rd w15) fun w17 M17 => ?_
    refine Kw.pure (.int .u64 (u (putI (putI (putI (putI (putI 0#64 0 7 (cd k)) 12 3 (ff k)) 20 5 (ot k)) 25 7 127#64) 7 5 rd))) (by kernel_rfl) (by kernel_rfl) ?_
    refine Kw.fin ?_
    refine Kw.block_normal ?_
    refine Kw.then_normal ?_
    refine Kw.region ?_
    refine Kw.pureS (Canon.opS .add 3 (.tmp 62) (.const (.int .i64 1)) (.int .i64 0) (.int .i64 1)) (.int .i64 1) (by kernel_rfl) (by kernel_rfl) (by kernel_rfl) ?_
    refine Kw.pure (.int .i64 1) (by kernel_rfl) (by kernel_rfl) ?_
    refine Kw.fin ?_
    refine Kw.then_normal ?_
    refine Kw.round_succ ?_
    refine wp_seq ?_
    refine Kw.region ?_
    refine Kw.pureS (Canon.opS .lss 3 (.tmp 62) (.const (.int .i64 3)) (.int .i64 1) (.int .i64 3)) (.bool true) (by kernel_rfl) (by kernel_rfl) (by kernel_rfl) ?_
    refine Kw.fin ?_
    refine Kw.then_normal ?_
    refine wp_seq ?_
    refine wp_cond_true (by kernel_rfl) ?_
    refine wp_skip ?_
    refine Kw.then_normal ?_
    refine wp_seq ?_
    refine wp_block ?_
    refine wp_seq ?_
    refine Kw.region ?_
    refine Kw.pure (.agg #[.bool true, .int .i64 15, .int .i64 (s rs1)]) (by kernel_rfl) (by kernel_rfl) ?_
    refine Kw.alloc #[.bool false, .int .i64 0, .int .i64 0] 72 M17 (by kernel_rfl) (by kernel_rfl) fun w18 B18 M18 => ?_
    refine Kw.storeAll 0 72 #[.bool true, .int .i64 15, .int .i64 (s rs1)] M18 rfl (by kernel_rfl) (by kernel_rfl) (by kernel_rfl) (by kernel_rfl) (by kernel_rfl) fun w19 M19 => ?_
    refine Kw.fin ?_
    refine Kw.then_normal ?_
    refine wp_seq ?_
    refine wp_seq ?_
    refine Kw.region ?_
    refine Kw.pure (.pointer (some ⟨B18, 0, none⟩)) (by kernel_rfl) (by kernel_rfl) ?_
    refine Kw.pureS (Canon.ldS 4 (.pointer (some ⟨B18, 0, none⟩))) (.bool true) (by kernel_rfl) (by kernel_rfl) (Kw.ld_cell 4 0 (.bool true) (M19.get 0 rfl) (by kernel_rfl) _ Try.underlying4 rfl) ?_
    refine Kw.pure (.bool true) (by kernel_rfl) (by kernel_rfl) ?_
    refine Kw.pure (.pointer (some ⟨B18, 2, none⟩)) (by kernel_rfl) (by kernel_rfl) ?_
    refine Kw.pureS (Canon.ldS 3 (.pointer (some ⟨B18, 2, none⟩))) (.int .i64 (s rs1)) (by kernel_rfl) (by kernel_rfl) (Kw.ld_cell 3 2 (.int .i64 (s rs1)) (M19.get 0 rfl) (by kernel_rfl) _ Try.underlying3 rfl) ?_
    refine Kw.call (.bool F2) 47 #[.int .i64 (s rs1), .int .i64 5, .bool false] M19 (by kernel_rfl) (by kernel_rfl) (by have h := fits_c rs1 5 false w19; rw [g2] at h; exact h) fun w20 M20 => ?_
    refine Kw.pure (.bool (!F2)) (by kernel_rfl) (by kernel_rfl) ?_
    refine Kw.pure (.bool (!F2)) (by kernel_rfl) (by kernel_rfl) ?_
    refine Kw.fin ?_
    refine Kw.then_normal ?_
    refine wp_cond_split (t := (!F2)) (by kernel_rfl) (fun h21 => ?_) (fun h21 => ?_)
    · skip
      refine wp_seq ?_
      refine Kw.region ?_
      refine Kw.pure (.int .u32 0) (by kernel_rfl) (by kernel_rfl) ?_
      refine Kw.pure (.bool false) (by kernel_rfl) (by kernel_rfl) ?_
      refine Kw.fin ?_
      refine Kw.then_normal ?_
      refine wp_ret ?_
      refine Kw.then_ret ?_
      refine Kw.block_ret ?_
      refine Kw.then_ret ?_
      refine Kw.then_ret ?_
      refine Kw.block_ret ?_
      refine Kw.then_ret ?_
      exact bodyPost_ret (v := .tuple #[.int .u32 0, .bool false]) (by kernel_rfl) (by kernel_rfl) ⟨by simp_all [encR], M20.drop⟩
    · skip
      refine wp_skip ?_
      refine Kw.then_normal ?_
      refine wp_seq ?_
      refine Kw.region ?_
      refine Kw.pure (.pointer (some ⟨B18, 0, none⟩)) (by kernel_rfl) (by kernel_rfl) ?_
      refine Kw.pureS (Canon.ldS 4 (.pointer (some ⟨B18, 0, none⟩))) (.bool true) (by kernel_rfl) (by kernel_rfl) (Kw.ld_cell 4 0 (.bool true) (M20.get 0 rfl) (by kernel_rfl) _ Try.underlying4 rfl) ?_
      refine Kw.fin ?_
      refine Kw.then_normal ?_
      refine wp_cond_true (by kernel_rfl) ?_
      refine Kw.region ?_
      refine Kw.pure (.int .u64 (u (putI (putI (putI (putI (putI 0#64 0 7 (cd k)) 12 3 (ff k)) 20 5 (ot k)) 25 7 127#64) 7 5 rd))) (by kernel_rfl) (by kernel_rfl) ?_
      refine Kw.pure (.pointer (some ⟨B18, 1, none⟩)) (by kernel_rfl) (by kernel_rfl) ?_
      refine Kw.pureS (Canon.ldS 3 (.pointer (some ⟨B18, 1, none⟩))) (.int .i64 15) (by kernel_rfl) (by kernel_rfl) (Kw.ld_cell 3 1 (.int .i64 15) (M20.get 0 rfl) (by kernel_rfl) _ Try.underlying3 rfl) ?_
      refine Kw.pure (.pointer (some ⟨B18, 2, none⟩)) (by kernel_rfl) (by kernel_rfl) ?_
      refine Kw.pureS (Canon.ldS 3 (.pointer (some ⟨B18, 2, none⟩))) (.int .i64 (s rs1)) (by kernel_rfl) (by kernel_rfl) (Kw.ld_cell 3 2 (.int .i64 (s rs1)) (M20.get 0 rfl) (by kernel_rfl) _ Try.underlying3 rfl) ?_
      refine Kw.pure (.int .u64 (u rs1)) (by kernel_rfl) (Kw.eqv (v := .int .u64 (IntKind.u64.wrap (s rs1))) (by kernel_rfl) (congrArg (Value.int .u64) (wrap_s rs1))) ?_
      refine Kw.call (.int .u64 (u (putI (putI (putI (putI (putI (putI 0#64 0 7 (cd k)) 12 3 (ff k)) 20 5 (ot k)) 25 7 127#64) 7 5 rd) 15 5 rs1))) 48 #[.int .u64 (u (putI (putI (putI (putI (putI 0#64 0 7 (cd k)) 12 3 (ff k)) 20 5 (ot k)) 25 7 127#64) 7 5 rd)), .int .i64 15, .int .i64 5, .int .u64 (u rs1)] M20 (by kernel_rfl) (by kernel_rfl) (put_c (putI (putI (putI (putI (putI 0#64 0 7 (cd k)) 12 3 (ff k)) 20 5 (ot k)) 25 7 127#64) 7 5 rd) 15 5 rs1 w20) fun w22 M22 => ?_
      refine Kw.pure (.int .u64 (u (putI (putI (putI (putI (putI (putI 0#64 0 7 (cd k)) 12 3 (ff k)) 20 5 (ot k)) 25 7 127#64) 7 5 rd) 15 5 rs1))) (by kernel_rfl) (by kernel_rfl) ?_
      refine Kw.fin ?_
      refine Kw.block_normal ?_
      refine Kw.then_normal ?_
      refine Kw.region ?_
      refine Kw.pureS (Canon.opS .add 3 (.tmp 62) (.const (.int .i64 1)) (.int .i64 1) (.int .i64 1)) (.int .i64 2) (by kernel_rfl) (by kernel_rfl) (by kernel_rfl) ?_
      refine Kw.pure (.int .i64 2) (by kernel_rfl) (by kernel_rfl) ?_
      refine Kw.fin ?_
      refine Kw.then_normal ?_
      refine Kw.round_succ ?_
      refine wp_seq ?_
      refine Kw.region ?_
      refine Kw.pureS (Canon.opS .lss 3 (.tmp 62) (.const (.int .i64 3)) (.int .i64 2) (.int .i64 3)) (.bool true) (by kernel_rfl) (by kernel_rfl) (by kernel_rfl) ?_
      refine Kw.fin ?_
      refine Kw.then_normal ?_
      refine wp_seq ?_
      refine wp_cond_true (by kernel_rfl) ?_
      refine wp_skip ?_
      refine Kw.then_normal ?_
      refine wp_seq ?_
      refine wp_block ?_
      refine wp_seq ?_
      refine Kw.region ?_
      refine Kw.pure (.agg #[.bool false, .int .i64 20, .int .i64 (s rs2)]) (by kernel_rfl) (by kernel_rfl) ?_
      refine Kw.alloc #[.bool false, .int .i64 0, .int .i64 0] 72 M22 (by kernel_rfl) (by kernel_rfl) fun w23 B23 M23 => ?_
      refine Kw.storeAll 0 72 #[.bool false, .int .i64 20, .int .i64 (s rs2)] M23 rfl (by kernel_rfl) (by kernel_rfl) (by kernel_rfl) (by kernel_rfl) (by kernel_rfl) fun w24 M24 => ?_
      refine Kw.fin ?_
      refine Kw.then_normal ?_
      refine wp_seq ?_
      refine wp_seq ?_
      refine Kw.region ?_
      refine Kw.pure (.pointer (some ⟨B23, 0, none⟩)) (by kernel_rfl) (by kernel_rfl) ?_
      refine Kw.pureS (Canon.ldS 4 (.pointer (some ⟨B23, 0, none⟩))) (.bool false) (by kernel_rfl) (by kernel_rfl) (Kw.ld_cell 4 0 (.bool false) (M24.get 0 rfl) (by kernel_rfl) _ Try.underlying4 rfl) ?_
      refine Kw.pure (.bool false) (by kernel_rfl) (by kernel_rfl) ?_
      refine Kw.skip (by kernel_rfl) ?_
      refine Kw.skip (by kernel_rfl) ?_
      refine Kw.skip (by kernel_rfl) ?_
      refine Kw.skip (by kernel_rfl) ?_
      refine Kw.pure (.bool false) (by kernel_rfl) (by kernel_rfl) ?_
      refine Kw.fin ?_
      refine Kw.then_normal ?_
      refine wp_cond_false (by kernel_rfl) ?_
      refine wp_skip ?_
      refine Kw.then_normal ?_
      refine wp_seq ?_
      refine Kw.region ?_
      refine Kw.pure (.pointer (some ⟨B23, 0, none⟩)) (by kernel_rfl) (by kernel_rfl) ?_
      refine Kw.pureS (Canon.ldS 4 (.pointer (some ⟨B23, 0, none⟩))) (.bool false) (by kernel_rfl) (by kernel_rfl) (Kw.ld_cell 4 0 (.bool false) (M24.get 0 rfl) (by kernel_rfl) _ Try.underlying4 rfl) ?_
      refine Kw.fin ?_
      refine Kw.then_normal ?_
      refine wp_cond_false (by kernel_rfl) ?_
      refine wp_skip ?_
      refine Kw.block_normal ?_
      refine Kw.then_normal ?_
      refine Kw.region ?_
      refine Kw.pureS (Canon.opS .add 3 (.tmp 62) (.const (.int .i64 1)) (.int .i64 2) (.int .i64 1)) (.int .i64 3) (by kernel_rfl) (by kernel_rfl) (by kernel_rfl) ?_
      refine Kw.pure (.int .i64 3) (by kernel_rfl) (by kernel_rfl) ?_
      refine Kw.fin ?_
      refine Kw.then_normal ?_
      refine Kw.round_succ ?_
      refine wp_seq ?_
      refine Kw.region ?_
      refine Kw.pureS (Canon.opS .lss 3 (.tmp 62) (.const (.int .i64 3)) (.int .i64 3) (.int .i64 3)) (.bool false) (by kernel_rfl) (by kernel_rfl) (by kernel_rfl) ?_
      refine Kw.fin ?_
      refine Kw.then_normal ?_
      refine wp_seq ?_
      refine wp_cond_false (by kernel_rfl) ?_
      refine wp_exit ?_
      refine Kw.then_exit ?_
      refine Kw.then_exit ?_
      refine Kw.block_hit ?_
      refine Kw.then_normal ?_
      refine wp_seq ?_
      refine Kw.region ?_
      refine Kw.pure (.int .u64 (u (putI (putI (putI (putI (putI (putI 0#64 0 7 (cd k)) 12 3 (ff k)) 20 5 (ot k)) 25 7 127#64) 7 5 rd) 15 5 rs1))) (by kernel_rfl) (by kernel_rfl) ?_
      refine Kw.pure (.int .u32 (u ((putI (putI (putI (putI (putI (putI 0#64 0 7 (cd k)) 12 3 (ff k)) 20 5 (ot k)) 25 7 127#64) 7 5 rd) 15 5 rs1) &&& 4294967295#64))) (by kernel_rfl) (Kw.eqv (v := .int .u32 (IntKind.u32.wrap (u (putI (putI (putI (putI (putI (putI 0#64 0 7 (cd k)) 12 3 (ff k)) 20 5 (ot k)) 25 7 127#64) 7 5 rd) 15 5 rs1)))) (by kernel_rfl) (congrArg (Value.int .u32) (wrap32_u (putI (putI (putI (putI (putI (putI 0#64 0 7 (cd k)) 12 3 (ff k)) 20 5 (ot k)) 25 7 127#64) 7 5 rd) 15 5 rs1)))) ?_
      refine Kw.pure (.int .u32 (u ((putI (putI (putI (putI (putI (putI 0#64 0 7 (cd k)) 12 3 (ff k)) 20 5 (ot k)) 25 7 127#64) 7 5 rd) 15 5 rs1) &&& 4294967295#64))) (by kernel_rfl) (by kernel_rfl) ?_
      refine Kw.pure (.bool true) (by kernel_rfl) (by kernel_rfl) ?_
      refine Kw.fin ?_
      refine Kw.then_normal ?_
      refine wp_ret ?_
      exact bodyPost_ret (v := .tuple #[.int .u32 (u ((putI (putI (putI (putI (putI (putI 0#64 0 7 (cd k)) 12 3 (ff k)) 20 5 (ot k)) 25 7 127#64) 7 5 rd) 15 5 rs1) &&& 4294967295#64)), .bool true]) (by kernel_rfl) (by kernel_rfl) ⟨by simp_all [encR], M24.drop⟩
def word_I (k : Nat) (rd rs1 rs2 imm : BitVec 64) : BitVec 64 := (putI (putI (putI (putI (putI 0#64 0 7 (cd k)) 12 3 (ff k)) 20 12 (getI imm 0 12)) 7 5 rd) 15 5 rs1)
set_option maxRecDepth 100000 in
set_option maxHeartbeats 1000000 in
theorem enc_I (k : Nat) (hk : k < 69) (hs : sh k = 73) (rd rs1 rs2 imm : BitVec 64) (F0 : Bool) (h0 : fitB_I imm = F0) (F1 : Bool) (g1 : fitsI rd 5 false = F1) (F2 : Bool) (g2 : fitsI rs1 5 false = F2) (W : World) : Calls Try.prog 25 #[.agg #[.int .i64 ((k + 1 : Nat) : Int), .int .i64 (s rd), .int .i64 (s rs1), .int .i64 (s rs2), .int .i64 (s imm)]] W fun e W' => e = .returned (encR (F0 && F1 && F2) (word_I k rd rs1 rs2 imm)) ∧ Kw.Mem [] W W' [] := by
  unfold word_I
  refine calls_of_wp Try.func25 rfl ?_
  have M0 : Kw.Mem [] W W [] := Kw.Mem.start _ _
  refine Kw.to (b := ⟨#[.agg #[.int .i64 ((k + 1 : Nat) : Int), .int .i64 (s rd), .int .i64 (s rs1), .int .i64 (s rs2), .int .i64 (s imm)], undef, undef, undef, undef, undef, undef, undef, undef, undef, undef, undef, undef, undef, undef, undef, undef, undef, undef, undef, undef, undef, undef, undef, undef, undef, undef, undef, undef, undef, undef, undef, undef, undef, undef, undef, undef, undef, undef, undef, undef, undef, undef, undef, undef, undef, undef, undef, undef, undef, undef, undef, undef, undef, undef, undef, undef, undef, undef, undef, undef, undef, undef, undef, undef, undef, undef, undef, undef, undef, undef, undef, undef, undef, undef, undef, undef, undef, undef, undef, undef, undef, undef, undef, undef], []⟩) (by kernel_rfl) ?_
  refine wp_seq ?_
  refine Kw.region ?_
  refine Kw.alloc #[.int .i64 ((k + 1 : Nat) : Int), .int .i64 (s rd), .int .i64 (s rs1), .int .i64 (s rs2), .int .i64 (s imm)] 36 M0 (by kernel_rfl) (by kernel_rfl) fun w1 B1 M1 => ?_
  refine Kw.pure (.int .u32 0) (by kernel_rfl) (by kernel_rfl) ?_
  refine Kw.pure (.bool false) (by kernel_rfl) (by kernel_rfl) ?_
  refine Kw.fin ?_
  refine Kw.then_normal ?_
  refine wp_seq ?_
  refine Kw.region ?_
  refine Kw.pure (.pointer (some ⟨B1, 0, none⟩)) (by kernel_rfl) (by kernel_rfl) ?_
  refine Kw.pureS (Canon.ldS 3 (.pointer (some ⟨B1, 0, none⟩))) (.int .i64 ((k + 1 : Nat) : Int)) (by kernel_rfl) (by kernel_rfl) (Kw.ld_cell 3 0 (.int .i64 ((k + 1 : Nat) : Int)) (M1.get 0 rfl) (by kernel_rfl) _ Try.underlying3 rfl) ?_
  refine Kw.call (.tuple #[.agg #[.string (nm k), .int .u8 73, .int .u64 (u (cd k)), .int .u64 (u (ff k)), .int .u64 (u (ot k))], .bool true]) 41 #[.int .i64 ((k + 1 : Nat) : Int)] M1 (by kernel_rfl) (by kernel_rfl) (of_sh 73 k hk hs w1) fun w2 M2 => ?_
  refine Kw.pure (.tuple #[.agg #[.string (nm k), .int .u8 73, .int .u64 (u (cd k)), .int .u64 (u (ff k)), .int .u64 (u (ot k))], .bool true]) (by kernel_rfl) (by kernel_rfl) ?_
  refine Kw.pure (.agg #[.string (nm k), .int .u8 73, .int .u64 (u (cd k)), .int .u64 (u (ff k)), .int .u64 (u (ot k))]) (by kernel_rfl) (by kernel_rfl) ?_
  refine Kw.pure (.bool true) (by kernel_rfl) (by kernel_rfl) ?_
  refine Kw.alloc #[.string ⟨#[]⟩, .int .u8 0, .int .u64 0, .int .u64 0, .int .u64 0] 59 M2 (by kernel_rfl) (by kernel_rfl) fun w3 B3 M3 => ?_
  refine Kw.storeAll 0 59 #[.string (nm k), .int .u8 73, .int .u64 (u (cd k)), .int .u64 (u (ff k)), .int .u64 (u (ot k))] M3 rfl (by kernel_rfl) (by kernel_rfl) (by kernel_rfl) (by kernel_rfl) (by kernel_rfl) fun w4 M4 => ?_
  refine Kw.pure (.bool true) (by kernel_rfl) (by kernel_rfl) ?_
  refine Kw.fin ?_
  refine Kw.then_normal ?_
  refine wp_seq ?_
  refine wp_seq ?_
  refine Held.start (fun w => Kw.Mem [] W w [(B3, #[.string (nm k), .int .u8 73, .int .u64 (u (cd k)), .int .u64 (u (ff k)), .int .u64 (u (ot k))], 59), (B1, #[.int .i64 ((k + 1 : Nat) : Int), .int .i64 (s rd), .int .i64 (s rs1), .int .i64 (s rs2), .int .i64 (s imm)], 36)]) (by kernel_rfl) ?_
  have M5 := M4.drew
  have MS := M5
  refine Held.takeP 0 (.bool true) rfl (by decide +kernel) (by decide +kernel) (by decide +kernel) (by kernel_rfl) (fun w => by kernel_rfl) MS ?_
  refine Held.takeP 1 (.bool false) rfl (by decide +kernel) (by decide +kernel) (by decide +kernel) (by kernel_rfl) (fun w => by kernel_rfl) MS ?_
  refine Held.takeP 2 (.bool false) rfl (by decide +kernel) (by decide +kernel) (by decide +kernel) (by kernel_rfl) (fun w => by kernel_rfl) MS ?_
  refine Held.takeP 3 (.pointer (some ⟨B3, 1, none⟩)) rfl (by decide +kernel) (by decide +kernel) (by decide +kernel) (by kernel_rfl) (fun w => by kernel_rfl) MS ?_
  refine Held.take 4 (Canon.ldS 5 (.pointer (some ⟨B3, 1, none⟩))) (.int .u8 73) rfl (by decide +kernel) (by decide +kernel) (by decide +kernel) (by kernel_rfl) (by kernel_rfl) (fun w hw => Kw.ld_cell 5 1 (.int .u8 73) (hw.get 0 rfl) (by kernel_rfl) _ Try.underlying5 rfl) MS ?_
  refine Held.takeP 6 (.pointer (some ⟨B1, 4, none⟩)) rfl (by decide +kernel) (by decide +kernel) (by decide +kernel) (by kernel_rfl) (fun w => by kernel_rfl) MS ?_
  refine Held.take 7 (Canon.ldS 2 (.pointer (some ⟨B1, 4, none⟩))) (.int .i64 (s imm)) rfl (by decide +kernel) (by decide +kernel) (by decide +kernel) (by kernel_rfl) (by kernel_rfl) (fun w hw => Kw.ld_cell 2 4 (.int .i64 (s imm)) (hw.get 1 rfl) (by kernel_rfl) _ Try.underlying2 rfl) MS ?_
  refine Held.oneCall (ι := Nat) 5 (fun B => (.agg #[.slice (some ⟨B, 0, none⟩) 1 1, .int .i64 12, .bool true, .int .i64 0])) 42 #[.int .u8 73] (R := fun B w1 => Kw.Mem [] (w4.drew) w1 [(B, #[.int .i64 0, .int .i64 12, .int .i64 20], 89)]) rfl (by decide +kernel) (by kernel_rfl) (by kernel_rfl) (laid_I (w4.drew)) fun B6 w6 hc => ?_
  have M6 := Held.mem_new M5 hc
  clear hc
  refine ⟨(Held.mem_tail M6), ?_⟩
  have MS := (Held.mem_tail M6)
  refine Held.oneCall (ι := Unit) 8 (fun _ => (.bool F0)) 43 #[.agg #[.slice (some ⟨B6, 0, none⟩) 1 1, .int .i64 12, .bool true, .int .i64 0], .int .i64 (s imm)] (R := fun _ w1 => Kw.Mem [] w6 w1 []) rfl (by decide +kernel) (by kernel_rfl) (by kernel_rfl) (Held.unit (by have h := fit_I imm w6 B6 (Held.mem_of M6 0 rfl); rw [h0] at h; exact h)) fun _ w7 hc => ?_
  have M7 := M6.call hc
  clear hc
  refine ⟨(Held.mem_tail M7), ?_⟩
  have MS := (Held.mem_tail M7)
  refine Held.takeP 9 (.bool (!F0)) rfl (by decide +kernel) (by decide +kernel) (by decide +kernel) (by kernel_rfl) (fun w => by kernel_rfl) MS ?_
  refine Held.takeP 10 (.bool (!F0)) rfl (by decide +kernel) (by decide +kernel) (by decide +kernel) (by kernel_rfl) (fun w => by kernel_rfl) MS ?_
  refine Held.done (by decide +kernel) ?_
  refine Kw.then_normal ?_
  refine wp_cond_split (t := (!F0)) (by kernel_rfl) (fun h8 => ?_) (fun h8 => ?_)
  · skip
    refine wp_seq ?_
    refine Kw.region ?_
    refine Kw.pure (.int .u32 0) (by kernel_rfl) (by kernel_rfl) ?_
    refine Kw.pure (.bool false) (by kernel_rfl) (by kernel_rfl) ?_
    refine Kw.fin ?_
    refine Kw.then_normal ?_
    refine wp_ret ?_
    refine Kw.then_ret ?_
    exact bodyPost_ret (v := .tuple #[.int .u32 0, .bool false]) (by kernel_rfl) (by kernel_rfl) ⟨by simp_all [encR], M7.drop⟩
  · skip
    refine wp_skip ?_
    refine Kw.then_normal ?_
    refine wp_seq ?_
    refine Kw.region ?_
    refine Kw.pureS (Canon.ldS 59 (.pointer (some ⟨B3, 0, none⟩))) (.agg #[.string (nm k), .int .u8 73, .int .u64 (u (cd k)), .int .u64 (u (ff k)), .int .u64 (u (ot k))]) (by kernel_rfl) (by kernel_rfl) (Kw.ld_all 59 (M7.get 1 rfl) _ Try.underlying59 rfl (by kernel_rfl)) ?_
    refine Kw.call (.tuple #[.int .u64 (u (putI (putI 0#64 0 7 (cd k)) 12 3 (ff k))), .int .u64 (u (putI (putI 0#64 0 7 18446744073709551615#64) 12 3 18446744073709551615#64))]) 44 #[.agg #[.string (nm k), .int .u8 73, .int .u64 (u (cd k)), .int .u64 (u (ff k)), .int .u64 (u (ot k))]] M7 (by kernel_rfl) (by kernel_rfl) (fixed_I (nm k) (cd k) (ff k) (ot k) w7) fun w9 M9 => ?_
    refine Kw.pure (.tuple #[.int .u64 (u (putI (putI 0#64 0 7 (cd k)) 12 3 (ff k))), .int .u64 (u (putI (putI 0#64 0 7 18446744073709551615#64) 12 3 18446744073709551615#64))]) (by kernel_rfl) (by kernel_rfl) ?_
    refine Kw.pure (.int .u64 (u (putI (putI 0#64 0 7 (cd k)) 12 3 (ff k)))) (by kernel_rfl) (by kernel_rfl) ?_
    refine Kw.pure (.int .u64 (u (putI (putI 0#64 0 7 18446744073709551615#64) 12 3 18446744073709551615#64))) (by kernel_rfl) (by kernel_rfl) ?_
    refine Kw.pure (.int .u64 (u (putI (putI 0#64 0 7 (cd k)) 12 3 (ff k)))) (by kernel_rfl) (by kernel_rfl) ?_
    refine Kw.pure (.int .u64 (u (putI (putI 0#64 0 7 18446744073709551615#64) 12 3 18446744073709551615#64))) (by kernel_rfl) (by kernel_rfl) ?_
    refine Kw.fin ?_
    refine Kw.then_normal ?_
    refine wp_seq ?_
    refine Kw.region ?_
    refine Kw.pure (.pointer (some ⟨B3, 1, none⟩)) (by kernel_rfl) (by kernel_rfl) ?_
    refine Kw.pureS (Canon.ldS 5 (.pointer (some ⟨B3, 1, none⟩))) (.int .u8 73) (by kernel_rfl) (by kernel_rfl) (Kw.ld_cell 5 1 (.int .u8 73) (M9.get 1 rfl) (by kernel_rfl) _ Try.underlying5 rfl) ?_
    refine Kw.call (.tuple #[.bool true, .bool true, .bool false]) 45 #[.int .u8 73] M9 (by kernel_rfl) (by kernel_rfl) (has_I w9) fun w10 M10 => ?_
    refine Kw.pure (.tuple #[.bool true, .bool true, .bool false]) (by kernel_rfl) (by kernel_rfl) ?_
    refine Kw.pure (.bool true) (by kernel_rfl) (by kernel_rfl) ?_
    refine Kw.pure (.bool true) (by kernel_rfl) (by kernel_rfl) ?_
    refine Kw.pure (.bool false) (by kernel_rfl) (by kernel_rfl) ?_
    refine Kw.pure (.bool true) (by kernel_rfl) (by kernel_rfl) ?_
    refine Kw.pure (.bool true) (by kernel_rfl) (by kernel_rfl) ?_
    refine Kw.pure (.bool false) (by kernel_rfl) (by kernel_rfl) ?_
    refine Kw.fin ?_
    refine Kw.then_normal ?_
    refine wp_seq ?_
    refine Held.start (fun w => Kw.Mem [] W w [(B6, #[.int .i64 0, .int .i64 12, .int .i64 20], 89), (B3, #[.string (nm k), .int .u8 73, .int .u64 (u (cd k)), .int .u64 (u (ff k)), .int .u64 (u (ot k))], 59), (B1, #[.int .i64 ((k + 1 : Nat) : Int), .int .i64 (s rd), .int .i64 (s rs1), .int .i64 (s rs2), .int .i64 (s imm)], 36)]) (by kernel_rfl) ?_
    have M11 := M10.drew
    have MS := M11
    refine Held.takeP 0 (.pointer (some ⟨B3, 1, none⟩)) rfl (by decide +kernel) (by decide +kernel) (by decide +kernel) (by kernel_rfl) (fun w => by kernel_rfl) MS ?_
    refine Held.take 1 (Canon.ldS 5 (.pointer (some ⟨B3, 1, none⟩))) (.int .u8 73) rfl (by decide +kernel) (by decide +kernel) (by decide +kernel) (by kernel_rfl) (by kernel_rfl) (fun w hw => Kw.ld_cell 5 1 (.int .u8 73) (hw.get 1 rfl) (by kernel_rfl) _ Try.underlying5 rfl) MS ?_
    refine Held.takeP 3 (.int .u64 (u (putI (putI 0#64 0 7 (cd k)) 12 3 (ff k)))) rfl (by decide +kernel) (by decide +kernel) (by decide +kernel) (by kernel_rfl) (fun w => by kernel_rfl) MS ?_
    refine Held.takeP 4 (.pointer (some ⟨B1, 4, none⟩)) rfl (by decide +kernel) (by decide +kernel) (by decide +kernel) (by kernel_rfl) (fun w => by kernel_rfl) MS ?_
    refine Held.take 5 (Canon.ldS 2 (.pointer (some ⟨B1, 4, none⟩))) (.int .i64 (s imm)) rfl (by decide +kernel) (by decide +kernel) (by decide +kernel) (by kernel_rfl) (by kernel_rfl) (fun w hw => Kw.ld_cell 2 4 (.int .i64 (s imm)) (hw.get 2 rfl) (by kernel_rfl) _ Try.underlying2 rfl) MS ?_
    refine Held.oneCall (ι := Nat) 2 (fun B => (.agg #[.slice (some ⟨B, 0, none⟩) 1 1, .int .i64 12, .bool true, .int .i64 0])) 42 #[.int .u8 73] (R := fun B w1 => Kw.Mem [] (w10.drew) w1 [(B, #[.int .i64 0, .int .i64 12, .int .i64 20], 89)]) rfl (by decide +kernel) (by kernel_rfl) (by kernel_rfl) (laid_I (w10.drew)) fun B12 w12 hc => ?_
    have M12 := Held.mem_new M11 hc
    clear hc
    refine ⟨(Held.mem_tail M12), ?_⟩
    have MS := (Held.mem_tail M12)
    refine Held.oneCall (ι := Unit) 6 (fun _ => (.int .u64 (u (putI (putI (putI 0#64 0 7 (cd k)) 12 3 (ff k)) 20 12 (getI imm 0 12))))) 46 #[.agg #[.slice (some ⟨B12, 0, none⟩) 1 1, .int .i64 12, .bool true, .int .i64 0], .int .u64 (u (putI (putI 0#64 0 7 (cd k)) 12 3 (ff k))), .int .i64 (s imm)] (R := fun _ w1 => Kw.Mem [] w12 w1 []) rfl (by decide +kernel) (by kernel_rfl) (by kernel_rfl) (Held.unit (lay_I (putI (putI 0#64 0 7 (cd k)) 12 3 (ff k)) imm w12 B12 (Held.mem_of M12 0 rfl))) fun _ w13 hc => ?_
    have M13 := M12.call hc
    clear hc
    refine ⟨(Held.mem_tail M13), ?_⟩
    have MS := (Held.mem_tail M13)
    refine Held.takeP 7 (.int .u64 (u (putI (putI (putI 0#64 0 7 (cd k)) 12 3 (ff k)) 20 12 (getI imm 0 12)))) rfl (by decide +kernel) (by decide +kernel) (by decide +kernel) (by kernel_rfl) (fun w => by kernel_rfl) MS ?_
    refine Held.done (by decide +kernel) ?_
    refine Kw.then_normal ?_
    refine wp_seq ?_
    refine wp_seq ?_
    refine Kw.region ?_
    refine Kw.pure (.bool true) (by kernel_rfl) (by kernel_rfl) ?_
    refine Kw.pure (.pointer (some ⟨B1, 1, none⟩)) (by kernel_rfl) (by kernel_rfl) ?_
    refine Kw.pureS (Canon.ldS 3 (.pointer (some ⟨B1, 1, none⟩))) (.int .i64 (s rd)) (by kernel_rfl) (by kernel_rfl) (Kw.ld_cell 3 1 (.int .i64 (s rd)) (M13.get 3 rfl) (by kernel_rfl) _ Try.underlying3 rfl) ?_
    refine Kw.pure (.agg #[.bool true, .int .i64 7, .int .i64 (s rd)]) (by kernel_rfl) (by kernel_rfl) ?_
    refine Kw.pure (.bool true) (by kernel_rfl) (by kernel_rfl) ?_
    refine Kw.pure (.pointer (some ⟨B1, 2, none⟩)) (by kernel_rfl) (by kernel_rfl) ?_
    refine Kw.pureS (Canon.ldS 3 (.pointer (some ⟨B1, 2, none⟩))) (.int .i64 (s rs1)) (by kernel_rfl) (by kernel_rfl) (Kw.ld_cell 3 2 (.int .i64 (s rs1)) (M13.get 3 rfl) (by kernel_rfl) _ Try.underlying3 rfl) ?_
    refine Kw.pure (.agg #[.bool true, .int .i64 15, .int .i64 (s rs1)]) (by kernel_rfl) (by kernel_rfl) ?_
    refine Kw.pure (.bool false) (by kernel_rfl) (by kernel_rfl) ?_
    refine Kw.pure (.pointer (some ⟨B1, 3, none⟩)) (by kernel_rfl) (by kernel_rfl) ?_
    refine Kw.pureS (Canon.ldS 3 (.pointer (some ⟨B1, 3, none⟩))) (.int .i64 (s rs2)) (by kernel_rfl) (by kernel_rfl) (Kw.ld_cell 3 3 (.int .i64 (s rs2)) (M13.get 3 rfl) (by kernel_rfl) _ Try.underlying3 rfl) ?_
    refine Kw.pure (.agg #[.bool false, .int .i64 20, .int .i64 (s rs2)]) (by kernel_rfl) (by kernel_rfl) ?_
    refine Kw.pure (.agg #[.bool true, .int .i64 7, .int .i64 (s rd), .bool true, .int .i64 15, .int .i64 (s rs1), .bool false, .int .i64 20, .int .i64 (s rs2)]) (by kernel_rfl) (by kernel_rfl) ?_
    refine Kw.pure (.int .i64 0) (by kernel_rfl) (by kernel_rfl) ?_
    refine Kw.fin ?_
    refine Kw.then_normal ?_
    refine wp_block ?_
    refine wp_loop_rounds 4 ?_
    refine Kw.round_succ ?_
    refine wp_seq ?_
    refine Kw.region ?_
    refine Kw.pureS (Canon.opS .lss 3 (.tmp 62) (.const (.int .i64 3)) (.int .i64 0) (.int .i64 3)) (.bool true) (by kernel_rfl) (by kernel_rfl) (by kernel_rfl) ?_
    refine Kw.fin ?_
    refine Kw.then_normal ?_
    refine wp_seq ?_
    refine wp_cond_true (by kernel_rfl) ?_
    refine wp_skip ?_
    refine Kw.then_normal ?_
    refine wp_seq ?_
    refine wp_block ?_
    refine wp_seq ?_
    refine Kw.region ?_
    refine Kw.pure (.agg #[.bool true, .int .i64 7, .int .i64 (s rd)]) (by kernel_rfl) (by kernel_rfl) ?_
    refine Kw.alloc #[.bool false, .int .i64 0, .int .i64 0] 72 M13 (by kernel_rfl) (by kernel_rfl) fun w14 B14 M14 => ?_
    refine Kw.storeAll 0 72 #[.bool true, .int .i64 7, .int .i64 (s rd)] M14 rfl (by kernel_rfl) (by kernel_rfl) (by kernel_rfl) (by kernel_rfl) (by kernel_rfl) fun w15 M15 => ?_
    refine Kw.fin ?_
    refine Kw.then_normal ?_
    refine wp_seq ?_
    refine wp_seq ?_
    refine Kw.region ?_
    refine Kw.pure (.pointer (some ⟨B14, 0, none⟩)) (by kernel_rfl) (by kernel_rfl) ?_
    refine Kw.pureS (Canon.ldS 4 (.pointer (some ⟨B14, 0, none⟩))) (.bool true) (by kernel_rfl) (by kernel_rfl) (Kw.ld_cell 4 0 (.bool true) (M15.get 0 rfl) (by kernel_rfl) _ Try.underlying4 rfl) ?_
    refine Kw.pure (.bool true) (by kernel_rfl) (by kernel_rfl) ?_
    refine Kw.pure (.pointer (some ⟨B14, 2, none⟩)) (by kernel_rfl) (by kernel_rfl) ?_
    refine Kw.pureS (Canon.ldS 3 (.pointer (some ⟨B14, 2, none⟩))) (.int .i64 (s rd)) (by kernel_rfl) (by kernel_rfl) (Kw.ld_cell 3 2 (.int .i64 (s rd)) (M15.get 0 rfl) (by kernel_rfl) _ Try.underlying3 rfl) ?_
    refine Kw.call (.bool F1) 47 #[.int .i64 (s rd), .int .i64 5, .bool false] M15 (by kernel_rfl) (by kernel_rfl) (by have h := fits_c rd 5 false w15; rw [g1] at h; exact h) fun w16 M16 => ?_
    refine Kw.pure (.bool (!F1)) (by kernel_rfl) (by kernel_rfl) ?_
    refine Kw.pure (.bool (!F1)) (by kernel_rfl) (by kernel_rfl) ?_
    refine Kw.fin ?_
    refine Kw.then_normal ?_
    refine wp_cond_split (t := (!F1)) (by kernel_rfl) (fun h17 => ?_) (fun h17 => ?_)
    · skip
      refine wp_seq ?_
      refine Kw.region ?_
      refine Kw.pure (.int .u32 0) (by kernel_rfl) (by kernel_rfl) ?_
      refine Kw.pure (.bool false) (by kernel_rfl) (by kernel_rfl) ?_
      refine Kw.fin ?_
      refine Kw.then_normal ?_
      refine wp_ret ?_
      refine Kw.then_ret ?_
      refine Kw.block_ret ?_
      refine Kw.then_ret ?_
      refine Kw.then_ret ?_
      refine Kw.block_ret ?_
      refine Kw.then_ret ?_
      exact bodyPost_ret (v := .tuple #[.int .u32 0, .bool false]) (by kernel_rfl) (by kernel_rfl) ⟨by simp_all [encR], M16.drop⟩
    · skip
      refine wp_skip ?_
      refine Kw.then_normal ?_
      refine wp_seq ?_
      refine Kw.region ?_
      refine Kw.pure (.pointer (some ⟨B14, 0, none⟩)) (by kernel_rfl) (by kernel_rfl) ?_
      refine Kw.pureS (Canon.ldS 4 (.pointer (some ⟨B14, 0, none⟩))) (.bool true) (by kernel_rfl) (by kernel_rfl) (Kw.ld_cell 4 0 (.bool true) (M16.get 0 rfl) (by kernel_rfl) _ Try.underlying4 rfl) ?_
      refine Kw.fin ?_
      refine Kw.then_normal ?_
      refine wp_cond_true (by kernel_rfl) ?_
      refine Kw.region ?_
      refine Kw.pure (.int .u64 (u (putI (putI (putI 0#64 0 7 (cd k)) 12 3 (ff k)) 20 12 (getI imm 0 12)))) (by kernel_rfl) (by kernel_rfl) ?_
      refine Kw.pure (.pointer (some ⟨B14, 1, none⟩)) (by kernel_rfl) (by kernel_rfl) ?_
      refine Kw.pureS (Canon.ldS 3 (.pointer (some ⟨B14, 1, none⟩))) (.int .i64 7) (by kernel_rfl) (by kernel_rfl) (Kw.ld_cell 3 1 (.int .i64 7) (M16.get 0 rfl) (by kernel_rfl) _ Try.underlying3 rfl) ?_
      refine Kw.pure (.pointer (some ⟨B14, 2, none⟩)) (by kernel_rfl) (by kernel_rfl) ?_
      refine Kw.pureS (Canon.ldS 3 (.pointer (some ⟨B14, 2, none⟩))) (.int .i64 (s rd)) (by kernel_rfl) (by kernel_rfl) (Kw.ld_cell 3 2 (.int .i64 (s rd)) (M16.get 0 rfl) (by kernel_rfl) _ Try.underlying3 rfl) ?_
      refine Kw.pure (.int .u64 (u rd)) (by kernel_rfl) (Kw.eqv (v := .int .u64 (IntKind.u64.wrap (s rd))) (by kernel_rfl) (congrArg (Value.int .u64) (wrap_s rd))) ?_
      refine Kw.call (.int .u64 (u (putI (putI (putI (putI 0#64 0 7 (cd k)) 12 3 (ff k)) 20 12 (getI imm 0 12)) 7 5 rd))) 48 #[.int .u64 (u (putI (putI (putI 0#64 0 7 (cd k)) 12 3 (ff k)) 20 12 (getI imm 0 12))), .int .i64 7, .int .i64 5, .int .u64 (u rd)] M16 (by kernel_rfl) (by kernel_rfl) (put_c (putI (putI (putI 0#64 0 7 (cd k)) 12 3 (ff k)) 20 12 (getI imm 0 12)) 7 5 rd w16) fun w18 M18 => ?_
      refine Kw.pure (.int .u64 (u (putI (putI (putI (putI 0#64 0 7 (cd k)) 12 3 (ff k)) 20 12 (getI imm 0 12)) 7 5 rd))) (by kernel_rfl) (by kernel_rfl) ?_
      refine Kw.fin ?_
      refine Kw.block_normal ?_
      refine Kw.then_normal ?_
      refine Kw.region ?_
      refine Kw.pureS (Canon.opS .add 3 (.tmp 62) (.const (.int .i64 1)) (.int .i64 0) (.int .i64 1)) (.int .i64 1) (by kernel_rfl) (by kernel_rfl) (by kernel_rfl) ?_
      refine Kw.pure (.int .i64 1) (by kernel_rfl) (by kernel_rfl) ?_
      refine Kw.fin ?_
      refine Kw.then_normal ?_
      refine Kw.round_succ ?_
      refine wp_seq ?_
      refine Kw.region ?_
      refine Kw.pureS (Canon.opS .lss 3 (.tmp 62) (.const (.int .i64 3)) (.int .i64 1) (.int .i64 3)) (.bool true) (by kernel_rfl) (by kernel_rfl) (by kernel_rfl) ?_
      refine Kw.fin ?_
      refine Kw.then_normal ?_
      refine wp_seq ?_
      refine wp_cond_true (by kernel_rfl) ?_
      refine wp_skip ?_
      refine Kw.then_normal ?_
      refine wp_seq ?_
      refine wp_block ?_
      refine wp_seq ?_
      refine Kw.region ?_
      refine Kw.pure (.agg #[.bool true, .int .i64 15, .int .i64 (s rs1)]) (by kernel_rfl) (by kernel_rfl) ?_
      refine Kw.alloc #[.bool false, .int .i64 0, .int .i64 0] 72 M18 (by kernel_rfl) (by kernel_rfl) fun w19 B19 M19 => ?_
      refine Kw.storeAll 0 72 #[.bool true, .int .i64 15, .int .i64 (s rs1)] M19 rfl (by kernel_rfl) (by kernel_rfl) (by kernel_rfl) (by kernel_rfl) (by kernel_rfl) fun w20 M20 => ?_
      refine Kw.fin ?_
      refine Kw.then_normal ?_
      refine wp_seq ?_
      refine wp_seq ?_
      refine Kw.region ?_
      refine Kw.pure (.pointer (some ⟨B19, 0, none⟩)) (by kernel_rfl) (by kernel_rfl) ?_
      refine Kw.pureS (Canon.ldS 4 (.pointer (some ⟨B19, 0, none⟩))) (.bool true) (by kernel_rfl) (by kernel_rfl) (Kw.ld_cell 4 0 (.bool true) (M20.get 0 rfl) (by kernel_rfl) _ Try.underlying4 rfl) ?_
      refine Kw.pure (.bool true) (by kernel_rfl) (by kernel_rfl) ?_
      refine Kw.pure (.pointer (some ⟨B19, 2, none⟩)) (by kernel_rfl) (by kernel_rfl) ?_
      refine Kw.pureS (Canon.ldS 3 (.pointer (some ⟨B19, 2, none⟩))) (.int .i64 (s rs1)) (by kernel_rfl) (by kernel_rfl) (Kw.ld_cell 3 2 (.int .i64 (s rs1)) (M20.get 0 rfl) (by kernel_rfl) _ Try.underlying3 rfl) ?_
      refine Kw.call (.bool F2) 47 #[.int .i64 (s rs1), .int .i64 5, .bool false] M20 (by kernel_rfl) (by kernel_rfl) (by have h := fits_c rs1 5 false w20; rw [g2] at h; exact h) fun w21 M21 => ?_
      refine Kw.pure (.bool (!F2)) (by kernel_rfl) (by kernel_rfl) ?_
      refine Kw.pure (.bool (!F2)) (by kernel_rfl) (by kernel_rfl) ?_
      refine Kw.fin ?_
      refine Kw.then_normal ?_
      refine wp_cond_split (t := (!F2)) (by kernel_rfl) (fun h22 => ?_) (fun h22 => ?_)
      · skip
        refine wp_seq ?_
        refine Kw.region ?_
        refine Kw.pure (.int .u32 0) (by kernel_rfl) (by kernel_rfl) ?_
        refine Kw.pure (.bool false) (by kernel_rfl) (by kernel_rfl) ?_
        refine Kw.fin ?_
        refine Kw.then_normal ?_
        refine wp_ret ?_
        refine Kw.then_ret ?_
        refine Kw.block_ret ?_
        refine Kw.then_ret ?_
        refine Kw.then_ret ?_
        refine Kw.block_ret ?_
        refine Kw.then_ret ?_
        exact bodyPost_ret (v := .tuple #[.int .u32 0, .bool false]) (by kernel_rfl) (by kernel_rfl) ⟨by simp_all [encR], M21.drop⟩
      · skip
        refine wp_skip ?_
        refine Kw.then_normal ?_
        refine wp_seq ?_
        refine Kw.region ?_
        refine Kw.pure (.pointer (some ⟨B19, 0, none⟩)) (by kernel_rfl) (by kernel_rfl) ?_
        refine Kw.pureS (Canon.ldS 4 (.pointer (some ⟨B19, 0, none⟩))) (.bool true) (by kernel_rfl) (by kernel_rfl) (Kw.ld_cell 4 0 (.bool true) (M21.get 0 rfl) (by kernel_rfl) _ Try.underlying4 rfl) ?_
        refine Kw.fin ?_
        refine Kw.then_normal ?_
        refine wp_cond_true (by kernel_rfl) ?_
        refine Kw.region ?_
        refine Kw.pure (.int .u64 (u (putI (putI (putI (putI 0#64 0 7 (cd k)) 12 3 (ff k)) 20 12 (getI imm 0 12)) 7 5 rd))) (by kernel_rfl) (by kernel_rfl) ?_
        refine Kw.pure (.pointer (some ⟨B19, 1, none⟩)) (by kernel_rfl) (by kernel_rfl) ?_
        refine Kw.pureS (Canon.ldS 3 (.pointer (some ⟨B19, 1, none⟩))) (.int .i64 15) (by kernel_rfl) (by kernel_rfl) (Kw.ld_cell 3 1 (.int .i64 15) (M21.get 0 rfl) (by kernel_rfl) _ Try.underlying3 rfl) ?_
        refine Kw.pure (.pointer (some ⟨B19, 2, none⟩)) (by kernel_rfl) (by kernel_rfl) ?_
        refine Kw.pureS (Canon.ldS 3 (.pointer (some ⟨B19, 2, none⟩))) (.int .i64 (s rs1)) (by kernel_rfl) (by kernel_rfl) (Kw.ld_cell 3 2 (.int .i64 (s rs1)) (M21.get 0 rfl) (by kernel_rfl) _ Try.underlying3 rfl) ?_
        refine Kw.pure (.int .u64 (u rs1)) (by kernel_rfl) (Kw.eqv (v := .int .u64 (IntKind.u64.wrap (s rs1))) (by kernel_rfl) (congrArg (Value.int .u64) (wrap_s rs1))) ?_
        refine Kw.call (.int .u64 (u (putI (putI (putI (putI (putI 0#64 0 7 (cd k)) 12 3 (ff k)) 20 12 (getI imm 0 12)) 7 5 rd) 15 5 rs1))) 48 #[.int .u64 (u (putI (putI (putI (putI 0#64 0 7 (cd k)) 12 3 (ff k)) 20 12 (getI imm 0 12)) 7 5 rd)), .int .i64 15, .int .i64 5, .int .u64 (u rs1)] M21 (by kernel_rfl) (by kernel_rfl) (put_c (putI (putI (putI (putI 0#64 0 7 (cd k)) 12 3 (ff k)) 20 12 (getI imm 0 12)) 7 5 rd) 15 5 rs1 w21) fun w23 M23 => ?_
        refine Kw.pure (.int .u64 (u (putI (putI (putI (putI (putI 0#64 0 7 (cd k)) 12 3 (ff k)) 20 12 (getI imm 0 12)) 7 5 rd) 15 5 rs1))) (by kernel_rfl) (by kernel_rfl) ?_
        refine Kw.fin ?_
        refine Kw.block_normal ?_
        refine Kw.then_normal ?_
        refine Kw.region ?_
        refine Kw.pureS (Canon.opS .add 3 (.tmp 62) (.const (.int .i64 1)) (.int .i64 1) (.int .i64 1)) (.int .i64 2) (by kernel_rfl) (by kernel_rfl) (by kernel_rfl) ?_
        refine Kw.pure (.int .i64 2) (by kernel_rfl) (by kernel_rfl) ?_
        refine Kw.fin ?_
        refine Kw.then_normal ?_
        refine Kw.round_succ ?_
        refine wp_seq ?_
        refine Kw.region ?_
        refine Kw.pureS (Canon.opS .lss 3 (.tmp 62) (.const (.int .i64 3)) (.int .i64 2) (.int .i64 3)) (.bool true) (by kernel_rfl) (by kernel_rfl) (by kernel_rfl) ?_
        refine Kw.fin ?_
        refine Kw.then_normal ?_
        refine wp_seq ?_
        refine wp_cond_true (by kernel_rfl) ?_
        refine wp_skip ?_
        refine Kw.then_normal ?_
        refine wp_seq ?_
        refine wp_block ?_
        refine wp_seq ?_
        refine Kw.region ?_
        refine Kw.pure (.agg #[.bool false, .int .i64 20, .int .i64 (s rs2)]) (by kernel_rfl) (by kernel_rfl) ?_
        refine Kw.alloc #[.bool false, .int .i64 0, .int .i64 0] 72 M23 (by kernel_rfl) (by kernel_rfl) fun w24 B24 M24 => ?_
        refine Kw.storeAll 0 72 #[.bool false, .int .i64 20, .int .i64 (s rs2)] M24 rfl (by kernel_rfl) (by kernel_rfl) (by kernel_rfl) (by kernel_rfl) (by kernel_rfl) fun w25 M25 => ?_
        refine Kw.fin ?_
        refine Kw.then_normal ?_
        refine wp_seq ?_
        refine wp_seq ?_
        refine Kw.region ?_
        refine Kw.pure (.pointer (some ⟨B24, 0, none⟩)) (by kernel_rfl) (by kernel_rfl) ?_
        refine Kw.pureS (Canon.ldS 4 (.pointer (some ⟨B24, 0, none⟩))) (.bool false) (by kernel_rfl) (by kernel_rfl) (Kw.ld_cell 4 0 (.bool false) (M25.get 0 rfl) (by kernel_rfl) _ Try.underlying4 rfl) ?_
        refine Kw.pure (.bool false) (by kernel_rfl) (by kernel_rfl) ?_
        refine Kw.skip (by kernel_rfl) ?_
        refine Kw.skip (by kernel_rfl) ?_
        refine Kw.skip (by kernel_rfl) ?_
        refine Kw.skip (by kernel_rfl) ?_
        refine Kw.pure (.bool false) (by kernel_rfl) (by kernel_rfl) ?_
        refine Kw.fin ?_
        refine Kw.then_normal ?_
        refine wp_cond_false (by kernel_rfl) ?_
        refine wp_skip ?_
        refine Kw.then_normal ?_
        refine wp_seq ?_
        refine Kw.region ?_
        refine Kw.pure (.pointer (some ⟨B24, 0, none⟩)) (by kernel_rfl) (by kernel_rfl) ?_
        refine Kw.pureS (Canon.ldS 4 (.pointer (some ⟨B24, 0, none⟩))) (.bool false) (by kernel_rfl) (by kernel_rfl) (Kw.ld_cell 4 0 (.bool false) (M25.get 0 rfl) (by kernel_rfl) _ Try.underlying4 rfl) ?_
        refine Kw.fin ?_
        refine Kw.then_normal ?_
        refine wp_cond_false (by kernel_rfl) ?_
        refine wp_skip ?_
        refine Kw.block_normal ?_
        refine Kw.then_normal ?_
        refine Kw.region ?_
        refine Kw.pureS (Canon.opS .add 3 (.tmp 62) (.const (.int .i64 1)) (.int .i64 2) (.int .i64 1)) (.int .i64 3) (by kernel_rfl) (by kernel_rfl) (by kernel_rfl) ?_
        refine Kw.pure (.int .i64 3) (by kernel_rfl) (by kernel_rfl) ?_
        refine Kw.fin ?_
        refine Kw.then_normal ?_
        refine Kw.round_succ ?_
        refine wp_seq ?_
        refine Kw.region ?_
        refine Kw.pureS (Canon.opS .lss 3 (.tmp 62) (.const (.int .i64 3)) (.int .i64 3) (.int .i64 3)) (.bool false) (by kernel_rfl) (by kernel_rfl) (by kernel_rfl) ?_
        refine Kw.fin ?_
        refine Kw.then_normal ?_
        refine wp_seq ?_
        refine wp_cond_false (by kernel_rfl) ?_
        refine wp_exit ?_
        refine Kw.then_exit ?_
        refine Kw.then_exit ?_
        refine Kw.block_hit ?_
        refine Kw.then_normal ?_
        refine wp_seq ?_
        refine Kw.region ?_
        refine Kw.pure (.int .u64 (u (putI (putI (putI (putI (putI 0#64 0 7 (cd k)) 12 3 (ff k)) 20 12 (getI imm 0 12)) 7 5 rd) 15 5 rs1))) (by kernel_rfl) (by kernel_rfl) ?_
        refine Kw.pure (.int .u32 (u ((putI (putI (putI (putI (putI 0#64 0 7 (cd k)) 12 3 (ff k)) 20 12 (getI imm 0 12)) 7 5 rd) 15 5 rs1) &&& 4294967295#64))) (by kernel_rfl) (Kw.eqv (v := .int .u32 (IntKind.u32.wrap (u (putI (putI (putI (putI (putI 0#64 0 7 (cd k)) 12 3 (ff k)) 20 12 (getI imm 0 12)) 7 5 rd) 15 5 rs1)))) (by kernel_rfl) (congrArg (Value.int .u32) (wrap32_u (putI (putI (putI (putI (putI 0#64 0 7 (cd k)) 12 3 (ff k)) 20 12 (getI imm 0 12)) 7 5 rd) 15 5 rs1)))) ?_
        refine Kw.pure (.int .u32 (u ((putI (putI (putI (putI (putI 0#64 0 7 (cd k)) 12 3 (ff k)) 20 12 (getI imm 0 12)) 7 5 rd) 15 5 rs1) &&& 4294967295#64))) (by kernel_rfl) (by kernel_rfl) ?_
        refine Kw.pure (.bool true) (by kernel_rfl) (by kernel_rfl) ?_
        refine Kw.fin ?_
        refine Kw.then_normal ?_
        refine wp_ret ?_
        exact bodyPost_ret (v := .tuple #[.int .u32 (u ((putI (putI (putI (putI (putI 0#64 0 7 (cd k)) 12 3 (ff k)) 20 12 (getI imm 0 12)) 7 5 rd) 15 5 rs1) &&& 4294967295#64)), .bool true]) (by kernel_rfl) (by kernel_rfl) ⟨by simp_all [encR], M25.drop⟩
def word_C (k : Nat) (rd rs1 rs2 imm : BitVec 64) : BitVec 64 := (putI (putI (putI (putI (putI 0#64 0 7 (cd k)) 12 3 (ff k)) 20 12 (getI imm 0 12)) 7 5 rd) 15 5 rs1)
set_option maxRecDepth 100000 in
set_option maxHeartbeats 1000000 in
theorem enc_C (k : Nat) (hk : k < 69) (hs : sh k = 67) (rd rs1 rs2 imm : BitVec 64) (F0 : Bool) (h0 : fitB_C imm = F0) (F1 : Bool) (g1 : fitsI rd 5 false = F1) (F2 : Bool) (g2 : fitsI rs1 5 false = F2) (W : World) : Calls Try.prog 25 #[.agg #[.int .i64 ((k + 1 : Nat) : Int), .int .i64 (s rd), .int .i64 (s rs1), .int .i64 (s rs2), .int .i64 (s imm)]] W fun e W' => e = .returned (encR (F0 && F1 && F2) (word_C k rd rs1 rs2 imm)) ∧ Kw.Mem [] W W' [] := by
  unfold word_C
  refine calls_of_wp Try.func25 rfl ?_
  have M0 : Kw.Mem [] W W [] := Kw.Mem.start _ _
  refine Kw.to (b := ⟨#[.agg #[.int .i64 ((k + 1 : Nat) : Int), .int .i64 (s rd), .int .i64 (s rs1), .int .i64 (s rs2), .int .i64 (s imm)], undef, undef, undef, undef, undef, undef, undef, undef, undef, undef, undef, undef, undef, undef, undef, undef, undef, undef, undef, undef, undef, undef, undef, undef, undef, undef, undef, undef, undef, undef, undef, undef, undef, undef, undef, undef, undef, undef, undef, undef, undef, undef, undef, undef, undef, undef, undef, undef, undef, undef, undef, undef, undef, undef, undef, undef, undef, undef, undef, undef, undef, undef, undef, undef, undef, undef, undef, undef, undef, undef, undef, undef, undef, undef, undef, undef, undef, undef, undef, undef, undef, undef, undef, undef], []⟩) (by kernel_rfl) ?_
  refine wp_seq ?_
  refine Kw.region ?_
  refine Kw.alloc #[.int .i64 ((k + 1 : Nat) : Int), .int .i64 (s rd), .int .i64 (s rs1), .int .i64 (s rs2), .int .i64 (s imm)] 36 M0 (by kernel_rfl) (by kernel_rfl) fun w1 B1 M1 => ?_
  refine Kw.pure (.int .u32 0) (by kernel_rfl) (by kernel_rfl) ?_
  refine Kw.pure (.bool false) (by kernel_rfl) (by kernel_rfl) ?_
  refine Kw.fin ?_
  refine Kw.then_normal ?_
  refine wp_seq ?_
  refine Kw.region ?_
  refine Kw.pure (.pointer (some ⟨B1, 0, none⟩)) (by kernel_rfl) (by kernel_rfl) ?_
  refine Kw.pureS (Canon.ldS 3 (.pointer (some ⟨B1, 0, none⟩))) (.int .i64 ((k + 1 : Nat) : Int)) (by kernel_rfl) (by kernel_rfl) (Kw.ld_cell 3 0 (.int .i64 ((k + 1 : Nat) : Int)) (M1.get 0 rfl) (by kernel_rfl) _ Try.underlying3 rfl) ?_
  refine Kw.call (.tuple #[.agg #[.string (nm k), .int .u8 67, .int .u64 (u (cd k)), .int .u64 (u (ff k)), .int .u64 (u (ot k))], .bool true]) 41 #[.int .i64 ((k + 1 : Nat) : Int)] M1 (by kernel_rfl) (by kernel_rfl) (of_sh 67 k hk hs w1) fun w2 M2 => ?_
  refine Kw.pure (.tuple #[.agg #[.string (nm k), .int .u8 67, .int .u64 (u (cd k)), .int .u64 (u (ff k)), .int .u64 (u (ot k))], .bool true]) (by kernel_rfl) (by kernel_rfl) ?_
  refine Kw.pure (.agg #[.string (nm k), .int .u8 67, .int .u64 (u (cd k)), .int .u64 (u (ff k)), .int .u64 (u (ot k))]) (by kernel_rfl) (by kernel_rfl) ?_
  refine Kw.pure (.bool true) (by kernel_rfl) (by kernel_rfl) ?_
  refine Kw.alloc #[.string ⟨#[]⟩, .int .u8 0, .int .u64 0, .int .u64 0, .int .u64 0] 59 M2 (by kernel_rfl) (by kernel_rfl) fun w3 B3 M3 => ?_
  refine Kw.storeAll 0 59 #[.string (nm k), .int .u8 67, .int .u64 (u (cd k)), .int .u64 (u (ff k)), .int .u64 (u (ot k))] M3 rfl (by kernel_rfl) (by kernel_rfl) (by kernel_rfl) (by kernel_rfl) (by kernel_rfl) fun w4 M4 => ?_
  refine Kw.pure (.bool true) (by kernel_rfl) (by kernel_rfl) ?_
  refine Kw.fin ?_
  refine Kw.then_normal ?_
  refine wp_seq ?_
  refine wp_seq ?_
  refine Held.start (fun w => Kw.Mem [] W w [(B3, #[.string (nm k), .int .u8 67, .int .u64 (u (cd k)), .int .u64 (u (ff k)), .int .u64 (u (ot k))], 59), (B1, #[.int .i64 ((k + 1 : Nat) : Int), .int .i64 (s rd), .int .i64 (s rs1), .int .i64 (s rs2), .int .i64 (s imm)], 36)]) (by kernel_rfl) ?_
  have M5 := M4.drew
  have MS := M5
  refine Held.takeP 0 (.bool true) rfl (by decide +kernel) (by decide +kernel) (by decide +kernel) (by kernel_rfl) (fun w => by kernel_rfl) MS ?_
  refine Held.takeP 1 (.bool false) rfl (by decide +kernel) (by decide +kernel) (by decide +kernel) (by kernel_rfl) (fun w => by kernel_rfl) MS ?_
  refine Held.takeP 2 (.bool false) rfl (by decide +kernel) (by decide +kernel) (by decide +kernel) (by kernel_rfl) (fun w => by kernel_rfl) MS ?_
  refine Held.takeP 3 (.pointer (some ⟨B3, 1, none⟩)) rfl (by decide +kernel) (by decide +kernel) (by decide +kernel) (by kernel_rfl) (fun w => by kernel_rfl) MS ?_
  refine Held.take 4 (Canon.ldS 5 (.pointer (some ⟨B3, 1, none⟩))) (.int .u8 67) rfl (by decide +kernel) (by decide +kernel) (by decide +kernel) (by kernel_rfl) (by kernel_rfl) (fun w hw => Kw.ld_cell 5 1 (.int .u8 67) (hw.get 0 rfl) (by kernel_rfl) _ Try.underlying5 rfl) MS ?_
  refine Held.takeP 6 (.pointer (some ⟨B1, 4, none⟩)) rfl (by decide +kernel) (by decide +kernel) (by decide +kernel) (by kernel_rfl) (fun w => by kernel_rfl) MS ?_
  refine Held.take 7 (Canon.ldS 2 (.pointer (some ⟨B1, 4, none⟩))) (.int .i64 (s imm)) rfl (by decide +kernel) (by decide +kernel) (by decide +kernel) (by kernel_rfl) (by kernel_rfl) (fun w hw => Kw.ld_cell 2 4 (.int .i64 (s imm)) (hw.get 1 rfl) (by kernel_rfl) _ Try.underlying2 rfl) MS ?_
  refine Held.oneCall (ι := Nat) 5 (fun B => (.agg #[.slice (some ⟨B, 0, none⟩) 1 1, .int .i64 12, .bool false, .int .i64 0])) 42 #[.int .u8 67] (R := fun B w1 => Kw.Mem [] (w4.drew) w1 [(B, #[.int .i64 0, .int .i64 12, .int .i64 20], 89)]) rfl (by decide +kernel) (by kernel_rfl) (by kernel_rfl) (laid_C (w4.drew)) fun B6 w6 hc => ?_
  have M6 := Held.mem_new M5 hc
  clear hc
  refine ⟨(Held.mem_tail M6), ?_⟩
  have MS := (Held.mem_tail M6)
  refine Held.oneCall (ι := Unit) 8 (fun _ => (.bool F0)) 43 #[.agg #[.slice (some ⟨B6, 0, none⟩) 1 1, .int .i64 12, .bool false, .int .i64 0], .int .i64 (s imm)] (R := fun _ w1 => Kw.Mem [] w6 w1 []) rfl (by decide +kernel) (by kernel_rfl) (by kernel_rfl) (Held.unit (by have h := fit_C imm w6 B6 (Held.mem_of M6 0 rfl); rw [h0] at h; exact h)) fun _ w7 hc => ?_
  have M7 := M6.call hc
  clear hc
  refine ⟨(Held.mem_tail M7), ?_⟩
  have MS := (Held.mem_tail M7)
  refine Held.takeP 9 (.bool (!F0)) rfl (by decide +kernel) (by decide +kernel) (by decide +kernel) (by kernel_rfl) (fun w => by kernel_rfl) MS ?_
  refine Held.takeP 10 (.bool (!F0)) rfl (by decide +kernel) (by decide +kernel) (by decide +kernel) (by kernel_rfl) (fun w => by kernel_rfl) MS ?_
  refine Held.done (by decide +kernel) ?_
  refine Kw.then_normal ?_
  refine wp_cond_split (t := (!F0)) (by kernel_rfl) (fun h8 => ?_) (fun h8 => ?_)
  · skip
    refine wp_seq ?_
    refine Kw.region ?_
    refine Kw.pure (.int .u32 0) (by kernel_rfl) (by kernel_rfl) ?_
    refine Kw.pure (.bool false) (by kernel_rfl) (by kernel_rfl) ?_
    refine Kw.fin ?_
    refine Kw.then_normal ?_
    refine wp_ret ?_
    refine Kw.then_ret ?_
    exact bodyPost_ret (v := .tuple #[.int .u32 0, .bool false]) (by kernel_rfl) (by kernel_rfl) ⟨by simp_all [encR], M7.drop⟩
  · skip
    refine wp_skip ?_
    refine Kw.then_normal ?_
    refine wp_seq ?_
    refine Kw.region ?_
    refine Kw.pureS (Canon.ldS 59 (.pointer (some ⟨B3, 0, none⟩))) (.agg #[.string (nm k), .int .u8 67, .int .u64 (u (cd k)), .int .u64 (u (ff k)), .int .u64 (u (ot k))]) (by kernel_rfl) (by kernel_rfl) (Kw.ld_all 59 (M7.get 1 rfl) _ Try.underlying59 rfl (by kernel_rfl)) ?_
    refine Kw.call (.tuple #[.int .u64 (u (putI (putI 0#64 0 7 (cd k)) 12 3 (ff k))), .int .u64 (u (putI (putI 0#64 0 7 18446744073709551615#64) 12 3 18446744073709551615#64))]) 44 #[.agg #[.string (nm k), .int .u8 67, .int .u64 (u (cd k)), .int .u64 (u (ff k)), .int .u64 (u (ot k))]] M7 (by kernel_rfl) (by kernel_rfl) (fixed_C (nm k) (cd k) (ff k) (ot k) w7) fun w9 M9 => ?_
    refine Kw.pure (.tuple #[.int .u64 (u (putI (putI 0#64 0 7 (cd k)) 12 3 (ff k))), .int .u64 (u (putI (putI 0#64 0 7 18446744073709551615#64) 12 3 18446744073709551615#64))]) (by kernel_rfl) (by kernel_rfl) ?_
    refine Kw.pure (.int .u64 (u (putI (putI 0#64 0 7 (cd k)) 12 3 (ff k)))) (by kernel_rfl) (by kernel_rfl) ?_
    refine Kw.pure (.int .u64 (u (putI (putI 0#64 0 7 18446744073709551615#64) 12 3 18446744073709551615#64))) (by kernel_rfl) (by kernel_rfl) ?_
    refine Kw.pure (.int .u64 (u (putI (putI 0#64 0 7 (cd k)) 12 3 (ff k)))) (by kernel_rfl) (by kernel_rfl) ?_
    refine Kw.pure (.int .u64 (u (putI (putI 0#64 0 7 18446744073709551615#64) 12 3 18446744073709551615#64))) (by kernel_rfl) (by kernel_rfl) ?_
    refine Kw.fin ?_
    refine Kw.then_normal ?_
    refine wp_seq ?_
    refine Kw.region ?_
    refine Kw.pure (.pointer (some ⟨B3, 1, none⟩)) (by kernel_rfl) (by kernel_rfl) ?_
    refine Kw.pureS (Canon.ldS 5 (.pointer (some ⟨B3, 1, none⟩))) (.int .u8 67) (by kernel_rfl) (by kernel_rfl) (Kw.ld_cell 5 1 (.int .u8 67) (M9.get 1 rfl) (by kernel_rfl) _ Try.underlying5 rfl) ?_
    refine Kw.call (.tuple #[.bool true, .bool true, .bool false]) 45 #[.int .u8 67] M9 (by kernel_rfl) (by kernel_rfl) (has_C w9) fun w10 M10 => ?_
    refine Kw.pure (.tuple #[.bool true, .bool true, .bool false]) (by kernel_rfl) (by kernel_rfl) ?_
    refine Kw.pure (.bool true) (by kernel_rfl) (by kernel_rfl) ?_
    refine Kw.pure (.bool true) (by kernel_rfl) (by kernel_rfl) ?_
    refine Kw.pure (.bool false) (by kernel_rfl) (by kernel_rfl) ?_
    refine Kw.pure (.bool true) (by kernel_rfl) (by kernel_rfl) ?_
    refine Kw.pure (.bool true) (by kernel_rfl) (by kernel_rfl) ?_
    refine Kw.pure (.bool false) (by kernel_rfl) (by kernel_rfl) ?_
    refine Kw.fin ?_
    refine Kw.then_normal ?_
    refine wp_seq ?_
    refine Held.start (fun w => Kw.Mem [] W w [(B6, #[.int .i64 0, .int .i64 12, .int .i64 20], 89), (B3, #[.string (nm k), .int .u8 67, .int .u64 (u (cd k)), .int .u64 (u (ff k)), .int .u64 (u (ot k))], 59), (B1, #[.int .i64 ((k + 1 : Nat) : Int), .int .i64 (s rd), .int .i64 (s rs1), .int .i64 (s rs2), .int .i64 (s imm)], 36)]) (by kernel_rfl) ?_
    have M11 := M10.drew
    have MS := M11
    refine Held.takeP 0 (.pointer (some ⟨B3, 1, none⟩)) rfl (by decide +kernel) (by decide +kernel) (by decide +kernel) (by kernel_rfl) (fun w => by kernel_rfl) MS ?_
    refine Held.take 1 (Canon.ldS 5 (.pointer (some ⟨B3, 1, none⟩))) (.int .u8 67) rfl (by decide +kernel) (by decide +kernel) (by decide +kernel) (by kernel_rfl) (by kernel_rfl) (fun w hw => Kw.ld_cell 5 1 (.int .u8 67) (hw.get 1 rfl) (by kernel_rfl) _ Try.underlying5 rfl) MS ?_
    refine Held.takeP 3 (.int .u64 (u (putI (putI 0#64 0 7 (cd k)) 12 3 (ff k)))) rfl (by decide +kernel) (by decide +kernel) (by decide +kernel) (by kernel_rfl) (fun w => by kernel_rfl) MS ?_
    refine Held.takeP 4 (.pointer (some ⟨B1, 4, none⟩)) rfl (by decide +kernel) (by decide +kernel) (by decide +kernel) (by kernel_rfl) (fun w => by kernel_rfl) MS ?_
    refine Held.take 5 (Canon.ldS 2 (.pointer (some ⟨B1, 4, none⟩))) (.int .i64 (s imm)) rfl (by decide +kernel) (by decide +kernel) (by decide +kernel) (by kernel_rfl) (by kernel_rfl) (fun w hw => Kw.ld_cell 2 4 (.int .i64 (s imm)) (hw.get 2 rfl) (by kernel_rfl) _ Try.underlying2 rfl) MS ?_
    refine Held.oneCall (ι := Nat) 2 (fun B => (.agg #[.slice (some ⟨B, 0, none⟩) 1 1, .int .i64 12, .bool false, .int .i64 0])) 42 #[.int .u8 67] (R := fun B w1 => Kw.Mem [] (w10.drew) w1 [(B, #[.int .i64 0, .int .i64 12, .int .i64 20], 89)]) rfl (by decide +kernel) (by kernel_rfl) (by kernel_rfl) (laid_C (w10.drew)) fun B12 w12 hc => ?_
    have M12 := Held.mem_new M11 hc
    clear hc
    refine ⟨(Held.mem_tail M12), ?_⟩
    have MS := (Held.mem_tail M12)
    refine Held.oneCall (ι := Unit) 6 (fun _ => (.int .u64 (u (putI (putI (putI 0#64 0 7 (cd k)) 12 3 (ff k)) 20 12 (getI imm 0 12))))) 46 #[.agg #[.slice (some ⟨B12, 0, none⟩) 1 1, .int .i64 12, .bool false, .int .i64 0], .int .u64 (u (putI (putI 0#64 0 7 (cd k)) 12 3 (ff k))), .int .i64 (s imm)] (R := fun _ w1 => Kw.Mem [] w12 w1 []) rfl (by decide +kernel) (by kernel_rfl) (by kernel_rfl) (Held.unit (lay_C (putI (putI 0#64 0 7 (cd k)) 12 3 (ff k)) imm w12 B12 (Held.mem_of M12 0 rfl))) fun _ w13 hc => ?_
    have M13 := M12.call hc
    clear hc
    refine ⟨(Held.mem_tail M13), ?_⟩
    have MS := (Held.mem_tail M13)
    refine Held.takeP 7 (.int .u64 (u (putI (putI (putI 0#64 0 7 (cd k)) 12 3 (ff k)) 20 12 (getI imm 0 12)))) rfl (by decide +kernel) (by decide +kernel) (by decide +kernel) (by kernel_rfl) (fun w => by kernel_rfl) MS ?_
    refine Held.done (by decide +kernel) ?_
    refine Kw.then_normal ?_
    refine wp_seq ?_
    refine wp_seq ?_
    refine Kw.region ?_
    refine Kw.pure (.bool true) (by kernel_rfl) (by kernel_rfl) ?_
    refine Kw.pure (.pointer (some ⟨B1, 1, none⟩)) (by kernel_rfl) (by kernel_rfl) ?_
    refine Kw.pureS (Canon.ldS 3 (.pointer (some ⟨B1, 1, none⟩))) (.int .i64 (s rd)) (by kernel_rfl) (by kernel_rfl) (Kw.ld_cell 3 1 (.int .i64 (s rd)) (M13.get 3 rfl) (by kernel_rfl) _ Try.underlying3 rfl) ?_
    refine Kw.pure (.agg #[.bool true, .int .i64 7, .int .i64 (s rd)]) (by kernel_rfl) (by kernel_rfl) ?_
    refine Kw.pure (.bool true) (by kernel_rfl) (by kernel_rfl) ?_
    refine Kw.pure (.pointer (some ⟨B1, 2, none⟩)) (by kernel_rfl) (by kernel_rfl) ?_
    refine Kw.pureS (Canon.ldS 3 (.pointer (some ⟨B1, 2, none⟩))) (.int .i64 (s rs1)) (by kernel_rfl) (by kernel_rfl) (Kw.ld_cell 3 2 (.int .i64 (s rs1)) (M13.get 3 rfl) (by kernel_rfl) _ Try.underlying3 rfl) ?_
    refine Kw.pure (.agg #[.bool true, .int .i64 15, .int .i64 (s rs1)]) (by kernel_rfl) (by kernel_rfl) ?_
    refine Kw.pure (.bool false) (by kernel_rfl) (by kernel_rfl) ?_
    refine Kw.pure (.pointer (some ⟨B1, 3, none⟩)) (by kernel_rfl) (by kernel_rfl) ?_
    refine Kw.pureS (Canon.ldS 3 (.pointer (some ⟨B1, 3, none⟩))) (.int .i64 (s rs2)) (by kernel_rfl) (by kernel_rfl) (Kw.ld_cell 3 3 (.int .i64 (s rs2)) (M13.get 3 rfl) (by kernel_rfl) _ Try.underlying3 rfl) ?_
    refine Kw.pure (.agg #[.bool false, .int .i64 20, .int .i64 (s rs2)]) (by kernel_rfl) (by kernel_rfl) ?_
    refine Kw.pure (.agg #[.bool true, .int .i64 7, .int .i64 (s rd), .bool true, .int .i64 15, .int .i64 (s rs1), .bool false, .int .i64 20, .int .i64 (s rs2)]) (by kernel_rfl) (by kernel_rfl) ?_
    refine Kw.pure (.int .i64 0) (by kernel_rfl) (by kernel_rfl) ?_
    refine Kw.fin ?_
    refine Kw.then_normal ?_
    refine wp_block ?_
    refine wp_loop_rounds 4 ?_
    refine Kw.round_succ ?_
    refine wp_seq ?_
    refine Kw.region ?_
    refine Kw.pureS (Canon.opS .lss 3 (.tmp 62) (.const (.int .i64 3)) (.int .i64 0) (.int .i64 3)) (.bool true) (by kernel_rfl) (by kernel_rfl) (by kernel_rfl) ?_
    refine Kw.fin ?_
    refine Kw.then_normal ?_
    refine wp_seq ?_
    refine wp_cond_true (by kernel_rfl) ?_
    refine wp_skip ?_
    refine Kw.then_normal ?_
    refine wp_seq ?_
    refine wp_block ?_
    refine wp_seq ?_
    refine Kw.region ?_
    refine Kw.pure (.agg #[.bool true, .int .i64 7, .int .i64 (s rd)]) (by kernel_rfl) (by kernel_rfl) ?_
    refine Kw.alloc #[.bool false, .int .i64 0, .int .i64 0] 72 M13 (by kernel_rfl) (by kernel_rfl) fun w14 B14 M14 => ?_
    refine Kw.storeAll 0 72 #[.bool true, .int .i64 7, .int .i64 (s rd)] M14 rfl (by kernel_rfl) (by kernel_rfl) (by kernel_rfl) (by kernel_rfl) (by kernel_rfl) fun w15 M15 => ?_
    refine Kw.fin ?_
    refine Kw.then_normal ?_
    refine wp_seq ?_
    refine wp_seq ?_
    refine Kw.region ?_
    refine Kw.pure (.pointer (some ⟨B14, 0, none⟩)) (by kernel_rfl) (by kernel_rfl) ?_
    refine Kw.pureS (Canon.ldS 4 (.pointer (some ⟨B14, 0, none⟩))) (.bool true) (by kernel_rfl) (by kernel_rfl) (Kw.ld_cell 4 0 (.bool true) (M15.get 0 rfl) (by kernel_rfl) _ Try.underlying4 rfl) ?_
    refine Kw.pure (.bool true) (by kernel_rfl) (by kernel_rfl) ?_
    refine Kw.pure (.pointer (some ⟨B14, 2, none⟩)) (by kernel_rfl) (by kernel_rfl) ?_
    refine Kw.pureS (Canon.ldS 3 (.pointer (some ⟨B14, 2, none⟩))) (.int .i64 (s rd)) (by kernel_rfl) (by kernel_rfl) (Kw.ld_cell 3 2 (.int .i64 (s rd)) (M15.get 0 rfl) (by kernel_rfl) _ Try.underlying3 rfl) ?_
    refine Kw.call (.bool F1) 47 #[.int .i64 (s rd), .int .i64 5, .bool false] M15 (by kernel_rfl) (by kernel_rfl) (by have h := fits_c rd 5 false w15; rw [g1] at h; exact h) fun w16 M16 => ?_
    refine Kw.pure (.bool (!F1)) (by kernel_rfl) (by kernel_rfl) ?_
    refine Kw.pure (.bool (!F1)) (by kernel_rfl) (by kernel_rfl) ?_
    refine Kw.fin ?_
    refine Kw.then_normal ?_
    refine wp_cond_split (t := (!F1)) (by kernel_rfl) (fun h17 => ?_) (fun h17 => ?_)
    · skip
      refine wp_seq ?_
      refine Kw.region ?_
      refine Kw.pure (.int .u32 0) (by kernel_rfl) (by kernel_rfl) ?_
      refine Kw.pure (.bool false) (by kernel_rfl) (by kernel_rfl) ?_
      refine Kw.fin ?_
      refine Kw.then_normal ?_
      refine wp_ret ?_
      refine Kw.then_ret ?_
      refine Kw.block_ret ?_
      refine Kw.then_ret ?_
      refine Kw.then_ret ?_
      refine Kw.block_ret ?_
      refine Kw.then_ret ?_
      exact bodyPost_ret (v := .tuple #[.int .u32 0, .bool false]) (by kernel_rfl) (by kernel_rfl) ⟨by simp_all [encR], M16.drop⟩
    · skip
      refine wp_skip ?_
      refine Kw.then_normal ?_
      refine wp_seq ?_
      refine Kw.region ?_
      refine Kw.pure (.pointer (some ⟨B14, 0, none⟩)) (by kernel_rfl) (by kernel_rfl) ?_
      refine Kw.pureS (Canon.ldS 4 (.pointer (some ⟨B14, 0, none⟩))) (.bool true) (by kernel_rfl) (by kernel_rfl) (Kw.ld_cell 4 0 (.bool true) (M16.get 0 rfl) (by kernel_rfl) _ Try.underlying4 rfl) ?_
      refine Kw.fin ?_
      refine Kw.then_normal ?_
      refine wp_cond_true (by kernel_rfl) ?_
      refine Kw.region ?_
      refine Kw.pure (.int .u64 (u (putI (putI (putI 0#64 0 7 (cd k)) 12 3 (ff k)) 20 12 (getI imm 0 12)))) (by kernel_rfl) (by kernel_rfl) ?_
      refine Kw.pure (.pointer (some ⟨B14, 1, none⟩)) (by kernel_rfl) (by kernel_rfl) ?_
      refine Kw.pureS (Canon.ldS 3 (.pointer (some ⟨B14, 1, none⟩))) (.int .i64 7) (by kernel_rfl) (by kernel_rfl) (Kw.ld_cell 3 1 (.int .i64 7) (M16.get 0 rfl) (by kernel_rfl) _ Try.underlying3 rfl) ?_
      refine Kw.pure (.pointer (some ⟨B14, 2, none⟩)) (by kernel_rfl) (by kernel_rfl) ?_
      refine Kw.pureS (Canon.ldS 3 (.pointer (some ⟨B14, 2, none⟩))) (.int .i64 (s rd)) (by kernel_rfl) (by kernel_rfl) (Kw.ld_cell 3 2 (.int .i64 (s rd)) (M16.get 0 rfl) (by kernel_rfl) _ Try.underlying3 rfl) ?_
      refine Kw.pure (.int .u64 (u rd)) (by kernel_rfl) (Kw.eqv (v := .int .u64 (IntKind.u64.wrap (s rd))) (by kernel_rfl) (congrArg (Value.int .u64) (wrap_s rd))) ?_
      refine Kw.call (.int .u64 (u (putI (putI (putI (putI 0#64 0 7 (cd k)) 12 3 (ff k)) 20 12 (getI imm 0 12)) 7 5 rd))) 48 #[.int .u64 (u (putI (putI (putI 0#64 0 7 (cd k)) 12 3 (ff k)) 20 12 (getI imm 0 12))), .int .i64 7, .int .i64 5, .int .u64 (u rd)] M16 (by kernel_rfl) (by kernel_rfl) (put_c (putI (putI (putI 0#64 0 7 (cd k)) 12 3 (ff k)) 20 12 (getI imm 0 12)) 7 5 rd w16) fun w18 M18 => ?_
      refine Kw.pure (.int .u64 (u (putI (putI (putI (putI 0#64 0 7 (cd k)) 12 3 (ff k)) 20 12 (getI imm 0 12)) 7 5 rd))) (by kernel_rfl) (by kernel_rfl) ?_
      refine Kw.fin ?_
      refine Kw.block_normal ?_
      refine Kw.then_normal ?_
      refine Kw.region ?_
      refine Kw.pureS (Canon.opS .add 3 (.tmp 62) (.const (.int .i64 1)) (.int .i64 0) (.int .i64 1)) (.int .i64 1) (by kernel_rfl) (by kernel_rfl) (by kernel_rfl) ?_
      refine Kw.pure (.int .i64 1) (by kernel_rfl) (by kernel_rfl) ?_
      refine Kw.fin ?_
      refine Kw.then_normal ?_
      refine Kw.round_succ ?_
      refine wp_seq ?_
      refine Kw.region ?_
      refine Kw.pureS (Canon.opS .lss 3 (.tmp 62) (.const (.int .i64 3)) (.int .i64 1) (.int .i64 3)) (.bool true) (by kernel_rfl) (by kernel_rfl) (by kernel_rfl) ?_
      refine Kw.fin ?_
      refine Kw.then_normal ?_
      refine wp_seq ?_
      refine wp_cond_true (by kernel_rfl) ?_
      refine wp_skip ?_
      refine Kw.then_normal ?_
      refine wp_seq ?_
      refine wp_block ?_
      refine wp_seq ?_
      refine Kw.region ?_
      refine Kw.pure (.agg #[.bool true, .int .i64 15, .int .i64 (s rs1)]) (by kernel_rfl) (by kernel_rfl) ?_
      refine Kw.alloc #[.bool false, .int .i64 0, .int .i64 0] 72 M18 (by kernel_rfl) (by kernel_rfl) fun w19 B19 M19 => ?_
      refine Kw.storeAll 0 72 #[.bool true, .int .i64 15, .int .i64 (s rs1)] M19 rfl (by kernel_rfl) (by kernel_rfl) (by kernel_rfl) (by kernel_rfl) (by kernel_rfl) fun w20 M20 => ?_
      refine Kw.fin ?_
      refine Kw.then_normal ?_
      refine wp_seq ?_
      refine wp_seq ?_
      refine Kw.region ?_
      refine Kw.pure (.pointer (some ⟨B19, 0, none⟩)) (by kernel_rfl) (by kernel_rfl) ?_
      refine Kw.pureS (Canon.ldS 4 (.pointer (some ⟨B19, 0, none⟩))) (.bool true) (by kernel_rfl) (by kernel_rfl) (Kw.ld_cell 4 0 (.bool true) (M20.get 0 rfl) (by kernel_rfl) _ Try.underlying4 rfl) ?_
      refine Kw.pure (.bool true) (by kernel_rfl) (by kernel_rfl) ?_
      refine Kw.pure (.pointer (some ⟨B19, 2, none⟩)) (by kernel_rfl) (by kernel_rfl) ?_
      refine Kw.pureS (Canon.ldS 3 (.pointer (some ⟨B19, 2, none⟩))) (.int .i64 (s rs1)) (by kernel_rfl) (by kernel_rfl) (Kw.ld_cell 3 2 (.int .i64 (s rs1)) (M20.get 0 rfl) (by kernel_rfl) _ Try.underlying3 rfl) ?_
      refine Kw.call (.bool F2) 47 #[.int .i64 (s rs1), .int .i64 5, .bool false] M20 (by kernel_rfl) (by kernel_rfl) (by have h := fits_c rs1 5 false w20; rw [g2] at h; exact h) fun w21 M21 => ?_
      refine Kw.pure (.bool (!F2)) (by kernel_rfl) (by kernel_rfl) ?_
      refine Kw.pure (.bool (!F2)) (by kernel_rfl) (by kernel_rfl) ?_
      refine Kw.fin ?_
      refine Kw.then_normal ?_
      refine wp_cond_split (t := (!F2)) (by kernel_rfl) (fun h22 => ?_) (fun h22 => ?_)
      · skip
        refine wp_seq ?_
        refine Kw.region ?_
        refine Kw.pure (.int .u32 0) (by kernel_rfl) (by kernel_rfl) ?_
        refine Kw.pure (.bool false) (by kernel_rfl) (by kernel_rfl) ?_
        refine Kw.fin ?_
        refine Kw.then_normal ?_
        refine wp_ret ?_
        refine Kw.then_ret ?_
        refine Kw.block_ret ?_
        refine Kw.then_ret ?_
        refine Kw.then_ret ?_
        refine Kw.block_ret ?_
        refine Kw.then_ret ?_
        exact bodyPost_ret (v := .tuple #[.int .u32 0, .bool false]) (by kernel_rfl) (by kernel_rfl) ⟨by simp_all [encR], M21.drop⟩
      · skip
        refine wp_skip ?_
        refine Kw.then_normal ?_
        refine wp_seq ?_
        refine Kw.region ?_
        refine Kw.pure (.pointer (some ⟨B19, 0, none⟩)) (by kernel_rfl) (by kernel_rfl) ?_
        refine Kw.pureS (Canon.ldS 4 (.pointer (some ⟨B19, 0, none⟩))) (.bool true) (by kernel_rfl) (by kernel_rfl) (Kw.ld_cell 4 0 (.bool true) (M21.get 0 rfl) (by kernel_rfl) _ Try.underlying4 rfl) ?_
        refine Kw.fin ?_
        refine Kw.then_normal ?_
        refine wp_cond_true (by kernel_rfl) ?_
        refine Kw.region ?_
        refine Kw.pure (.int .u64 (u (putI (putI (putI (putI 0#64 0 7 (cd k)) 12 3 (ff k)) 20 12 (getI imm 0 12)) 7 5 rd))) (by kernel_rfl) (by kernel_rfl) ?_
        refine Kw.pure (.pointer (some ⟨B19, 1, none⟩)) (by kernel_rfl) (by kernel_rfl) ?_
        refine Kw.pureS (Canon.ldS 3 (.pointer (some ⟨B19, 1, none⟩))) (.int .i64 15) (by kernel_rfl) (by kernel_rfl) (Kw.ld_cell 3 1 (.int .i64 15) (M21.get 0 rfl) (by kernel_rfl) _ Try.underlying3 rfl) ?_
        refine Kw.pure (.pointer (some ⟨B19, 2, none⟩)) (by kernel_rfl) (by kernel_rfl) ?_
        refine Kw.pureS (Canon.ldS 3 (.pointer (some ⟨B19, 2, none⟩))) (.int .i64 (s rs1)) (by kernel_rfl) (by kernel_rfl) (Kw.ld_cell 3 2 (.int .i64 (s rs1)) (M21.get 0 rfl) (by kernel_rfl) _ Try.underlying3 rfl) ?_
        refine Kw.pure (.int .u64 (u rs1)) (by kernel_rfl) (Kw.eqv (v := .int .u64 (IntKind.u64.wrap (s rs1))) (by kernel_rfl) (congrArg (Value.int .u64) (wrap_s rs1))) ?_
        refine Kw.call (.int .u64 (u (putI (putI (putI (putI (putI 0#64 0 7 (cd k)) 12 3 (ff k)) 20 12 (getI imm 0 12)) 7 5 rd) 15 5 rs1))) 48 #[.int .u64 (u (putI (putI (putI (putI 0#64 0 7 (cd k)) 12 3 (ff k)) 20 12 (getI imm 0 12)) 7 5 rd)), .int .i64 15, .int .i64 5, .int .u64 (u rs1)] M21 (by kernel_rfl) (by kernel_rfl) (put_c (putI (putI (putI (putI 0#64 0 7 (cd k)) 12 3 (ff k)) 20 12 (getI imm 0 12)) 7 5 rd) 15 5 rs1 w21) fun w23 M23 => ?_
        refine Kw.pure (.int .u64 (u (putI (putI (putI (putI (putI 0#64 0 7 (cd k)) 12 3 (ff k)) 20 12 (getI imm 0 12)) 7 5 rd) 15 5 rs1))) (by kernel_rfl) (by kernel_rfl) ?_
        refine Kw.fin ?_
        refine Kw.block_normal ?_
        refine Kw.then_normal ?_
        refine Kw.region ?_
        refine Kw.pureS (Canon.opS .add 3 (.tmp 62) (.const (.int .i64 1)) (.int .i64 1) (.int .i64 1)) (.int .i64 2) (by kernel_rfl) (by kernel_rfl) (by kernel_rfl) ?_
        refine Kw.pure (.int .i64 2) (by kernel_rfl) (by kernel_rfl) ?_
        refine Kw.fin ?_
        refine Kw.then_normal ?_
        refine Kw.round_succ ?_
        refine wp_seq ?_
        refine Kw.region ?_
        refine Kw.pureS (Canon.opS .lss 3 (.tmp 62) (.const (.int .i64 3)) (.int .i64 2) (.int .i64 3)) (.bool true) (by kernel_rfl) (by kernel_rfl) (by kernel_rfl) ?_
        refine Kw.fin ?_
        refine Kw.then_normal ?_
        refine wp_seq ?_
        refine wp_cond_true (by kernel_rfl) ?_
        refine wp_skip ?_
        refine Kw.then_normal ?_
        refine wp_seq ?_
        refine wp_block ?_
        refine wp_seq ?_
        refine Kw.region ?_
        refine Kw.pure (.agg #[.bool false, .int .i64 20, .int .i64 (s rs2)]) (by kernel_rfl) (by kernel_rfl) ?_
        refine Kw.alloc #[.bool false, .int .i64 0, .int .i64 0] 72 M23 (by kernel_rfl) (by kernel_rfl) fun w24 B24 M24 => ?_
        refine Kw.storeAll 0 72 #[.bool false, .int .i64 20, .int .i64 (s rs2)] M24 rfl (by kernel_rfl) (by kernel_rfl) (by kernel_rfl) (by kernel_rfl) (by kernel_rfl) fun w25 M25 => ?_
        refine Kw.fin ?_
        refine Kw.then_normal ?_
        refine wp_seq ?_
        refine wp_seq ?_
        refine Kw.region ?_
        refine Kw.pure (.pointer (some ⟨B24, 0, none⟩)) (by kernel_rfl) (by kernel_rfl) ?_
        refine Kw.pureS (Canon.ldS 4 (.pointer (some ⟨B24, 0, none⟩))) (.bool false) (by kernel_rfl) (by kernel_rfl) (Kw.ld_cell 4 0 (.bool false) (M25.get 0 rfl) (by kernel_rfl) _ Try.underlying4 rfl) ?_
        refine Kw.pure (.bool false) (by kernel_rfl) (by kernel_rfl) ?_
        refine Kw.skip (by kernel_rfl) ?_
        refine Kw.skip (by kernel_rfl) ?_
        refine Kw.skip (by kernel_rfl) ?_
        refine Kw.skip (by kernel_rfl) ?_
        refine Kw.pure (.bool false) (by kernel_rfl) (by kernel_rfl) ?_
        refine Kw.fin ?_
        refine Kw.then_normal ?_
        refine wp_cond_false (by kernel_rfl) ?_
        refine wp_skip ?_
        refine Kw.then_normal ?_
        refine wp_seq ?_
        refine Kw.region ?_
        refine Kw.pure (.pointer (some ⟨B24, 0, none⟩)) (by kernel_rfl) (by kernel_rfl) ?_
        refine Kw.pureS (Canon.ldS 4 (.pointer (some ⟨B24, 0, none⟩))) (.bool false) (by kernel_rfl) (by kernel_rfl) (Kw.ld_cell 4 0 (.bool false) (M25.get 0 rfl) (by kernel_rfl) _ Try.underlying4 rfl) ?_
        refine Kw.fin ?_
        refine Kw.then_normal ?_
        refine wp_cond_false (by kernel_rfl) ?_
        refine wp_skip ?_
        refine Kw.block_normal ?_
        refine Kw.then_normal ?_
        refine Kw.region ?_
        refine Kw.pureS (Canon.opS .add 3 (.tmp 62) (.const (.int .i64 1)) (.int .i64 2) (.int .i64 1)) (.int .i64 3) (by kernel_rfl) (by kernel_rfl) (by kernel_rfl) ?_
        refine Kw.pure (.int .i64 3) (by kernel_rfl) (by kernel_rfl) ?_
        refine Kw.fin ?_
        refine Kw.then_normal ?_
        refine Kw.round_succ ?_
        refine wp_seq ?_
        refine Kw.region ?_
        refine Kw.pureS (Canon.opS .lss 3 (.tmp 62) (.const (.int .i64 3)) (.int .i64 3) (.int .i64 3)) (.bool false) (by kernel_rfl) (by kernel_rfl) (by kernel_rfl) ?_
        refine Kw.fin ?_
        refine Kw.then_normal ?_
        refine wp_seq ?_
        refine wp_cond_false (by kernel_rfl) ?_
        refine wp_exit ?_
        refine Kw.then_exit ?_
        refine Kw.then_exit ?_
        refine Kw.block_hit ?_
        refine Kw.then_normal ?_
        refine wp_seq ?_
        refine Kw.region ?_
        refine Kw.pure (.int .u64 (u (putI (putI (putI (putI (putI 0#64 0 7 (cd k)) 12 3 (ff k)) 20 12 (getI imm 0 12)) 7 5 rd) 15 5 rs1))) (by kernel_rfl) (by kernel_rfl) ?_
        refine Kw.pure (.int .u32 (u ((putI (putI (putI (putI (putI 0#64 0 7 (cd k)) 12 3 (ff k)) 20 12 (getI imm 0 12)) 7 5 rd) 15 5 rs1) &&& 4294967295#64))) (by kernel_rfl) (Kw.eqv (v := .int .u32 (IntKind.u32.wrap (u (putI (putI (putI (putI (putI 0#64 0 7 (cd k)) 12 3 (ff k)) 20 12 (getI imm 0 12)) 7 5 rd) 15 5 rs1)))) (by kernel_rfl) (congrArg (Value.int .u32) (wrap32_u (putI (putI (putI (putI (putI 0#64 0 7 (cd k)) 12 3 (ff k)) 20 12 (getI imm 0 12)) 7 5 rd) 15 5 rs1)))) ?_
        refine Kw.pure (.int .u32 (u ((putI (putI (putI (putI (putI 0#64 0 7 (cd k)) 12 3 (ff k)) 20 12 (getI imm 0 12)) 7 5 rd) 15 5 rs1) &&& 4294967295#64))) (by kernel_rfl) (by kernel_rfl) ?_
        refine Kw.pure (.bool true) (by kernel_rfl) (by kernel_rfl) ?_
        refine Kw.fin ?_
        refine Kw.then_normal ?_
        refine wp_ret ?_
        exact bodyPost_ret (v := .tuple #[.int .u32 (u ((putI (putI (putI (putI (putI 0#64 0 7 (cd k)) 12 3 (ff k)) 20 12 (getI imm 0 12)) 7 5 rd) 15 5 rs1) &&& 4294967295#64)), .bool true]) (by kernel_rfl) (by kernel_rfl) ⟨by simp_all [encR], M25.drop⟩
def word_H (k : Nat) (rd rs1 rs2 imm : BitVec 64) : BitVec 64 := (putI (putI (putI (putI (putI (putI 0#64 0 7 (cd k)) 12 3 (ff k)) 26 6 (ot k)) 20 6 (getI imm 0 6)) 7 5 rd) 15 5 rs1)
set_option maxRecDepth 100000 in
set_option maxHeartbeats 1000000 in
theorem enc_H (k : Nat) (hk : k < 69) (hs : sh k = 72) (rd rs1 rs2 imm : BitVec 64) (F0 : Bool) (h0 : fitB_H imm = F0) (F1 : Bool) (g1 : fitsI rd 5 false = F1) (F2 : Bool) (g2 : fitsI rs1 5 false = F2) (W : World) : Calls Try.prog 25 #[.agg #[.int .i64 ((k + 1 : Nat) : Int), .int .i64 (s rd), .int .i64 (s rs1), .int .i64 (s rs2), .int .i64 (s imm)]] W fun e W' => e = .returned (encR (F0 && F1 && F2) (word_H k rd rs1 rs2 imm)) ∧ Kw.Mem [] W W' [] := by
  unfold word_H
  refine calls_of_wp Try.func25 rfl ?_
  have M0 : Kw.Mem [] W W [] := Kw.Mem.start _ _
  refine Kw.to (b := ⟨#[.agg #[.int .i64 ((k + 1 : Nat) : Int), .int .i64 (s rd), .int .i64 (s rs1), .int .i64 (s rs2), .int .i64 (s imm)], undef, undef, undef, undef, undef, undef, undef, undef, undef, undef, undef, undef, undef, undef, undef, undef, undef, undef, undef, undef, undef, undef, undef, undef, undef, undef, undef, undef, undef, undef, undef, undef, undef, undef, undef, undef, undef, undef, undef, undef, undef, undef, undef, undef, undef, undef, undef, undef, undef, undef, undef, undef, undef, undef, undef, undef, undef, undef, undef, undef, undef, undef, undef, undef, undef, undef, undef, undef, undef, undef, undef, undef, undef, undef, undef, undef, undef, undef, undef, undef, undef, undef, undef, undef], []⟩) (by kernel_rfl) ?_
  refine wp_seq ?_
  refine Kw.region ?_
  refine Kw.alloc #[.int .i64 ((k + 1 : Nat) : Int), .int .i64 (s rd), .int .i64 (s rs1), .int .i64 (s rs2), .int .i64 (s imm)] 36 M0 (by kernel_rfl) (by kernel_rfl) fun w1 B1 M1 => ?_
  refine Kw.pure (.int .u32 0) (by kernel_rfl) (by kernel_rfl) ?_
  refine Kw.pure (.bool false) (by kernel_rfl) (by kernel_rfl) ?_
  refine Kw.fin ?_
  refine Kw.then_normal ?_
  refine wp_seq ?_
  refine Kw.region ?_
  refine Kw.pure (.pointer (some ⟨B1, 0, none⟩)) (by kernel_rfl) (by kernel_rfl) ?_
  refine Kw.pureS (Canon.ldS 3 (.pointer (some ⟨B1, 0, none⟩))) (.int .i64 ((k + 1 : Nat) : Int)) (by kernel_rfl) (by kernel_rfl) (Kw.ld_cell 3 0 (.int .i64 ((k + 1 : Nat) : Int)) (M1.get 0 rfl) (by kernel_rfl) _ Try.underlying3 rfl) ?_
  refine Kw.call (.tuple #[.agg #[.string (nm k), .int .u8 72, .int .u64 (u (cd k)), .int .u64 (u (ff k)), .int .u64 (u (ot k))], .bool true]) 41 #[.int .i64 ((k + 1 : Nat) : Int)] M1 (by kernel_rfl) (by kernel_rfl) (of_sh 72 k hk hs w1) fun w2 M2 => ?_
  refine Kw.pure (.tuple #[.agg #[.string (nm k), .int .u8 72, .int .u64 (u (cd k)), .int .u64 (u (ff k)), .int .u64 (u (ot k))], .bool true]) (by kernel_rfl) (by kernel_rfl) ?_
  refine Kw.pure (.agg #[.string (nm k), .int .u8 72, .int .u64 (u (cd k)), .int .u64 (u (ff k)), .int .u64 (u (ot k))]) (by kernel_rfl) (by kernel_rfl) ?_
  refine Kw.pure (.bool true) (by kernel_rfl) (by kernel_rfl) ?_
  refine Kw.alloc #[.string ⟨#[]⟩, .int .u8 0, .int .u64 0, .int .u64 0, .int .u64 0] 59 M2 (by kernel_rfl) (by kernel_rfl) fun w3 B3 M3 => ?_
  refine Kw.storeAll 0 59 #[.string (nm k), .int .u8 72, .int .u64 (u (cd k)), .int .u64 (u (ff k)), .int .u64 (u (ot k))] M3 rfl (by kernel_rfl) (by kernel_rfl) (by kernel_rfl) (by kernel_rfl) (by kernel_rfl) fun w4 M4 => ?_
  refine Kw.pure (.bool true) (by kernel_rfl) (by kernel_rfl) ?_
  refine Kw.fin ?_
  refine Kw.then_normal ?_
  refine wp_seq ?_
  refine wp_seq ?_
  refine Held.start (fun w => Kw.Mem [] W w [(B3, #[.string (nm k), .int .u8 72, .int .u64 (u (cd k)), .int .u64 (u (ff k)), .int .u64 (u (ot k))], 59), (B1, #[.int .i64 ((k + 1 : Nat) : Int), .int .i64 (s rd), .int .i64 (s rs1), .int .i64 (s rs2), .int .i64 (s imm)], 36)]) (by kernel_rfl) ?_
  have M5 := M4.drew
  have MS := M5
  refine Held.takeP 0 (.bool true) rfl (by decide +kernel) (by decide +kernel) (by decide +kernel) (by kernel_rfl) (fun w => by kernel_rfl) MS ?_
  refine Held.takeP 1 (.bool false) rfl (by decide +kernel) (by decide +kernel) (by decide +kernel) (by kernel_rfl) (fun w => by kernel_rfl) MS ?_
  refine Held.takeP 2 (.bool false) rfl (by decide +kernel) (by decide +kernel) (by decide +kernel) (by kernel_rfl) (fun w => by kernel_rfl) MS ?_
  refine Held.takeP 3 (.pointer (some ⟨B3, 1, none⟩)) rfl (by decide +kernel) (by decide +kernel) (by decide +kernel) (by kernel_rfl) (fun w => by kernel_rfl) MS ?_
  refine Held.take 4 (Canon.ldS 5 (.pointer (some ⟨B3, 1, none⟩))) (.int .u8 72) rfl (by decide +kernel) (by decide +kernel) (by decide +kernel) (by kernel_rfl) (by kernel_rfl) (fun w hw => Kw.ld_cell 5 1 (.int .u8 72) (hw.get 0 rfl) (by kernel_rfl) _ Try.underlying5 rfl) MS ?_
  refine Held.takeP 6 (.pointer (some ⟨B1, 4, none⟩)) rfl (by decide +kernel) (by decide +kernel) (by decide +kernel) (by kernel_rfl) (fun w => by kernel_rfl) MS ?_
  refine Held.take 7 (Canon.ldS 2 (.pointer (some ⟨B1, 4, none⟩))) (.int .i64 (s imm)) rfl (by decide +kernel) (by decide +kernel) (by decide +kernel) (by kernel_rfl) (by kernel_rfl) (fun w hw => Kw.ld_cell 2 4 (.int .i64 (s imm)) (hw.get 1 rfl) (by kernel_rfl) _ Try.underlying2 rfl) MS ?_
  refine Held.oneCall (ι := Nat) 5 (fun B => (.agg #[.slice (some ⟨B, 0, none⟩) 1 1, .int .i64 6, .bool false, .int .i64 0])) 42 #[.int .u8 72] (R := fun B w1 => Kw.Mem [] (w4.drew) w1 [(B, #[.int .i64 0, .int .i64 6, .int .i64 20], 89)]) rfl (by decide +kernel) (by kernel_rfl) (by kernel_rfl) (laid_H (w4.drew)) fun B6 w6 hc => ?_
  have M6 := Held.mem_new M5 hc
  clear hc
  refine ⟨(Held.mem_tail M6), ?_⟩
  have MS := (Held.mem_tail M6)
  refine Held.oneCall (ι := Unit) 8 (fun _ => (.bool F0)) 43 #[.agg #[.slice (some ⟨B6, 0, none⟩) 1 1, .int .i64 6, .bool false, .int .i64 0], .int .i64 (s imm)] (R := fun _ w1 => Kw.Mem [] w6 w1 []) rfl (by decide +kernel) (by kernel_rfl) (by kernel_rfl) (Held.unit (by have h := fit_H imm w6 B6 (Held.mem_of M6 0 rfl); rw [h0] at h; exact h)) fun _ w7 hc => ?_
  have M7 := M6.call hc
  clear hc
  refine ⟨(Held.mem_tail M7), ?_⟩
  have MS := (Held.mem_tail M7)
  refine Held.takeP 9 (.bool (!F0)) rfl (by decide +kernel) (by decide +kernel) (by decide +kernel) (by kernel_rfl) (fun w => by kernel_rfl) MS ?_
  refine Held.takeP 10 (.bool (!F0)) rfl (by decide +kernel) (by decide +kernel) (by decide +kernel) (by kernel_rfl) (fun w => by kernel_rfl) MS ?_
  refine Held.done (by decide +kernel) ?_
  refine Kw.then_normal ?_
  refine wp_cond_split (t := (!F0)) (by kernel_rfl) (fun h8 => ?_) (fun h8 => ?_)
  · skip
    refine wp_seq ?_
    refine Kw.region ?_
    refine Kw.pure (.int .u32 0) (by kernel_rfl) (by kernel_rfl) ?_
    refine Kw.pure (.bool false) (by kernel_rfl) (by kernel_rfl) ?_
    refine Kw.fin ?_
    refine Kw.then_normal ?_
    refine wp_ret ?_
    refine Kw.then_ret ?_
    exact bodyPost_ret (v := .tuple #[.int .u32 0, .bool false]) (by kernel_rfl) (by kernel_rfl) ⟨by simp_all [encR], M7.drop⟩
  · skip
    refine wp_skip ?_
    refine Kw.then_normal ?_
    refine wp_seq ?_
    refine Kw.region ?_
    refine Kw.pureS (Canon.ldS 59 (.pointer (some ⟨B3, 0, none⟩))) (.agg #[.string (nm k), .int .u8 72, .int .u64 (u (cd k)), .int .u64 (u (ff k)), .int .u64 (u (ot k))]) (by kernel_rfl) (by kernel_rfl) (Kw.ld_all 59 (M7.get 1 rfl) _ Try.underlying59 rfl (by kernel_rfl)) ?_
    refine Kw.call (.tuple #[.int .u64 (u (putI (putI (putI 0#64 0 7 (cd k)) 12 3 (ff k)) 26 6 (ot k))), .int .u64 (u (putI (putI (putI 0#64 0 7 18446744073709551615#64) 12 3 18446744073709551615#64) 26 6 18446744073709551615#64))]) 44 #[.agg #[.string (nm k), .int .u8 72, .int .u64 (u (cd k)), .int .u64 (u (ff k)), .int .u64 (u (ot k))]] M7 (by kernel_rfl) (by kernel_rfl) (fixed_H (nm k) (cd k) (ff k) (ot k) w7) fun w9 M9 => ?_
    refine Kw.pure (.tuple #[.int .u64 (u (putI (putI (putI 0#64 0 7 (cd k)) 12 3 (ff k)) 26 6 (ot k))), .int .u64 (u (putI (putI (putI 0#64 0 7 18446744073709551615#64) 12 3 18446744073709551615#64) 26 6 18446744073709551615#64))]) (by kernel_rfl) (by kernel_rfl) ?_
    refine Kw.pure (.int .u64 (u (putI (putI (putI 0#64 0 7 (cd k)) 12 3 (ff k)) 26 6 (ot k)))) (by kernel_rfl) (by kernel_rfl) ?_
    refine Kw.pure (.int .u64 (u (putI (putI (putI 0#64 0 7 18446744073709551615#64) 12 3 18446744073709551615#64) 26 6 18446744073709551615#64))) (by kernel_rfl) (by kernel_rfl) ?_
    refine Kw.pure (.int .u64 (u (putI (putI (putI 0#64 0 7 (cd k)) 12 3 (ff k)) 26 6 (ot k)))) (by kernel_rfl) (by kernel_rfl) ?_
    refine Kw.pure (.int .u64 (u (putI (putI (putI 0#64 0 7 18446744073709551615#64) 12 3 18446744073709551615#64) 26 6 18446744073709551615#64))) (by kernel_rfl) (by kernel_rfl) ?_
    refine Kw.fin ?_
    refine Kw.then_normal ?_
    refine wp_seq ?_
    refine Kw.region ?_
    refine Kw.pure (.pointer (some ⟨B3, 1, none⟩)) (by kernel_rfl) (by kernel_rfl) ?_
    refine Kw.pureS (Canon.ldS 5 (.pointer (some ⟨B3, 1, none⟩))) (.int .u8 72) (by kernel_rfl) (by kernel_rfl) (Kw.ld_cell 5 1 (.int .u8 72) (M9.get 1 rfl) (by kernel_rfl) _ Try.underlying5 rfl) ?_
    refine Kw.call (.tuple #[.bool true, .bool true, .bool false]) 45 #[.int .u8 72] M9 (by kernel_rfl) (by kernel_rfl) (has_H w9) fun w10 M10 => ?_
    refine Kw.pure (.tuple #[.bool true, .bool true, .bool false]) (by kernel_rfl) (by kernel_rfl) ?_
    refine Kw.pure (.bool true) (by kernel_rfl) (by kernel_rfl) ?_
    refine Kw.pure (.bool true) (by kernel_rfl) (by kernel_rfl) ?_
    refine Kw.pure (.bool false) (by kernel_rfl) (by kernel_rfl) ?_
    refine Kw.pure (.bool true) (by kernel_rfl) (by kernel_rfl) ?_
    refine Kw.pure (.bool true) (by kernel_rfl) (by kernel_rfl) ?_
    refine Kw.pure (.bool false) (by kernel_rfl) (by kernel_rfl) ?_
    refine Kw.fin ?_
    refine Kw.then_normal ?_
    refine wp_seq ?_
    refine Held.start (fun w => Kw.Mem [] W w [(B6, #[.int .i64 0, .int .i64 6, .int .i64 20], 89), (B3, #[.string (nm k), .int .u8 72, .int .u64 (u (cd k)), .int .u64 (u (ff k)), .int .u64 (u (ot k))], 59), (B1, #[.int .i64 ((k + 1 : Nat) : Int), .int .i64 (s rd), .int .i64 (s rs1), .int .i64 (s rs2), .int .i64 (s imm)], 36)]) (by kernel_rfl) ?_
    have M11 := M10.drew
    have MS := M11
    refine Held.takeP 0 (.pointer (some ⟨B3, 1, none⟩)) rfl (by decide +kernel) (by decide +kernel) (by decide +kernel) (by kernel_rfl) (fun w => by kernel_rfl) MS ?_
    refine Held.take 1 (Canon.ldS 5 (.pointer (some ⟨B3, 1, none⟩))) (.int .u8 72) rfl (by decide +kernel) (by decide +kernel) (by decide +kernel) (by kernel_rfl) (by kernel_rfl) (fun w hw => Kw.ld_cell 5 1 (.int .u8 72) (hw.get 1 rfl) (by kernel_rfl) _ Try.underlying5 rfl) MS ?_
    refine Held.takeP 3 (.int .u64 (u (putI (putI (putI 0#64 0 7 (cd k)) 12 3 (ff k)) 26 6 (ot k)))) rfl (by decide +kernel) (by decide +kernel) (by decide +kernel) (by kernel_rfl) (fun w => by kernel_rfl) MS ?_
    refine Held.takeP 4 (.pointer (some ⟨B1, 4, none⟩)) rfl (by decide +kernel) (by decide +kernel) (by decide +kernel) (by kernel_rfl) (fun w => by kernel_rfl) MS ?_
    refine Held.take 5 (Canon.ldS 2 (.pointer (some ⟨B1, 4, none⟩))) (.int .i64 (s imm)) rfl (by decide +kernel) (by decide +kernel) (by decide +kernel) (by kernel_rfl) (by kernel_rfl) (fun w hw => Kw.ld_cell 2 4 (.int .i64 (s imm)) (hw.get 2 rfl) (by kernel_rfl) _ Try.underlying2 rfl) MS ?_
    refine Held.oneCall (ι := Nat) 2 (fun B => (.agg #[.slice (some ⟨B, 0, none⟩) 1 1, .int .i64 6, .bool false, .int .i64 0])) 42 #[.int .u8 72] (R := fun B w1 => Kw.Mem [] (w10.drew) w1 [(B, #[.int .i64 0, .int .i64 6, .int .i64 20], 89)]) rfl (by decide +kernel) (by kernel_rfl) (by kernel_rfl) (laid_H (w10.drew)) fun B12 w12 hc => ?_
    have M12 := Held.mem_new M11 hc
    clear hc
    refine ⟨(Held.mem_tail M12), ?_⟩
    have MS := (Held.mem_tail M12)
    refine Held.oneCall (ι := Unit) 6 (fun _ => (.int .u64 (u (putI (putI (putI (putI 0#64 0 7 (cd k)) 12 3 (ff k)) 26 6 (ot k)) 20 6 (getI imm 0 6))))) 46 #[.agg #[.slice (some ⟨B12, 0, none⟩) 1 1, .int .i64 6, .bool false, .int .i64 0], .int .u64 (u (putI (putI (putI 0#64 0 7 (cd k)) 12 3 (ff k)) 26 6 (ot k))), .int .i64 (s imm)] (R := fun _ w1 => Kw.Mem [] w12 w1 []) rfl (by decide +kernel) (by kernel_rfl) (by kernel_rfl) (Held.unit (lay_H (putI (putI (putI 0#64 0 7 (cd k)) 12 3 (ff k)) 26 6 (ot k)) imm w12 B12 (Held.mem_of M12 0 rfl))) fun _ w13 hc => ?_
    have M13 := M12.call hc
    clear hc
    refine ⟨(Held.mem_tail M13), ?_⟩
    have MS := (Held.mem_tail M13)
    refine Held.takeP 7 (.int .u64 (u (putI (putI (putI (putI 0#64 0 7 (cd k)) 12 3 (ff k)) 26 6 (ot k)) 20 6 (getI imm 0 6)))) rfl (by decide +kernel) (by decide +kernel) (by decide +kernel) (by kernel_rfl) (fun w => by kernel_rfl) MS ?_
    refine Held.done (by decide +kernel) ?_
    refine Kw.then_normal ?_
    refine wp_seq ?_
    refine wp_seq ?_
    refine Kw.region ?_
    refine Kw.pure (.bool true) (by kernel_rfl) (by kernel_rfl) ?_
    refine Kw.pure (.pointer (some ⟨B1, 1, none⟩)) (by kernel_rfl) (by kernel_rfl) ?_
    refine Kw.pureS (Canon.ldS 3 (.pointer (some ⟨B1, 1, none⟩))) (.int .i64 (s rd)) (by kernel_rfl) (by kernel_rfl) (Kw.ld_cell 3 1 (.int .i64 (s rd)) (M13.get 3 rfl) (by kernel_rfl) _ Try.underlying3 rfl) ?_
    refine Kw.pure (.agg #[.bool true, .int .i64 7, .int .i64 (s rd)]) (by kernel_rfl) (by kernel_rfl) ?_
    refine Kw.pure (.bool true) (by kernel_rfl) (by kernel_rfl) ?_
    refine Kw.pure (.pointer (some ⟨B1, 2, none⟩)) (by kernel_rfl) (by kernel_rfl) ?_
    refine Kw.pureS (Canon.ldS 3 (.pointer (some ⟨B1, 2, none⟩))) (.int .i64 (s rs1)) (by kernel_rfl) (by kernel_rfl) (Kw.ld_cell 3 2 (.int .i64 (s rs1)) (M13.get 3 rfl) (by kernel_rfl) _ Try.underlying3 rfl) ?_
    refine Kw.pure (.agg #[.bool true, .int .i64 15, .int .i64 (s rs1)]) (by kernel_rfl) (by kernel_rfl) ?_
    refine Kw.pure (.bool false) (by kernel_rfl) (by kernel_rfl) ?_
    refine Kw.pure (.pointer (some ⟨B1, 3, none⟩)) (by kernel_rfl) (by kernel_rfl) ?_
    refine Kw.pureS (Canon.ldS 3 (.pointer (some ⟨B1, 3, none⟩))) (.int .i64 (s rs2)) (by kernel_rfl) (by kernel_rfl) (Kw.ld_cell 3 3 (.int .i64 (s rs2)) (M13.get 3 rfl) (by kernel_rfl) _ Try.underlying3 rfl) ?_
    refine Kw.pure (.agg #[.bool false, .int .i64 20, .int .i64 (s rs2)]) (by kernel_rfl) (by kernel_rfl) ?_
    refine Kw.pure (.agg #[.bool true, .int .i64 7, .int .i64 (s rd), .bool true, .int .i64 15, .int .i64 (s rs1), .bool false, .int .i64 20, .int .i64 (s rs2)]) (by kernel_rfl) (by kernel_rfl) ?_
    refine Kw.pure (.int .i64 0) (by kernel_rfl) (by kernel_rfl) ?_
    refine Kw.fin ?_
    refine Kw.then_normal ?_
    refine wp_block ?_
    refine wp_loop_rounds 4 ?_
    refine Kw.round_succ ?_
    refine wp_seq ?_
    refine Kw.region ?_
    refine Kw.pureS (Canon.opS .lss 3 (.tmp 62) (.const (.int .i64 3)) (.int .i64 0) (.int .i64 3)) (.bool true) (by kernel_rfl) (by kernel_rfl) (by kernel_rfl) ?_
    refine Kw.fin ?_
    refine Kw.then_normal ?_
    refine wp_seq ?_
    refine wp_cond_true (by kernel_rfl) ?_
    refine wp_skip ?_
    refine Kw.then_normal ?_
    refine wp_seq ?_
    refine wp_block ?_
    refine wp_seq ?_
    refine Kw.region ?_
    refine Kw.pure (.agg #[.bool true, .int .i64 7, .int .i64 (s rd)]) (by kernel_rfl) (by kernel_rfl) ?_
    refine Kw.alloc #[.bool false, .int .i64 0, .int .i64 0] 72 M13 (by kernel_rfl) (by kernel_rfl) fun w14 B14 M14 => ?_
    refine Kw.storeAll 0 72 #[.bool true, .int .i64 7, .int .i64 (s rd)] M14 rfl (by kernel_rfl) (by kernel_rfl) (by kernel_rfl) (by kernel_rfl) (by kernel_rfl) fun w15 M15 => ?_
    refine Kw.fin ?_
    refine Kw.then_normal ?_
    refine wp_seq ?_
    refine wp_seq ?_
    refine Kw.region ?_
    refine Kw.pure (.pointer (some ⟨B14, 0, none⟩)) (by kernel_rfl) (by kernel_rfl) ?_
    refine Kw.pureS (Canon.ldS 4 (.pointer (some ⟨B14, 0, none⟩))) (.bool true) (by kernel_rfl) (by kernel_rfl) (Kw.ld_cell 4 0 (.bool true) (M15.get 0 rfl) (by kernel_rfl) _ Try.underlying4 rfl) ?_
    refine Kw.pure (.bool true) (by kernel_rfl) (by kernel_rfl) ?_
    refine Kw.pure (.pointer (some ⟨B14, 2, none⟩)) (by kernel_rfl) (by kernel_rfl) ?_
    refine Kw.pureS (Canon.ldS 3 (.pointer (some ⟨B14, 2, none⟩))) (.int .i64 (s rd)) (by kernel_rfl) (by kernel_rfl) (Kw.ld_cell 3 2 (.int .i64 (s rd)) (M15.get 0 rfl) (by kernel_rfl) _ Try.underlying3 rfl) ?_
    refine Kw.call (.bool F1) 47 #[.int .i64 (s rd), .int .i64 5, .bool false] M15 (by kernel_rfl) (by kernel_rfl) (by have h := fits_c rd 5 false w15; rw [g1] at h; exact h) fun w16 M16 => ?_
    refine Kw.pure (.bool (!F1)) (by kernel_rfl) (by kernel_rfl) ?_
    refine Kw.pure (.bool (!F1)) (by kernel_rfl) (by kernel_rfl) ?_
    refine Kw.fin ?_
    refine Kw.then_normal ?_
    refine wp_cond_split (t := (!F1)) (by kernel_rfl) (fun h17 => ?_) (fun h17 => ?_)
    · skip
      refine wp_seq ?_
      refine Kw.region ?_
      refine Kw.pure (.int .u32 0) (by kernel_rfl) (by kernel_rfl) ?_
      refine Kw.pure (.bool false) (by kernel_rfl) (by kernel_rfl) ?_
      refine Kw.fin ?_
      refine Kw.then_normal ?_
      refine wp_ret ?_
      refine Kw.then_ret ?_
      refine Kw.block_ret ?_
      refine Kw.then_ret ?_
      refine Kw.then_ret ?_
      refine Kw.block_ret ?_
      refine Kw.then_ret ?_
      exact bodyPost_ret (v := .tuple #[.int .u32 0, .bool false]) (by kernel_rfl) (by kernel_rfl) ⟨by simp_all [encR], M16.drop⟩
    · skip
      refine wp_skip ?_
      refine Kw.then_normal ?_
      refine wp_seq ?_
      refine Kw.region ?_
      refine Kw.pure (.pointer (some ⟨B14, 0, none⟩)) (by kernel_rfl) (by kernel_rfl) ?_
      refine Kw.pureS (Canon.ldS 4 (.pointer (some ⟨B14, 0, none⟩))) (.bool true) (by kernel_rfl) (by kernel_rfl) (Kw.ld_cell 4 0 (.bool true) (M16.get 0 rfl) (by kernel_rfl) _ Try.underlying4 rfl) ?_
      refine Kw.fin ?_
      refine Kw.then_normal ?_
      refine wp_cond_true (by kernel_rfl) ?_
      refine Kw.region ?_
      refine Kw.pure (.int .u64 (u (putI (putI (putI (putI 0#64 0 7 (cd k)) 12 3 (ff k)) 26 6 (ot k)) 20 6 (getI imm 0 6)))) (by kernel_rfl) (by kernel_rfl) ?_
      refine Kw.pure (.pointer (some ⟨B14, 1, none⟩)) (by kernel_rfl) (by kernel_rfl) ?_
      refine Kw.pureS (Canon.ldS 3 (.pointer (some ⟨B14, 1, none⟩))) (.int .i64 7) (by kernel_rfl) (by kernel_rfl) (Kw.ld_cell 3 1 (.int .i64 7) (M16.get 0 rfl) (by kernel_rfl) _ Try.underlying3 rfl) ?_
      refine Kw.pure (.pointer (some ⟨B14, 2, none⟩)) (by kernel_rfl) (by kernel_rfl) ?_
      refine Kw.pureS (Canon.ldS 3 (.pointer (some ⟨B14, 2, none⟩))) (.int .i64 (s rd)) (by kernel_rfl) (by kernel_rfl) (Kw.ld_cell 3 2 (.int .i64 (s rd)) (M16.get 0 rfl) (by kernel_rfl) _ Try.underlying3 rfl) ?_
      refine Kw.pure (.int .u64 (u rd)) (by kernel_rfl) (Kw.eqv (v := .int .u64 (IntKind.u64.wrap (s rd))) (by kernel_rfl) (congrArg (Value.int .u64) (wrap_s rd))) ?_
      refine Kw.call (.int .u64 (u (putI (putI (putI (putI (putI 0#64 0 7 (cd k)) 12 3 (ff k)) 26 6 (ot k)) 20 6 (getI imm 0 6)) 7 5 rd))) 48 #[.int .u64 (u (putI (putI (putI (putI 0#64 0 7 (cd k)) 12 3 (ff k)) 26 6 (ot k)) 20 6 (getI imm 0 6))), .int .i64 7, .int .i64 5, .int .u64 (u rd)] M16 (by kernel_rfl) (by kernel_rfl) (put_c (putI (putI (putI (putI 0#64 0 7 (cd k)) 12 3 (ff k)) 26 6 (ot k)) 20 6 (getI imm 0 6)) 7 5 rd w16) fun w18 M18 => ?_
      refine Kw.pure (.int .u64 (u (putI (putI (putI (putI (putI 0#64 0 7 (cd k)) 12 3 (ff k)) 26 6 (ot k)) 20 6 (getI imm 0 6)) 7 5 rd))) (by kernel_rfl) (by kernel_rfl) ?_
      refine Kw.fin ?_
      refine Kw.block_normal ?_
      refine Kw.then_normal ?_
      refine Kw.region ?_
      refine Kw.pureS (Canon.opS .add 3 (.tmp 62) (.const (.int .i64 1)) (.int .i64 0) (.int .i64 1)) (.int .i64 1) (by kernel_rfl) (by kernel_rfl) (by kernel_rfl) ?_
      refine Kw.pure (.int .i64 1) (by kernel_rfl) (by kernel_rfl) ?_
      refine Kw.fin ?_
      refine Kw.then_normal ?_
      refine Kw.round_succ ?_
      refine wp_seq ?_
      refine Kw.region ?_
      refine Kw.pureS (Canon.opS .lss 3 (.tmp 62) (.const (.int .i64 3)) (.int .i64 1) (.int .i64 3)) (.bool true) (by kernel_rfl) (by kernel_rfl) (by kernel_rfl) ?_
      refine Kw.fin ?_
      refine Kw.then_normal ?_
      refine wp_seq ?_
      refine wp_cond_true (by kernel_rfl) ?_
      refine wp_skip ?_
      refine Kw.then_normal ?_
      refine wp_seq ?_
      refine wp_block ?_
      refine wp_seq ?_
      refine Kw.region ?_
      refine Kw.pure (.agg #[.bool true, .int .i64 15, .int .i64 (s rs1)]) (by kernel_rfl) (by kernel_rfl) ?_
      refine Kw.alloc #[.bool false, .int .i64 0, .int .i64 0] 72 M18 (by kernel_rfl) (by kernel_rfl) fun w19 B19 M19 => ?_
      refine Kw.storeAll 0 72 #[.bool true, .int .i64 15, .int .i64 (s rs1)] M19 rfl (by kernel_rfl) (by kernel_rfl) (by kernel_rfl) (by kernel_rfl) (by kernel_rfl) fun w20 M20 => ?_
      refine Kw.fin ?_
      refine Kw.then_normal ?_
      refine wp_seq ?_
      refine wp_seq ?_
      refine Kw.region ?_
      refine Kw.pure (.pointer (some ⟨B19, 0, none⟩)) (by kernel_rfl) (by kernel_rfl) ?_
      refine Kw.pureS (Canon.ldS 4 (.pointer (some ⟨B19, 0, none⟩))) (.bool true) (by kernel_rfl) (by kernel_rfl) (Kw.ld_cell 4 0 (.bool true) (M20.get 0 rfl) (by kernel_rfl) _ Try.underlying4 rfl) ?_
      refine Kw.pure (.bool true) (by kernel_rfl) (by kernel_rfl) ?_
      refine Kw.pure (.pointer (some ⟨B19, 2, none⟩)) (by kernel_rfl) (by kernel_rfl) ?_
      refine Kw.pureS (Canon.ldS 3 (.pointer (some ⟨B19, 2, none⟩))) (.int .i64 (s rs1)) (by kernel_rfl) (by kernel_rfl) (Kw.ld_cell 3 2 (.int .i64 (s rs1)) (M20.get 0 rfl) (by kernel_rfl) _ Try.underlying3 rfl) ?_
      refine Kw.call (.bool F2) 47 #[.int .i64 (s rs1), .int .i64 5, .bool false] M20 (by kernel_rfl) (by kernel_rfl) (by have h := fits_c rs1 5 false w20; rw [g2] at h; exact h) fun w21 M21 => ?_
      refine Kw.pure (.bool (!F2)) (by kernel_rfl) (by kernel_rfl) ?_
      refine Kw.pure (.bool (!F2)) (by kernel_rfl) (by kernel_rfl) ?_
      refine Kw.fin ?_
      refine Kw.then_normal ?_
      refine wp_cond_split (t := (!F2)) (by kernel_rfl) (fun h22 => ?_) (fun h22 => ?_)
      · skip
        refine wp_seq ?_
        refine Kw.region ?_
        refine Kw.pure (.int .u32 0) (by kernel_rfl) (by kernel_rfl) ?_
        refine Kw.pure (.bool false) (by kernel_rfl) (by kernel_rfl) ?_
        refine Kw.fin ?_
        refine Kw.then_normal ?_
        refine wp_ret ?_
        refine Kw.then_ret ?_
        refine Kw.block_ret ?_
        refine Kw.then_ret ?_
        refine Kw.then_ret ?_
        refine Kw.block_ret ?_
        refine Kw.then_ret ?_
        exact bodyPost_ret (v := .tuple #[.int .u32 0, .bool false]) (by kernel_rfl) (by kernel_rfl) ⟨by simp_all [encR], M21.drop⟩
      · skip
        refine wp_skip ?_
        refine Kw.then_normal ?_
        refine wp_seq ?_
        refine Kw.region ?_
        refine Kw.pure (.pointer (some ⟨B19, 0, none⟩)) (by kernel_rfl) (by kernel_rfl) ?_
        refine Kw.pureS (Canon.ldS 4 (.pointer (some ⟨B19, 0, none⟩))) (.bool true) (by kernel_rfl) (by kernel_rfl) (Kw.ld_cell 4 0 (.bool true) (M21.get 0 rfl) (by kernel_rfl) _ Try.underlying4 rfl) ?_
        refine Kw.fin ?_
        refine Kw.then_normal ?_
        refine wp_cond_true (by kernel_rfl) ?_
        refine Kw.region ?_
        refine Kw.pure (.int .u64 (u (putI (putI (putI (putI (putI 0#64 0 7 (cd k)) 12 3 (ff k)) 26 6 (ot k)) 20 6 (getI imm 0 6)) 7 5 rd))) (by kernel_rfl) (by kernel_rfl) ?_
        refine Kw.pure (.pointer (some ⟨B19, 1, none⟩)) (by kernel_rfl) (by kernel_rfl) ?_
        refine Kw.pureS (Canon.ldS 3 (.pointer (some ⟨B19, 1, none⟩))) (.int .i64 15) (by kernel_rfl) (by kernel_rfl) (Kw.ld_cell 3 1 (.int .i64 15) (M21.get 0 rfl) (by kernel_rfl) _ Try.underlying3 rfl) ?_
        refine Kw.pure (.pointer (some ⟨B19, 2, none⟩)) (by kernel_rfl) (by kernel_rfl) ?_
        refine Kw.pureS (Canon.ldS 3 (.pointer (some ⟨B19, 2, none⟩))) (.int .i64 (s rs1)) (by kernel_rfl) (by kernel_rfl) (Kw.ld_cell 3 2 (.int .i64 (s rs1)) (M21.get 0 rfl) (by kernel_rfl) _ Try.underlying3 rfl) ?_
        refine Kw.pure (.int .u64 (u rs1)) (by kernel_rfl) (Kw.eqv (v := .int .u64 (IntKind.u64.wrap (s rs1))) (by kernel_rfl) (congrArg (Value.int .u64) (wrap_s rs1))) ?_
        refine Kw.call (.int .u64 (u (putI (putI (putI (putI (putI (putI 0#64 0 7 (cd k)) 12 3 (ff k)) 26 6 (ot k)) 20 6 (getI imm 0 6)) 7 5 rd) 15 5 rs1))) 48 #[.int .u64 (u (putI (putI (putI (putI (putI 0#64 0 7 (cd k)) 12 3 (ff k)) 26 6 (ot k)) 20 6 (getI imm 0 6)) 7 5 rd)), .int .i64 15, .int .i64 5, .int .u64 (u rs1)] M21 (by kernel_rfl) (by kernel_rfl) (put_c (putI (putI (putI (putI (putI 0#64 0 7 (cd k)) 12 3 (ff k)) 26 6 (ot k)) 20 6 (getI imm 0 6)) 7 5 rd) 15 5 rs1 w21) fun w23 M23 => ?_
        refine Kw.pure (.int .u64 (u (putI (putI (putI (putI (putI (putI 0#64 0 7 (cd k)) 12 3 (ff k)) 26 6 (ot k)) 20 6 (getI imm 0 6)) 7 5 rd) 15 5 rs1))) (by kernel_rfl) (by kernel_rfl) ?_
        refine Kw.fin ?_
        refine Kw.block_normal ?_
        refine Kw.then_normal ?_
        refine Kw.region ?_
        refine Kw.pureS (Canon.opS .add 3 (.tmp 62) (.const (.int .i64 1)) (.int .i64 1) (.int .i64 1)) (.int .i64 2) (by kernel_rfl) (by kernel_rfl) (by kernel_rfl) ?_
        refine Kw.pure (.int .i64 2) (by kernel_rfl) (by kernel_rfl) ?_
        refine Kw.fin ?_
        refine Kw.then_normal ?_
        refine Kw.round_succ ?_
        refine wp_seq ?_
        refine Kw.region ?_
        refine Kw.pureS (Canon.opS .lss 3 (.tmp 62) (.const (.int .i64 3)) (.int .i64 2) (.int .i64 3)) (.bool true) (by kernel_rfl) (by kernel_rfl) (by kernel_rfl) ?_
        refine Kw.fin ?_
        refine Kw.then_normal ?_
        refine wp_seq ?_
        refine wp_cond_true (by kernel_rfl) ?_
        refine wp_skip ?_
        refine Kw.then_normal ?_
        refine wp_seq ?_
        refine wp_block ?_
        refine wp_seq ?_
        refine Kw.region ?_
        refine Kw.pure (.agg #[.bool false, .int .i64 20, .int .i64 (s rs2)]) (by kernel_rfl) (by kernel_rfl) ?_
        refine Kw.alloc #[.bool false, .int .i64 0, .int .i64 0] 72 M23 (by kernel_rfl) (by kernel_rfl) fun w24 B24 M24 => ?_
        refine Kw.storeAll 0 72 #[.bool false, .int .i64 20, .int .i64 (s rs2)] M24 rfl (by kernel_rfl) (by kernel_rfl) (by kernel_rfl) (by kernel_rfl) (by kernel_rfl) fun w25 M25 => ?_
        refine Kw.fin ?_
        refine Kw.then_normal ?_
        refine wp_seq ?_
        refine wp_seq ?_
        refine Kw.region ?_
        refine Kw.pure (.pointer (some ⟨B24, 0, none⟩)) (by kernel_rfl) (by kernel_rfl) ?_
        refine Kw.pureS (Canon.ldS 4 (.pointer (some ⟨B24, 0, none⟩))) (.bool false) (by kernel_rfl) (by kernel_rfl) (Kw.ld_cell 4 0 (.bool false) (M25.get 0 rfl) (by kernel_rfl) _ Try.underlying4 rfl) ?_
        refine Kw.pure (.bool false) (by kernel_rfl) (by kernel_rfl) ?_
        refine Kw.skip (by kernel_rfl) ?_
        refine Kw.skip (by kernel_rfl) ?_
        refine Kw.skip (by kernel_rfl) ?_
        refine Kw.skip (by kernel_rfl) ?_
        refine Kw.pure (.bool false) (by kernel_rfl) (by kernel_rfl) ?_
        refine Kw.fin ?_
        refine Kw.then_normal ?_
        refine wp_cond_false (by kernel_rfl) ?_
        refine wp_skip ?_
        refine Kw.then_normal ?_
        refine wp_seq ?_
        refine Kw.region ?_
        refine Kw.pure (.pointer (some ⟨B24, 0, none⟩)) (by kernel_rfl) (by kernel_rfl) ?_
        refine Kw.pureS (Canon.ldS 4 (.pointer (some ⟨B24, 0, none⟩))) (.bool false) (by kernel_rfl) (by kernel_rfl) (Kw.ld_cell 4 0 (.bool false) (M25.get 0 rfl) (by kernel_rfl) _ Try.underlying4 rfl) ?_
        refine Kw.fin ?_
        refine Kw.then_normal ?_
        refine wp_cond_false (by kernel_rfl) ?_
        refine wp_skip ?_
        refine Kw.block_normal ?_
        refine Kw.then_normal ?_
        refine Kw.region ?_
        refine Kw.pureS (Canon.opS .add 3 (.tmp 62) (.const (.int .i64 1)) (.int .i64 2) (.int .i64 1)) (.int .i64 3) (by kernel_rfl) (by kernel_rfl) (by kernel_rfl) ?_
        refine Kw.pure (.int .i64 3) (by kernel_rfl) (by kernel_rfl) ?_
        refine Kw.fin ?_
        refine Kw.then_normal ?_
        refine Kw.round_succ ?_
        refine wp_seq ?_
        refine Kw.region ?_
        refine Kw.pureS (Canon.opS .lss 3 (.tmp 62) (.const (.int .i64 3)) (.int .i64 3) (.int .i64 3)) (.bool false) (by kernel_rfl) (by kernel_rfl) (by kernel_rfl) ?_
        refine Kw.fin ?_
        refine Kw.then_normal ?_
        refine wp_seq ?_
        refine wp_cond_false (by kernel_rfl) ?_
        refine wp_exit ?_
        refine Kw.then_exit ?_
        refine Kw.then_exit ?_
        refine Kw.block_hit ?_
        refine Kw.then_normal ?_
        refine wp_seq ?_
        refine Kw.region ?_
        refine Kw.pure (.int .u64 (u (putI (putI (putI (putI (putI (putI 0#64 0 7 (cd k)) 12 3 (ff k)) 26 6 (ot k)) 20 6 (getI imm 0 6)) 7 5 rd) 15 5 rs1))) (by kernel_rfl) (by kernel_rfl) ?_
        refine Kw.pure (.int .u32 (u ((putI (putI (putI (putI (putI (putI 0#64 0 7 (cd k)) 12 3 (ff k)) 26 6 (ot k)) 20 6 (getI imm 0 6)) 7 5 rd) 15 5 rs1) &&& 4294967295#64))) (by kernel_rfl) (Kw.eqv (v := .int .u32 (IntKind.u32.wrap (u (putI (putI (putI (putI (putI (putI 0#64 0 7 (cd k)) 12 3 (ff k)) 26 6 (ot k)) 20 6 (getI imm 0 6)) 7 5 rd) 15 5 rs1)))) (by kernel_rfl) (congrArg (Value.int .u32) (wrap32_u (putI (putI (putI (putI (putI (putI 0#64 0 7 (cd k)) 12 3 (ff k)) 26 6 (ot k)) 20 6 (getI imm 0 6)) 7 5 rd) 15 5 rs1)))) ?_
        refine Kw.pure (.int .u32 (u ((putI (putI (putI (putI (putI (putI 0#64 0 7 (cd k)) 12 3 (ff k)) 26 6 (ot k)) 20 6 (getI imm 0 6)) 7 5 rd) 15 5 rs1) &&& 4294967295#64))) (by kernel_rfl) (by kernel_rfl) ?_
        refine Kw.pure (.bool true) (by kernel_rfl) (by kernel_rfl) ?_
        refine Kw.fin ?_
        refine Kw.then_normal ?_
        refine wp_ret ?_
        exact bodyPost_ret (v := .tuple #[.int .u32 (u ((putI (putI (putI (putI (putI (putI 0#64 0 7 (cd k)) 12 3 (ff k)) 26 6 (ot k)) 20 6 (getI imm 0 6)) 7 5 rd) 15 5 rs1) &&& 4294967295#64)), .bool true]) (by kernel_rfl) (by kernel_rfl) ⟨by simp_all [encR], M25.drop⟩
def word_S (k : Nat) (rd rs1 rs2 imm : BitVec 64) : BitVec 64 := (putI (putI (putI (putI (putI (putI 0#64 0 7 (cd k)) 12 3 (ff k)) 7 5 (getI imm 0 5)) 25 7 (getI imm 5 7)) 15 5 rs1) 20 5 rs2)
set_option maxRecDepth 100000 in
set_option maxHeartbeats 1000000 in
theorem enc_S (k : Nat) (hk : k < 69) (hs : sh k = 83) (rd rs1 rs2 imm : BitVec 64) (F0 : Bool) (h0 : fitB_S imm = F0) (F1 : Bool) (g1 : fitsI rs1 5 false = F1) (F2 : Bool) (g2 : fitsI rs2 5 false = F2) (W : World) : Calls Try.prog 25 #[.agg #[.int .i64 ((k + 1 : Nat) : Int), .int .i64 (s rd), .int .i64 (s rs1), .int .i64 (s rs2), .int .i64 (s imm)]] W fun e W' => e = .returned (encR (F0 && F1 && F2) (word_S k rd rs1 rs2 imm)) ∧ Kw.Mem [] W W' [] := by
  unfold word_S
  refine calls_of_wp Try.func25 rfl ?_
  have M0 : Kw.Mem [] W W [] := Kw.Mem.start _ _
  refine Kw.to (b := ⟨#[.agg #[.int .i64 ((k + 1 : Nat) : Int), .int .i64 (s rd), .int .i64 (s rs1), .int .i64 (s rs2), .int .i64 (s imm)], undef, undef, undef, undef, undef, undef, undef, undef, undef, undef, undef, undef, undef, undef, undef, undef, undef, undef, undef, undef, undef, undef, undef, undef, undef, undef, undef, undef, undef, undef, undef, undef, undef, undef, undef, undef, undef, undef, undef, undef, undef, undef, undef, undef, undef, undef, undef, undef, undef, undef, undef, undef, undef, undef, undef, undef, undef, undef, undef, undef, undef, undef, undef, undef, undef, undef, undef, undef, undef, undef, undef, undef, undef, undef, undef, undef, undef, undef, undef, undef, undef, undef, undef, undef], []⟩) (by kernel_rfl) ?_
  refine wp_seq ?_
  refine Kw.region ?_
  refine Kw.alloc #[.int .i64 ((k + 1 : Nat) : Int), .int .i64 (s rd), .int .i64 (s rs1), .int .i64 (s rs2), .int .i64 (s imm)] 36 M0 (by kernel_rfl) (by kernel_rfl) fun w1 B1 M1 => ?_
  refine Kw.pure (.int .u32 0) (by kernel_rfl) (by kernel_rfl) ?_
  refine Kw.pure (.bool false) (by kernel_rfl) (by kernel_rfl) ?_
  refine Kw.fin ?_
  refine Kw.then_normal ?_
  refine wp_seq ?_
  refine Kw.region ?_
  refine Kw.pure (.pointer (some ⟨B1, 0, none⟩)) (by kernel_rfl) (by kernel_rfl) ?_
  refine Kw.pureS (Canon.ldS 3 (.pointer (some ⟨B1, 0, none⟩))) (.int .i64 ((k + 1 : Nat) : Int)) (by kernel_rfl) (by kernel_rfl) (Kw.ld_cell 3 0 (.int .i64 ((k + 1 : Nat) : Int)) (M1.get 0 rfl) (by kernel_rfl) _ Try.underlying3 rfl) ?_
  refine Kw.call (.tuple #[.agg #[.string (nm k), .int .u8 83, .int .u64 (u (cd k)), .int .u64 (u (ff k)), .int .u64 (u (ot k))], .bool true]) 41 #[.int .i64 ((k + 1 : Nat) : Int)] M1 (by kernel_rfl) (by kernel_rfl) (of_sh 83 k hk hs w1) fun w2 M2 => ?_
  refine Kw.pure (.tuple #[.agg #[.string (nm k), .int .u8 83, .int .u64 (u (cd k)), .int .u64 (u (ff k)), .int .u64 (u (ot k))], .bool true]) (by kernel_rfl) (by kernel_rfl) ?_
  refine Kw.pure (.agg #[.string (nm k), .int .u8 83, .int .u64 (u (cd k)), .int .u64 (u (ff k)), .int .u64 (u (ot k))]) (by kernel_rfl) (by kernel_rfl) ?_
  refine Kw.pure (.bool true) (by kernel_rfl) (by kernel_rfl) ?_
  refine Kw.alloc #[.string ⟨#[]⟩, .int .u8 0, .int .u64 0, .int .u64 0, .int .u64 0] 59 M2 (by kernel_rfl) (by kernel_rfl) fun w3 B3 M3 => ?_
  refine Kw.storeAll 0 59 #[.string (nm k), .int .u8 83, .int .u64 (u (cd k)), .int .u64 (u (ff k)), .int .u64 (u (ot k))] M3 rfl (by kernel_rfl) (by kernel_rfl) (by kernel_rfl) (by kernel_rfl) (by kernel_rfl) fun w4 M4 => ?_
  refine Kw.pure (.bool true) (by kernel_rfl) (by kernel_rfl) ?_
  refine Kw.fin ?_
  refine Kw.then_normal ?_
  refine wp_seq ?_
  refine wp_seq ?_
  refine Held.start (fun w => Kw.Mem [] W w [(B3, #[.string (nm k), .int .u8 83, .int .u64 (u (cd k)), .int .u64 (u (ff k)), .int .u64 (u (ot k))], 59), (B1, #[.int .i64 ((k + 1 : Nat) : Int), .int .i64 (s rd), .int .i64 (s rs1), .int .i64 (s rs2), .int .i64 (s imm)], 36)]) (by kernel_rfl) ?_
  have M5 := M4.drew
  have MS := M5
  refine Held.takeP 0 (.bool true) rfl (by decide +kernel) (by decide +kernel) (by decide +kernel) (by kernel_rfl) (fun w => by kernel_rfl) MS ?_
  refine Held.takeP 1 (.bool false) rfl (by decide +kernel) (by decide +kernel) (by decide +kernel) (by kernel_rfl) (fun w => by kernel_rfl) MS ?_
  refine Held.takeP 2 (.bool false) rfl (by decide +kernel) (by decide +kernel) (by decide +kernel) (by kernel_rfl) (fun w => by kernel_rfl) MS ?_
  refine Held.takeP 3 (.pointer (some ⟨B3, 1, none⟩)) rfl (by decide +kernel) (by decide +kernel) (by decide +kernel) (by kernel_rfl) (fun w => by kernel_rfl) MS ?_
  refine Held.take 4 (Canon.ldS 5 (.pointer (some ⟨B3, 1, none⟩))) (.int .u8 83) rfl (by decide +kernel) (by decide +kernel) (by decide +kernel) (by kernel_rfl) (by kernel_rfl) (fun w hw => Kw.ld_cell 5 1 (.int .u8 83) (hw.get 0 rfl) (by kernel_rfl) _ Try.underlying5 rfl) MS ?_
  refine Held.takeP 6 (.pointer (some ⟨B1, 4, none⟩)) rfl (by decide +kernel) (by decide +kernel) (by decide +kernel) (by kernel_rfl) (fun w => by kernel_rfl) MS ?_
  refine Held.take 7 (Canon.ldS 2 (.pointer (some ⟨B1, 4, none⟩))) (.int .i64 (s imm)) rfl (by decide +kernel) (by decide +kernel) (by decide +kernel) (by kernel_rfl) (by kernel_rfl) (fun w hw => Kw.ld_cell 2 4 (.int .i64 (s imm)) (hw.get 1 rfl) (by kernel_rfl) _ Try.underlying2 rfl) MS ?_
  refine Held.oneCall (ι := Nat) 5 (fun B => (.agg #[.slice (some ⟨B, 0, none⟩) 2 2, .int .i64 12, .bool true, .int .i64 0])) 42 #[.int .u8 83] (R := fun B w1 => Kw.Mem [] (w4.drew) w1 [(B, #[.int .i64 0, .int .i64 5, .int .i64 7, .int .i64 5, .int .i64 7, .int .i64 25], 89)]) rfl (by decide +kernel) (by kernel_rfl) (by kernel_rfl) (laid_S (w4.drew)) fun B6 w6 hc => ?_
  have M6 := Held.mem_new M5 hc
  clear hc
  refine ⟨(Held.mem_tail M6), ?_⟩
  have MS := (Held.mem_tail M6)
  refine Held.oneCall (ι := Unit) 8 (fun _ => (.bool F0)) 43 #[.agg #[.slice (some ⟨B6, 0, none⟩) 2 2, .int .i64 12, .bool true, .int .i64 0], .int .i64 (s imm)] (R := fun _ w1 => Kw.Mem [] w6 w1 []) rfl (by decide +kernel) (by kernel_rfl) (by kernel_rfl) (Held.unit (by have h := fit_S imm w6 B6 (Held.mem_of M6 0 rfl); rw [h0] at h; exact h)) fun _ w7 hc => ?_
  have M7 := M6.call hc
  clear hc
  refine ⟨(Held.mem_tail M7), ?_⟩
  have MS := (Held.mem_tail M7)
  refine Held.takeP 9 (.bool (!F0)) rfl (by decide +kernel) (by decide +kernel) (by decide +kernel) (by kernel_rfl) (fun w => by kernel_rfl) MS ?_
  refine Held.takeP 10 (.bool (!F0)) rfl (by decide +kernel) (by decide +kernel) (by decide +kernel) (by kernel_rfl) (fun w => by kernel_rfl) MS ?_
  refine Held.done (by decide +kernel) ?_
  refine Kw.then_normal ?_
  refine wp_cond_split (t := (!F0)) (by kernel_rfl) (fun h8 => ?_) (fun h8 => ?_)
  · skip
    refine wp_seq ?_
    refine Kw.region ?_
    refine Kw.pure (.int .u32 0) (by kernel_rfl) (by kernel_rfl) ?_
    refine Kw.pure (.bool false) (by kernel_rfl) (by kernel_rfl) ?_
    refine Kw.fin ?_
    refine Kw.then_normal ?_
    refine wp_ret ?_
    refine Kw.then_ret ?_
    exact bodyPost_ret (v := .tuple #[.int .u32 0, .bool false]) (by kernel_rfl) (by kernel_rfl) ⟨by simp_all [encR], M7.drop⟩
  · skip
    refine wp_skip ?_
    refine Kw.then_normal ?_
    refine wp_seq ?_
    refine Kw.region ?_
    refine Kw.pureS (Canon.ldS 59 (.pointer (some ⟨B3, 0, none⟩))) (.agg #[.string (nm k), .int .u8 83, .int .u64 (u (cd k)), .int .u64 (u (ff k)), .int .u64 (u (ot k))]) (by kernel_rfl) (by kernel_rfl) (Kw.ld_all 59 (M7.get 1 rfl) _ Try.underlying59 rfl (by kernel_rfl)) ?_
    refine Kw.call (.tuple #[.int .u64 (u (putI (putI 0#64 0 7 (cd k)) 12 3 (ff k))), .int .u64 (u (putI (putI 0#64 0 7 18446744073709551615#64) 12 3 18446744073709551615#64))]) 44 #[.agg #[.string (nm k), .int .u8 83, .int .u64 (u (cd k)), .int .u64 (u (ff k)), .int .u64 (u (ot k))]] M7 (by kernel_rfl) (by kernel_rfl) (fixed_S (nm k) (cd k) (ff k) (ot k) w7) fun w9 M9 => ?_
    refine Kw.pure (.tuple #[.int .u64 (u (putI (putI 0#64 0 7 (cd k)) 12 3 (ff k))), .int .u64 (u (putI (putI 0#64 0 7 18446744073709551615#64) 12 3 18446744073709551615#64))]) (by kernel_rfl) (by kernel_rfl) ?_
    refine Kw.pure (.int .u64 (u (putI (putI 0#64 0 7 (cd k)) 12 3 (ff k)))) (by kernel_rfl) (by kernel_rfl) ?_
    refine Kw.pure (.int .u64 (u (putI (putI 0#64 0 7 18446744073709551615#64) 12 3 18446744073709551615#64))) (by kernel_rfl) (by kernel_rfl) ?_
    refine Kw.pure (.int .u64 (u (putI (putI 0#64 0 7 (cd k)) 12 3 (ff k)))) (by kernel_rfl) (by kernel_rfl) ?_
    refine Kw.pure (.int .u64 (u (putI (putI 0#64 0 7 18446744073709551615#64) 12 3 18446744073709551615#64))) (by kernel_rfl) (by kernel_rfl) ?_
    refine Kw.fin ?_
    refine Kw.then_normal ?_
    refine wp_seq ?_
    refine Kw.region ?_
    refine Kw.pure (.pointer (some ⟨B3, 1, none⟩)) (by kernel_rfl) (by kernel_rfl) ?_
    refine Kw.pureS (Canon.ldS 5 (.pointer (some ⟨B3, 1, none⟩))) (.int .u8 83) (by kernel_rfl) (by kernel_rfl) (Kw.ld_cell 5 1 (.int .u8 83) (M9.get 1 rfl) (by kernel_rfl) _ Try.underlying5 rfl) ?_
    refine Kw.call (.tuple #[.bool false, .bool true, .bool true]) 45 #[.int .u8 83] M9 (by kernel_rfl) (by kernel_rfl) (has_S w9) fun w10 M10 => ?_
    refine Kw.pure (.tuple #[.bool false, .bool true, .bool true]) (by kernel_rfl) (by kernel_rfl) ?_
    refine Kw.pure (.bool false) (by kernel_rfl) (by kernel_rfl) ?_
    refine Kw.pure (.bool true) (by kernel_rfl) (by kernel_rfl) ?_
    refine Kw.pure (.bool true) (by kernel_rfl) (by kernel_rfl) ?_
    refine Kw.pure (.bool false) (by kernel_rfl) (by kernel_rfl) ?_
    refine Kw.pure (.bool true) (by kernel_rfl) (by kernel_rfl) ?_
    refine Kw.pure (.bool true) (by kernel_rfl) (by kernel_rfl) ?_
    refine Kw.fin ?_
    refine Kw.then_normal ?_
    refine wp_seq ?_
    refine Held.start (fun w => Kw.Mem [] W w [(B6, #[.int .i64 0, .int .i64 5, .int .i64 7, .int .i64 5, .int .i64 7, .int .i64 25], 89), (B3, #[.string (nm k), .int .u8 83, .int .u64 (u (cd k)), .int .u64 (u (ff k)), .int .u64 (u (ot k))], 59), (B1, #[.int .i64 ((k + 1 : Nat) : Int), .int .i64 (s rd), .int .i64 (s rs1), .int .i64 (s rs2), .int .i64 (s imm)], 36)]) (by kernel_rfl) ?_
    have M11 := M10.drew
    have MS := M11
    refine Held.takeP 0 (.pointer (some ⟨B3, 1, none⟩)) rfl (by decide +kernel) (by decide +kernel) (by decide +kernel) (by kernel_rfl) (fun w => by kernel_rfl) MS ?_
    refine Held.take 1 (Canon.ldS 5 (.pointer (some ⟨B3, 1, none⟩))) (.int .u8 83) rfl (by decide +kernel) (by decide +kernel) (by decide +kernel) (by kernel_rfl) (by kernel_rfl) (fun w hw => Kw.ld_cell 5 1 (.int .u8 83) (hw.get 1 rfl) (by kernel_rfl) _ Try.underlying5 rfl) MS ?_
    refine Held.takeP 3 (.int .u64 (u (putI (putI 0#64 0 7 (cd k)) 12 3 (ff k)))) rfl (by decide +kernel) (by decide +kernel) (by decide +kernel) (by kernel_rfl) (fun w => by kernel_rfl) MS ?_
    refine Held.takeP 4 (.pointer (some ⟨B1, 4, none⟩)) rfl (by decide +kernel) (by decide +kernel) (by decide +kernel) (by kernel_rfl) (fun w => by kernel_rfl) MS ?_
    refine Held.take 5 (Canon.ldS 2 (.pointer (some ⟨B1, 4, none⟩))) (.int .i64 (s imm)) rfl (by decide +kernel) (by decide +kernel) (by decide +kernel) (by kernel_rfl) (by kernel_rfl) (fun w hw => Kw.ld_cell 2 4 (.int .i64 (s imm)) (hw.get 2 rfl) (by kernel_rfl) _ Try.underlying2 rfl) MS ?_
    refine Held.oneCall (ι := Nat) 2 (fun B => (.agg #[.slice (some ⟨B, 0, none⟩) 2 2, .int .i64 12, .bool true, .int .i64 0])) 42 #[.int .u8 83] (R := fun B w1 => Kw.Mem [] (w10.drew) w1 [(B, #[.int .i64 0, .int .i64 5, .int .i64 7, .int .i64 5, .int .i64 7, .int .i64 25], 89)]) rfl (by decide +kernel) (by kernel_rfl) (by kernel_rfl) (laid_S (w10.drew)) fun B12 w12 hc => ?_
    have M12 := Held.mem_new M11 hc
    clear hc
    refine ⟨(Held.mem_tail M12), ?_⟩
    have MS := (Held.mem_tail M12)
    refine Held.oneCall (ι := Unit) 6 (fun _ => (.int .u64 (u (putI (putI (putI (putI 0#64 0 7 (cd k)) 12 3 (ff k)) 7 5 (getI imm 0 5)) 25 7 (getI imm 5 7))))) 46 #[.agg #[.slice (some ⟨B12, 0, none⟩) 2 2, .int .i64 12, .bool true, .int .i64 0], .int .u64 (u (putI (putI 0#64 0 7 (cd k)) 12 3 (ff k))), .int .i64 (s imm)] (R := fun _ w1 => Kw.Mem [] w12 w1 []) rfl (by decide +kernel) (by kernel_rfl) (by kernel_rfl) (Held.unit (lay_S (putI (putI 0#64 0 7 (cd k)) 12 3 (ff k)) imm w12 B12 (Held.mem_of M12 0 rfl))) fun _ w13 hc => ?_
    have M13 := M12.call hc
    clear hc
    refine ⟨(Held.mem_tail M13), ?_⟩
    have MS := (Held.mem_tail M13)
    refine Held.takeP 7 (.int .u64 (u (putI (putI (putI (putI 0#64 0 7 (cd k)) 12 3 (ff k)) 7 5 (getI imm 0 5)) 25 7 (getI imm 5 7)))) rfl (by decide +kernel) (by decide +kernel) (by decide +kernel) (by kernel_rfl) (fun w => by kernel_rfl) MS ?_
    refine Held.done (by decide +kernel) ?_
    refine Kw.then_normal ?_
    refine wp_seq ?_
    refine wp_seq ?_
    refine Kw.region ?_
    refine Kw.pure (.bool false) (by kernel_rfl) (by kernel_rfl) ?_
    refine Kw.pure (.pointer (some ⟨B1, 1, none⟩)) (by kernel_rfl) (by kernel_rfl) ?_
    refine Kw.pureS (Canon.ldS 3 (.pointer (some ⟨B1, 1, none⟩))) (.int .i64 (s rd)) (by kernel_rfl) (by kernel_rfl) (Kw.ld_cell 3 1 (.int .i64 (s rd)) (M13.get 3 rfl) (by kernel_rfl) _ Try.underlying3 rfl) ?_
    refine Kw.pure (.agg #[.bool false, .int .i64 7, .int .i64 (s rd)]) (by kernel_rfl) (by kernel_rfl) ?_
    refine Kw.pure (.bool true) (by kernel_rfl) (by kernel_rfl) ?_
    refine Kw.pure (.pointer (some ⟨B1, 2, none⟩)) (by kernel_rfl) (by kernel_rfl) ?_
    refine Kw.pureS (Canon.ldS 3 (.pointer (some ⟨B1, 2, none⟩))) (.int .i64 (s rs1)) (by kernel_rfl) (by kernel_rfl) (Kw.ld_cell 3 2 (.int .i64 (s rs1)) (M13.get 3 rfl) (by kernel_rfl) _ Try.underlying3 rfl) ?_
    refine Kw.pure (.agg #[.bool true, .int .i64 15, .int .i64 (s rs1)]) (by kernel_rfl) (by kernel_rfl) ?_
    refine Kw.pure (.bool true) (by kernel_rfl) (by kernel_rfl) ?_
    refine Kw.pure (.pointer (some ⟨B1, 3, none⟩)) (by kernel_rfl) (by kernel_rfl) ?_
    refine Kw.pureS (Canon.ldS 3 (.pointer (some ⟨B1, 3, none⟩))) (.int .i64 (s rs2)) (by kernel_rfl) (by kernel_rfl) (Kw.ld_cell 3 3 (.int .i64 (s rs2)) (M13.get 3 rfl) (by kernel_rfl) _ Try.underlying3 rfl) ?_
    refine Kw.pure (.agg #[.bool true, .int .i64 20, .int .i64 (s rs2)]) (by kernel_rfl) (by kernel_rfl) ?_
    refine Kw.pure (.agg #[.bool false, .int .i64 7, .int .i64 (s rd), .bool true, .int .i64 15, .int .i64 (s rs1), .bool true, .int .i64 20, .int .i64 (s rs2)]) (by kernel_rfl) (by kernel_rfl) ?_
    refine Kw.pure (.int .i64 0) (by kernel_rfl) (by kernel_rfl) ?_
    refine Kw.fin ?_
    refine Kw.then_normal ?_
    refine wp_block ?_
    refine wp_loop_rounds 4 ?_
    refine Kw.round_succ ?_
    refine wp_seq ?_
    refine Kw.region ?_
    refine Kw.pureS (Canon.opS .lss 3 (.tmp 62) (.const (.int .i64 3)) (.int .i64 0) (.int .i64 3)) (.bool true) (by kernel_rfl) (by kernel_rfl) (by kernel_rfl) ?_
    refine Kw.fin ?_
    refine Kw.then_normal ?_
    refine wp_seq ?_
    refine wp_cond_true (by kernel_rfl) ?_
    refine wp_skip ?_
    refine Kw.then_normal ?_
    refine wp_seq ?_
    refine wp_block ?_
    refine wp_seq ?_
    refine Kw.region ?_
    refine Kw.pure (.agg #[.bool false, .int .i64 7, .int .i64 (s rd)]) (by kernel_rfl) (by kernel_rfl) ?_
    refine Kw.alloc #[.bool false, .int .i64 0, .int .i64 0] 72 M13 (by kernel_rfl) (by kernel_rfl) fun w14 B14 M14 => ?_
    refine Kw.storeAll 0 72 #[.bool false, .int .i64 7, .int .i64 (s rd)] M14 rfl (by kernel_rfl) (by kernel_rfl) (by kernel_rfl) (by kernel_rfl) (by kernel_rfl) fun w15 M15 => ?_
    refine Kw.fin ?_
    refine Kw.then_normal ?_
    refine wp_seq ?_
    refine wp_seq ?_
    refine Kw.region ?_
    refine Kw.pure (.pointer (some ⟨B14, 0, none⟩)) (by kernel_rfl) (by kernel_rfl) ?_
    refine Kw.pureS (Canon.ldS 4 (.pointer (some ⟨B14, 0, none⟩))) (.bool false) (by kernel_rfl) (by kernel_rfl) (Kw.ld_cell 4 0 (.bool false) (M15.get 0 rfl) (by kernel_rfl) _ Try.underlying4 rfl) ?_
    refine Kw.pure (.bool false) (by kernel_rfl) (by kernel_rfl) ?_
    refine Kw.skip (by kernel_rfl) ?_
    refine Kw.skip (by kernel_rfl) ?_
    refine Kw.skip (by kernel_rfl) ?_
    refine Kw.skip (by kernel_rfl) ?_
    refine Kw.pure (.bool false) (by kernel_rfl) (by kernel_rfl) ?_
    refine Kw.fin ?_
    refine Kw.then_normal ?_
    refine wp_cond_false (by kernel_rfl) ?_
    refine wp_skip ?_
    refine Kw.then_normal ?_
    refine wp_seq ?_
    refine Kw.region ?_
    refine Kw.pure (.pointer (some ⟨B14, 0, none⟩)) (by kernel_rfl) (by kernel_rfl) ?_
    refine Kw.pureS (Canon.ldS 4 (.pointer (some ⟨B14, 0, none⟩))) (.bool false) (by kernel_rfl) (by kernel_rfl) (Kw.ld_cell 4 0 (.bool false) (M15.get 0 rfl) (by kernel_rfl) _ Try.underlying4 rfl) ?_
    refine Kw.fin ?_
    refine Kw.then_normal ?_
    refine wp_cond_false (by kernel_rfl) ?_
    refine wp_skip ?_
    refine Kw.block_normal ?_
    refine Kw.then_normal ?_
    refine Kw.region ?_
    refine Kw.pureS (Canon.opS .add 3 (.tmp 62) (.const (.int .i64 1)) (.int .i64 0) (.int .i64 1)) (.int .i64 1) (by kernel_rfl) (by kernel_rfl) (by kernel_rfl) ?_
    refine Kw.pure (.int .i64 1) (by kernel_rfl) (by kernel_rfl) ?_
    refine Kw.fin ?_
    refine Kw.then_normal ?_
    refine Kw.round_succ ?_
    refine wp_seq ?_
    refine Kw.region ?_
    refine Kw.pureS (Canon.opS .lss 3 (.tmp 62) (.const (.int .i64 3)) (.int .i64 1) (.int .i64 3)) (.bool true) (by kernel_rfl) (by kernel_rfl) (by kernel_rfl) ?_
    refine Kw.fin ?_
    refine Kw.then_normal ?_
    refine wp_seq ?_
    refine wp_cond_true (by kernel_rfl) ?_
    refine wp_skip ?_
    refine Kw.then_normal ?_
    refine wp_seq ?_
    refine wp_block ?_
    refine wp_seq ?_
    refine Kw.region ?_
    refine Kw.pure (.agg #[.bool true, .int .i64 15, .int .i64 (s rs1)]) (by kernel_rfl) (by kernel_rfl) ?_
    refine Kw.alloc #[.bool false, .int .i64 0, .int .i64 0] 72 M15 (by kernel_rfl) (by kernel_rfl) fun w16 B16 M16 => ?_
    refine Kw.storeAll 0 72 #[.bool true, .int .i64 15, .int .i64 (s rs1)] M16 rfl (by kernel_rfl) (by kernel_rfl) (by kernel_rfl) (by kernel_rfl) (by kernel_rfl) fun w17 M17 => ?_
    refine Kw.fin ?_
    refine Kw.then_normal ?_
    refine wp_seq ?_
    refine wp_seq ?_
    refine Kw.region ?_
    refine Kw.pure (.pointer (some ⟨B16, 0, none⟩)) (by kernel_rfl) (by kernel_rfl) ?_
    refine Kw.pureS (Canon.ldS 4 (.pointer (some ⟨B16, 0, none⟩))) (.bool true) (by kernel_rfl) (by kernel_rfl) (Kw.ld_cell 4 0 (.bool true) (M17.get 0 rfl) (by kernel_rfl) _ Try.underlying4 rfl) ?_
    refine Kw.pure (.bool true) (by kernel_rfl) (by kernel_rfl) ?_
    refine Kw.pure (.pointer (some ⟨B16, 2, none⟩)) (by kernel_rfl) (by kernel_rfl) ?_
    refine Kw.pureS (Canon.ldS 3 (.pointer (some ⟨B16, 2, none⟩))) (.int .i64 (s rs1)) (by kernel_rfl) (by kernel_rfl) (Kw.ld_cell 3 2 (.int .i64 (s rs1)) (M17.get 0 rfl) (by kernel_rfl) _ Try.underlying3 rfl) ?_
    refine Kw.call (.bool F1) 47 #[.int .i64 (s rs1), .int .i64 5, .bool false] M17 (by kernel_rfl) (by kernel_rfl) (by have h := fits_c rs1 5 false w17; rw [g1] at h; exact h) fun w18 M18 => ?_
    refine Kw.pure (.bool (!F1)) (by kernel_rfl) (by kernel_rfl) ?_
    refine Kw.pure (.bool (!F1)) (by kernel_rfl) (by kernel_rfl) ?_
    refine Kw.fin ?_
    refine Kw.then_normal ?_
    refine wp_cond_split (t := (!F1)) (by kernel_rfl) (fun h19 => ?_) (fun h19 => ?_)
    · skip
      refine wp_seq ?_
      refine Kw.region ?_
      refine Kw.pure (.int .u32 0) (by kernel_rfl) (by kernel_rfl) ?_
      refine Kw.pure (.bool false) (by kernel_rfl) (by kernel_rfl) ?_
      refine Kw.fin ?_
      refine Kw.then_normal ?_
      refine wp_ret ?_
      refine Kw.then_ret ?_
      refine Kw.block_ret ?_
      refine Kw.then_ret ?_
      refine Kw.then_ret ?_
      refine Kw.block_ret ?_
      refine Kw.then_ret ?_
      exact bodyPost_ret (v := .tuple #[.int .u32 0, .bool false]) (by kernel_rfl) (by kernel_rfl) ⟨by simp_all [encR], M18.drop⟩
    · skip
      refine wp_skip ?_
      refine Kw.then_normal ?_
      refine wp_seq ?_
      refine Kw.region ?_
      refine Kw.pure (.pointer (some ⟨B16, 0, none⟩)) (by kernel_rfl) (by kernel_rfl) ?_
      refine Kw.pureS (Canon.ldS 4 (.pointer (some ⟨B16, 0, none⟩))) (.bool true) (by kernel_rfl) (by kernel_rfl) (Kw.ld_cell 4 0 (.bool true) (M18.get 0 rfl) (by kernel_rfl) _ Try.underlying4 rfl) ?_
      refine Kw.fin ?_
      refine Kw.then_normal ?_
      refine wp_cond_true (by kernel_rfl) ?_
      refine Kw.region ?_
      refine Kw.pure (.int .u64 (u (putI (putI (putI (putI 0#64 0 7 (cd k)) 12 3 (ff k)) 7 5 (getI imm 0 5)) 25 7 (getI imm 5 7)))) (by kernel_rfl) (by kernel_rfl) ?_
      refine Kw.pure (.pointer (some ⟨B16, 1, none⟩)) (by kernel_rfl) (by kernel_rfl) ?_
      refine Kw.pureS (Canon.ldS 3 (.pointer (some ⟨B16, 1, none⟩))) (.int .i64 15) (by kernel_rfl) (by kernel_rfl) (Kw.ld_cell 3 1 (.int .i64 15) (M18.get 0 rfl) (by kernel_rfl) _ Try.underlying3 rfl) ?_
      refine Kw.pure (.pointer (some ⟨B16, 2, none⟩)) (by kernel_rfl) (by kernel_rfl) ?_
      refine Kw.pureS (Canon.ldS 3 (.pointer (some ⟨B16, 2, none⟩))) (.int .i64 (s rs1)) (by kernel_rfl) (by kernel_rfl) (Kw.ld_cell 3 2 (.int .i64 (s rs1)) (M18.get 0 rfl) (by kernel_rfl) _ Try.underlying3 rfl) ?_
      refine Kw.pure (.int .u64 (u rs1)) (by kernel_rfl) (Kw.eqv (v := .int .u64 (IntKind.u64.wrap (s rs1))) (by kernel_rfl) (congrArg (Value.int .u64) (wrap_s rs1))) ?_
      refine Kw.call (.int .u64 (u (putI (putI (putI (putI (putI 0#64 0 7 (cd k)) 12 3 (ff k)) 7 5 (getI imm 0 5)) 25 7 (getI imm 5 7)) 15 5 rs1))) 48 #[.int .u64 (u (putI (putI (putI (putI 0#64 0 7 (cd k)) 12 3 (ff k)) 7 5 (getI imm 0 5)) 25 7 (getI imm 5 7))), .int .i64 15, .int .i64 5, .int .u64 (u rs1)] M18 (by kernel_rfl) (by kernel_rfl) (put_c (putI (putI (putI (putI 0#64 0 7 (cd k)) 12 3 (ff k)) 7 5 (getI imm 0 5)) 25 7 (getI imm 5 7)) 15 5 rs1 w18) fun w20 M20 => ?_
      refine Kw.pure (.int .u64 (u (putI (putI (putI (putI (putI 0#64 0 7 (cd k)) 12 3 (ff k)) 7 5 (getI imm 0 5)) 25 7 (getI imm 5 7)) 15 5 rs1))) (by kernel_rfl) (by kernel_rfl) ?_
      refine Kw.fin ?_
      refine Kw.block_normal ?_
      refine Kw.then_normal ?_
      refine Kw.region ?_
      refine Kw.pureS (Canon.opS .add 3 (.tmp 62) (.const (.int .i64 1)) (.int .i64 1) (.int .i64 1)) (.int .i64 2) (by kernel_rfl) (by kernel_rfl) (by kernel_rfl) ?_
      refine Kw.pure (.int .i64 2) (by kernel_rfl) (by kernel_rfl) ?_
      refine Kw.fin ?_
      refine Kw.then_normal ?_
      refine Kw.round_succ ?_
      refine wp_seq ?_
      refine Kw.region ?_
      refine Kw.pureS (Canon.opS .lss 3 (.tmp 62) (.const (.int .i64 3)) (.int .i64 2) (.int .i64 3)) (.bool true) (by kernel_rfl) (by kernel_rfl) (by kernel_rfl) ?_
      refine Kw.fin ?_
      refine Kw.then_normal ?_
      refine wp_seq ?_
      refine wp_cond_true (by kernel_rfl) ?_
      refine wp_skip ?_
      refine Kw.then_normal ?_
      refine wp_seq ?_
      refine wp_block ?_
      refine wp_seq ?_
      refine Kw.region ?_
      refine Kw.pure (.agg #[.bool true, .int .i64 20, .int .i64 (s rs2)]) (by kernel_rfl) (by kernel_rfl) ?_
      refine Kw.alloc #[.bool false, .int .i64 0, .int .i64 0] 72 M20 (by kernel_rfl) (by kernel_rfl) fun w21 B21 M21 => ?_
      refine Kw.storeAll 0 72 #[.bool true, .int .i64 20, .int .i64 (s rs2)] M21 rfl (by kernel_rfl) (by kernel_rfl) (by kernel_rfl) (by kernel_rfl) (by kernel_rfl) fun w22 M22 => ?_
      refine Kw.fin ?_
      refine Kw.then_normal ?_
      refine wp_seq ?_
      refine wp_seq ?_
      refine Kw.region ?_
      refine Kw.pure (.pointer (some ⟨B21, 0, none⟩)) (by kernel_rfl) (by kernel_rfl) ?_
      refine Kw.pureS (Canon.ldS 4 (.pointer (some ⟨B21, 0, none⟩))) (.bool true) (by kernel_rfl) (by kernel_rfl) (Kw.ld_cell 4 0 (.bool true) (M22.get 0 rfl) (by kernel_rfl) _ Try.underlying4 rfl) ?_
      refine Kw.pure (.bool true) (by kernel_rfl) (by kernel_rfl) ?_
      refine Kw.pure (.pointer (some ⟨B21, 2, none⟩)) (by kernel_rfl) (by kernel_rfl) ?_
      refine Kw.pureS (Canon.ldS 3 (.pointer (some ⟨B21, 2, none⟩))) (.int .i64 (s rs2)) (by kernel_rfl) (by kernel_rfl) (Kw.ld_cell 3 2 (.int .i64 (s rs2)) (M22.get 0 rfl) (by kernel_rfl) _ Try.underlying3 rfl) ?_
      refine Kw.call (.bool F2) 47 #[.int .i64 (s rs2), .int .i64 5, .bool false] M22 (by kernel_rfl) (by kernel_rfl) (by have h := fits_c rs2 5 false w22; rw [g2] at h; exact h) fun w23 M23 => ?_
      refine Kw.pure (.bool (!F2)) (by kernel_rfl) (by kernel_rfl) ?_
      refine Kw.pure (.bool (!F2)) (by kernel_rfl) (by kernel_rfl) ?_
      refine Kw.fin ?_
      refine Kw.then_normal ?_
      refine wp_cond_split (t := (!F2)) (by kernel_rfl) (fun h24 => ?_) (fun h24 => ?_)
      · skip
        refine wp_seq ?_
        refine Kw.region ?_
        refine Kw.pure (.int .u32 0) (by kernel_rfl) (by kernel_rfl) ?_
        refine Kw.pure (.bool false) (by kernel_rfl) (by kernel_rfl) ?_
        refine Kw.fin ?_
        refine Kw.then_normal ?_
        refine wp_ret ?_
        refine Kw.then_ret ?_
        refine Kw.block_ret ?_
        refine Kw.then_ret ?_
        refine Kw.then_ret ?_
        refine Kw.block_ret ?_
        refine Kw.then_ret ?_
        exact bodyPost_ret (v := .tuple #[.int .u32 0, .bool false]) (by kernel_rfl) (by kernel_rfl) ⟨by simp_all [encR], M23.drop⟩
      · skip
        refine wp_skip ?_
        refine Kw.then_normal ?_
        refine wp_seq ?_
        refine Kw.region ?_
        refine Kw.pure (.pointer (some ⟨B21, 0, none⟩)) (by kernel_rfl) (by kernel_rfl) ?_
        refine Kw.pureS (Canon.ldS 4 (.pointer (some ⟨B21, 0, none⟩))) (.bool true) (by kernel_rfl) (by kernel_rfl) (Kw.ld_cell 4 0 (.bool true) (M23.get 0 rfl) (by kernel_rfl) _ Try.underlying4 rfl) ?_
        refine Kw.fin ?_
        refine Kw.then_normal ?_
        refine wp_cond_true (by kernel_rfl) ?_
        refine Kw.region ?_
        refine Kw.pure (.int .u64 (u (putI (putI (putI (putI (putI 0#64 0 7 (cd k)) 12 3 (ff k)) 7 5 (getI imm 0 5)) 25 7 (getI imm 5 7)) 15 5 rs1))) (by kernel_rfl) (by kernel_rfl) ?_
        refine Kw.pure (.pointer (some ⟨B21, 1, none⟩)) (by kernel_rfl) (by kernel_rfl) ?_
        refine Kw.pureS (Canon.ldS 3 (.pointer (some ⟨B21, 1, none⟩))) (.int .i64 20) (by kernel_rfl) (by kernel_rfl) (Kw.ld_cell 3 1 (.int .i64 20) (M23.get 0 rfl) (by kernel_rfl) _ Try.underlying3 rfl) ?_
        refine Kw.pure (.pointer (some ⟨B21, 2, none⟩)) (by kernel_rfl) (by kernel_rfl) ?_
        refine Kw.pureS (Canon.ldS 3 (.pointer (some ⟨B21, 2, none⟩))) (.int .i64 (s rs2)) (by kernel_rfl) (by kernel_rfl) (Kw.ld_cell 3 2 (.int .i64 (s rs2)) (M23.get 0 rfl) (by kernel_rfl) _ Try.underlying3 rfl) ?_
        refine Kw.pure (.int .u64 (u rs2)) (by kernel_rfl) (Kw.eqv (v := .int .u64 (IntKind.u64.wrap (s rs2))) (by kernel_rfl) (congrArg (Value.int .u64) (wrap_s rs2))) ?_
        refine Kw.call (.int .u64 (u (putI (putI (putI (putI (putI (putI 0#64 0 7 (cd k)) 12 3 (ff k)) 7 5 (getI imm 0 5)) 25 7 (getI imm 5 7)) 15 5 rs1) 20 5 rs2))) 48 #[.int .u64 (u (putI (putI (putI (putI (putI 0#64 0 7 (cd k)) 12 3 (ff k)) 7 5 (getI imm 0 5)) 25 7 (getI imm 5 7)) 15 5 rs1)), .int .i64 20, .int .i64 5, .int .u64 (u rs2)] M23 (by kernel_rfl) (by kernel_rfl) (put_c (putI (putI (putI (putI (putI 0#64 0 7 (cd k)) 12 3 (ff k)) 7 5 (getI imm 0 5)) 25 7 (getI imm 5 7)) 15 5 rs1) 20 5 rs2 w23) fun w25 M25 => ?_
        refine Kw.pure (.int .u64 (u (putI (putI (putI (putI (putI (putI 0#64 0 7 (cd k)) 12 3 (ff k)) 7 5 (getI imm 0 5)) 25 7 (getI imm 5 7)) 15 5 rs1) 20 5 rs2))) (by kernel_rfl) (by kernel_rfl) ?_
        refine Kw.fin ?_
        refine Kw.block_normal ?_
        refine Kw.then_normal ?_
        refine Kw.region ?_
        refine Kw.pureS (Canon.opS .add 3 (.tmp 62) (.const (.int .i64 1)) (.int .i64 2) (.int .i64 1)) (.int .i64 3) (by kernel_rfl) (by kernel_rfl) (by kernel_rfl) ?_
        refine Kw.pure (.int .i64 3) (by kernel_rfl) (by kernel_rfl) ?_
        refine Kw.fin ?_
        refine Kw.then_normal ?_
        refine Kw.round_succ ?_
        refine wp_seq ?_
        refine Kw.region ?_
        refine Kw.pureS (Canon.opS .lss 3 (.tmp 62) (.const (.int .i64 3)) (.int .i64 3) (.int .i64 3)) (.bool false) (by kernel_rfl) (by kernel_rfl) (by kernel_rfl) ?_
        refine Kw.fin ?_
        refine Kw.then_normal ?_
        refine wp_seq ?_
        refine wp_cond_false (by kernel_rfl) ?_
        refine wp_exit ?_
        refine Kw.then_exit ?_
        refine Kw.then_exit ?_
        refine Kw.block_hit ?_
        refine Kw.then_normal ?_
        refine wp_seq ?_
        refine Kw.region ?_
        refine Kw.pure (.int .u64 (u (putI (putI (putI (putI (putI (putI 0#64 0 7 (cd k)) 12 3 (ff k)) 7 5 (getI imm 0 5)) 25 7 (getI imm 5 7)) 15 5 rs1) 20 5 rs2))) (by kernel_rfl) (by kernel_rfl) ?_
        refine Kw.pure (.int .u32 (u ((putI (putI (putI (putI (putI (putI 0#64 0 7 (cd k)) 12 3 (ff k)) 7 5 (getI imm 0 5)) 25 7 (getI imm 5 7)) 15 5 rs1) 20 5 rs2) &&& 4294967295#64))) (by kernel_rfl) (Kw.eqv (v := .int .u32 (IntKind.u32.wrap (u (putI (putI (putI (putI (putI (putI 0#64 0 7 (cd k)) 12 3 (ff k)) 7 5 (getI imm 0 5)) 25 7 (getI imm 5 7)) 15 5 rs1) 20 5 rs2)))) (by kernel_rfl) (congrArg (Value.int .u32) (wrap32_u (putI (putI (putI (putI (putI (putI 0#64 0 7 (cd k)) 12 3 (ff k)) 7 5 (getI imm 0 5)) 25 7 (getI imm 5 7)) 15 5 rs1) 20 5 rs2)))) ?_
        refine Kw.pure (.int .u32 (u ((putI (putI (putI (putI (putI (putI 0#64 0 7 (cd k)) 12 3 (ff k)) 7 5 (getI imm 0 5)) 25 7 (getI imm 5 7)) 15 5 rs1) 20 5 rs2) &&& 4294967295#64))) (by kernel_rfl) (by kernel_rfl) ?_
        refine Kw.pure (.bool true) (by kernel_rfl) (by kernel_rfl) ?_
        refine Kw.fin ?_
        refine Kw.then_normal ?_
        refine wp_ret ?_
        exact bodyPost_ret (v := .tuple #[.int .u32 (u ((putI (putI (putI (putI (putI (putI 0#64 0 7 (cd k)) 12 3 (ff k)) 7 5 (getI imm 0 5)) 25 7 (getI imm 5 7)) 15 5 rs1) 20 5 rs2) &&& 4294967295#64)), .bool true]) (by kernel_rfl) (by kernel_rfl) ⟨by simp_all [encR], M25.drop⟩
def word_B (k : Nat) (rd rs1 rs2 imm : BitVec 64) : BitVec 64 := (putI (putI (putI (putI (putI (putI (putI (putI 0#64 0 7 (cd k)) 12 3 (ff k)) 8 4 (getI imm 1 4)) 25 6 (getI imm 5 6)) 7 1 (getI imm 11 1)) 31 1 (getI imm 12 1)) 15 5 rs1) 20 5 rs2)
set_option maxRecDepth 100000 in
set_option maxHeartbeats 1000000 in
theorem enc_B (k : Nat) (hk : k < 69) (hs : sh k = 66) (rd rs1 rs2 imm : BitVec 64) (F0 : Bool) (h0 : fitB_B imm = F0) (F1 : Bool) (g1 : fitsI rs1 5 false = F1) (F2 : Bool) (g2 : fitsI rs2 5 false = F2) (W : World) : Calls Try.prog 25 #[.agg #[.int .i64 ((k + 1 : Nat) : Int), .int .i64 (s rd), .int .i64 (s rs1), .int .i64 (s rs2), .int .i64 (s imm)]] W fun e W' => e = .returned (encR (F0 && F1 && F2) (word_B k rd rs1 rs2 imm)) ∧ Kw.Mem [] W W' [] := by
  unfold word_B
  refine calls_of_wp Try.func25 rfl ?_
  have M0 : Kw.Mem [] W W [] := Kw.Mem.start _ _
  refine Kw.to (b := ⟨#[.agg #[.int .i64 ((k + 1 : Nat) : Int), .int .i64 (s rd), .int .i64 (s rs1), .int .i64 (s rs2), .int .i64 (s imm)], undef, undef, undef, undef, undef, undef, undef, undef, undef, undef, undef, undef, undef, undef, undef, undef, undef, undef, undef, undef, undef, undef, undef, undef, undef, undef, undef, undef, undef, undef, undef, undef, undef, undef, undef, undef, undef, undef, undef, undef, undef, undef, undef, undef, undef, undef, undef, undef, undef, undef, undef, undef, undef, undef, undef, undef, undef, undef, undef, undef, undef, undef, undef, undef, undef, undef, undef, undef, undef, undef, undef, undef, undef, undef, undef, undef, undef, undef, undef, undef, undef, undef, undef, undef], []⟩) (by kernel_rfl) ?_
  refine wp_seq ?_
  refine Kw.region ?_
  refine Kw.alloc #[.int .i64 ((k + 1 : Nat) : Int), .int .i64 (s rd), .int .i64 (s rs1), .int .i64 (s rs2), .int .i64 (s imm)] 36 M0 (by kernel_rfl) (by kernel_rfl) fun w1 B1 M1 => ?_
  refine Kw.pure (.int .u32 0) (by kernel_rfl) (by kernel_rfl) ?_
  refine Kw.pure (.bool false) (by kernel_rfl) (by kernel_rfl) ?_
  refine Kw.fin ?_
  refine Kw.then_normal ?_
  refine wp_seq ?_
  refine Kw.region ?_
  refine Kw.pure (.pointer (some ⟨B1, 0, none⟩)) (by kernel_rfl) (by kernel_rfl) ?_
  refine Kw.pureS (Canon.ldS 3 (.pointer (some ⟨B1, 0, none⟩))) (.int .i64 ((k + 1 : Nat) : Int)) (by kernel_rfl) (by kernel_rfl) (Kw.ld_cell 3 0 (.int .i64 ((k + 1 : Nat) : Int)) (M1.get 0 rfl) (by kernel_rfl) _ Try.underlying3 rfl) ?_
  refine Kw.call (.tuple #[.agg #[.string (nm k), .int .u8 66, .int .u64 (u (cd k)), .int .u64 (u (ff k)), .int .u64 (u (ot k))], .bool true]) 41 #[.int .i64 ((k + 1 : Nat) : Int)] M1 (by kernel_rfl) (by kernel_rfl) (of_sh 66 k hk hs w1) fun w2 M2 => ?_
  refine Kw.pure (.tuple #[.agg #[.string (nm k), .int .u8 66, .int .u64 (u (cd k)), .int .u64 (u (ff k)), .int .u64 (u (ot k))], .bool true]) (by kernel_rfl) (by kernel_rfl) ?_
  refine Kw.pure (.agg #[.string (nm k), .int .u8 66, .int .u64 (u (cd k)), .int .u64 (u (ff k)), .int .u64 (u (ot k))]) (by kernel_rfl) (by kernel_rfl) ?_
  refine Kw.pure (.bool true) (by kernel_rfl) (by kernel_rfl) ?_
  refine Kw.alloc #[.string ⟨#[]⟩, .int .u8 0, .int .u64 0, .int .u64 0, .int .u64 0] 59 M2 (by kernel_rfl) (by kernel_rfl) fun w3 B3 M3 => ?_
  refine Kw.storeAll 0 59 #[.string (nm k), .int .u8 66, .int .u64 (u (cd k)), .int .u64 (u (ff k)), .int .u64 (u (ot k))] M3 rfl (by kernel_rfl) (by kernel_rfl) (by kernel_rfl) (by kernel_rfl) (by kernel_rfl) fun w4 M4 => ?_
  refine Kw.pure (.bool true) (by kernel_rfl) (by kernel_rfl) ?_
  refine Kw.fin ?_
  refine Kw.then_normal ?_
  refine wp_seq ?_
  refine wp_seq ?_
  refine Held.start (fun w => Kw.Mem [] W w [(B3, #[.string (nm k), .int .u8 66, .int .u64 (u (cd k)), .int .u64 (u (ff k)), .int .u64 (u (ot k))], 59), (B1, #[.int .i64 ((k + 1 : Nat) : Int), .int .i64 (s rd), .int .i64 (s rs1), .int .i64 (s rs2), .int .i64 (s imm)], 36)]) (by kernel_rfl) ?_
  have M5 := M4.drew
  have MS := M5
  refine Held.takeP 0 (.bool true) rfl (by decide +kernel) (by decide +kernel) (by decide +kernel) (by kernel_rfl) (fun w => by kernel_rfl) MS ?_
  refine Held.takeP 1 (.bool false) rfl (by decide +kernel) (by decide +kernel) (by decide +kernel) (by kernel_rfl) (fun w => by kernel_rfl) MS ?_
  refine Held.takeP 2 (.bool false) rfl (by decide +kernel) (by decide +kernel) (by decide +kernel) (by kernel_rfl) (fun w => by kernel_rfl) MS ?_
  refine Held.takeP 3 (.pointer (some ⟨B3, 1, none⟩)) rfl (by decide +kernel) (by decide +kernel) (by decide +kernel) (by kernel_rfl) (fun w => by kernel_rfl) MS ?_
  refine Held.take 4 (Canon.ldS 5 (.pointer (some ⟨B3, 1, none⟩))) (.int .u8 66) rfl (by decide +kernel) (by decide +kernel) (by decide +kernel) (by kernel_rfl) (by kernel_rfl) (fun w hw => Kw.ld_cell 5 1 (.int .u8 66) (hw.get 0 rfl) (by kernel_rfl) _ Try.underlying5 rfl) MS ?_
  refine Held.takeP 6 (.pointer (some ⟨B1, 4, none⟩)) rfl (by decide +kernel) (by decide +kernel) (by decide +kernel) (by kernel_rfl) (fun w => by kernel_rfl) MS ?_
  refine Held.take 7 (Canon.ldS 2 (.pointer (some ⟨B1, 4, none⟩))) (.int .i64 (s imm)) rfl (by decide +kernel) (by decide +kernel) (by decide +kernel) (by kernel_rfl) (by kernel_rfl) (fun w hw => Kw.ld_cell 2 4 (.int .i64 (s imm)) (hw.get 1 rfl) (by kernel_rfl) _ Try.underlying2 rfl) MS ?_
  refine Held.oneCall (ι := Nat) 5 (fun B => (.agg #[.slice (some ⟨B, 0, none⟩) 4 4, .int .i64 13, .bool true, .int .i64 1])) 42 #[.int .u8 66] (R := fun B w1 => Kw.Mem [] (w4.drew) w1 [(B, #[.int .i64 1, .int .i64 4, .int .i64 8, .int .i64 5, .int .i64 6, .int .i64 25, .int .i64 11, .int .i64 1, .int .i64 7, .int .i64 12, .int .i64 1, .int .i64 31], 89)]) rfl (by decide +kernel) (by kernel_rfl) (by kernel_rfl) (laid_B (w4.drew)) fun B6 w6 hc => ?_
  have M6 := Held.mem_new M5 hc
  clear hc
  refine ⟨(Held.mem_tail M6), ?_⟩
  have MS := (Held.mem_tail M6)
  refine Held.oneCall (ι := Unit) 8 (fun _ => (.bool F0)) 43 #[.agg #[.slice (some ⟨B6, 0, none⟩) 4 4, .int .i64 13, .bool true, .int .i64 1], .int .i64 (s imm)] (R := fun _ w1 => Kw.Mem [] w6 w1 []) rfl (by decide +kernel) (by kernel_rfl) (by kernel_rfl) (Held.unit (by have h := fit_B imm w6 B6 (Held.mem_of M6 0 rfl); rw [h0] at h; exact h)) fun _ w7 hc => ?_
  have M7 := M6.call hc
  clear hc
  refine ⟨(Held.mem_tail M7), ?_⟩
  have MS := (Held.mem_tail M7)
  refine Held.takeP 9 (.bool (!F0)) rfl (by decide +kernel) (by decide +kernel) (by decide +kernel) (by kernel_rfl) (fun w => by kernel_rfl) MS ?_
  refine Held.takeP 10 (.bool (!F0)) rfl (by decide +kernel) (by decide +kernel) (by decide +kernel) (by kernel_rfl) (fun w => by kernel_rfl) MS ?_
  refine Held.done (by decide +kernel) ?_
  refine Kw.then_normal ?_
  refine wp_cond_split (t := (!F0)) (by kernel_rfl) (fun h8 => ?_) (fun h8 => ?_)
  · skip
    refine wp_seq ?_
    refine Kw.region ?_
    refine Kw.pure (.int .u32 0) (by kernel_rfl) (by kernel_rfl) ?_
    refine Kw.pure (.bool false) (by kernel_rfl) (by kernel_rfl) ?_
    refine Kw.fin ?_
    refine Kw.then_normal ?_
    refine wp_ret ?_
    refine Kw.then_ret ?_
    exact bodyPost_ret (v := .tuple #[.int .u32 0, .bool false]) (by kernel_rfl) (by kernel_rfl) ⟨by simp_all [encR], M7.drop⟩
  · skip
    refine wp_skip ?_
    refine Kw.then_normal ?_
    refine wp_seq ?_
    refine Kw.region ?_
    refine Kw.pureS (Canon.ldS 59 (.pointer (some ⟨B3, 0, none⟩))) (.agg #[.string (nm k), .int .u8 66, .int .u64 (u (cd k)), .int .u64 (u (ff k)), .int .u64 (u (ot k))]) (by kernel_rfl) (by kernel_rfl) (Kw.ld_all 59 (M7.get 1 rfl) _ Try.underlying59 rfl (by kernel_rfl)) ?_
    refine Kw.call (.tuple #[.int .u64 (u (putI (putI 0#64 0 7 (cd k)) 12 3 (ff k))), .int .u64 (u (putI (putI 0#64 0 7 18446744073709551615#64) 12 3 18446744073709551615#64))]) 44 #[.agg #[.string (nm k), .int .u8 66, .int .u64 (u (cd k)), .int .u64 (u (ff k)), .int .u64 (u (ot k))]] M7 (by kernel_rfl) (by kernel_rfl) (fixed_B (nm k) (cd k) (ff k) (ot k) w7) fun w9 M9 => ?_
    refine Kw.pure (.tuple #[.int .u64 (u (putI (putI 0#64 0 7 (cd k)) 12 3 (ff k))), .int .u64 (u (putI (putI 0#64 0 7 18446744073709551615#64) 12 3 18446744073709551615#64))]) (by kernel_rfl) (by kernel_rfl) ?_
    refine Kw.pure (.int .u64 (u (putI (putI 0#64 0 7 (cd k)) 12 3 (ff k)))) (by kernel_rfl) (by kernel_rfl) ?_
    refine Kw.pure (.int .u64 (u (putI (putI 0#64 0 7 18446744073709551615#64) 12 3 18446744073709551615#64))) (by kernel_rfl) (by kernel_rfl) ?_
    refine Kw.pure (.int .u64 (u (putI (putI 0#64 0 7 (cd k)) 12 3 (ff k)))) (by kernel_rfl) (by kernel_rfl) ?_
    refine Kw.pure (.int .u64 (u (putI (putI 0#64 0 7 18446744073709551615#64) 12 3 18446744073709551615#64))) (by kernel_rfl) (by kernel_rfl) ?_
    refine Kw.fin ?_
    refine Kw.then_normal ?_
    refine wp_seq ?_
    refine Kw.region ?_
    refine Kw.pure (.pointer (some ⟨B3, 1, none⟩)) (by kernel_rfl) (by kernel_rfl) ?_
    refine Kw.pureS (Canon.ldS 5 (.pointer (some ⟨B3, 1, none⟩))) (.int .u8 66) (by kernel_rfl) (by kernel_rfl) (Kw.ld_cell 5 1 (.int .u8 66) (M9.get 1 rfl) (by kernel_rfl) _ Try.underlying5 rfl) ?_
    refine Kw.call (.tuple #[.bool false, .bool true, .bool true]) 45 #[.int .u8 66] M9 (by kernel_rfl) (by kernel_rfl) (has_B w9) fun w10 M10 => ?_
    refine Kw.pure (.tuple #[.bool false, .bool true, .bool true]) (by kernel_rfl) (by kernel_rfl) ?_
    refine Kw.pure (.bool false) (by kernel_rfl) (by kernel_rfl) ?_
    refine Kw.pure (.bool true) (by kernel_rfl) (by kernel_rfl) ?_
    refine Kw.pure (.bool true) (by kernel_rfl) (by kernel_rfl) ?_
    refine Kw.pure (.bool false) (by kernel_rfl) (by kernel_rfl) ?_
    refine Kw.pure (.bool true) (by kernel_rfl) (by kernel_rfl) ?_
    refine Kw.pure (.bool true) (by kernel_rfl) (by kernel_rfl) ?_
    refine Kw.fin ?_
    refine Kw.then_normal ?_
    refine wp_seq ?_
    refine Held.start (fun w => Kw.Mem [] W w [(B6, #[.int .i64 1, .int .i64 4, .int .i64 8, .int .i64 5, .int .i64 6, .int .i64 25, .int .i64 11, .int .i64 1, .int .i64 7, .int .i64 12, .int .i64 1, .int .i64 31], 89), (B3, #[.string (nm k), .int .u8 66, .int .u64 (u (cd k)), .int .u64 (u (ff k)), .int .u64 (u (ot k))], 59), (B1, #[.int .i64 ((k + 1 : Nat) : Int), .int .i64 (s rd), .int .i64 (s rs1), .int .i64 (s rs2), .int .i64 (s imm)], 36)]) (by kernel_rfl) ?_
    have M11 := M10.drew
    have MS := M11
    refine Held.takeP 0 (.pointer (some ⟨B3, 1, none⟩)) rfl (by decide +kernel) (by decide +kernel) (by decide +kernel) (by kernel_rfl) (fun w => by kernel_rfl) MS ?_
    refine Held.take 1 (Canon.ldS 5 (.pointer (some ⟨B3, 1, none⟩))) (.int .u8 66) rfl (by decide +kernel) (by decide +kernel) (by decide +kernel) (by kernel_rfl) (by kernel_rfl) (fun w hw => Kw.ld_cell 5 1 (.int .u8 66) (hw.get 1 rfl) (by kernel_rfl) _ Try.underlying5 rfl) MS ?_
    refine Held.takeP 3 (.int .u64 (u (putI (putI 0#64 0 7 (cd k)) 12 3 (ff k)))) rfl (by decide +kernel) (by decide +kernel) (by decide +kernel) (by kernel_rfl) (fun w => by kernel_rfl) MS ?_
    refine Held.takeP 4 (.pointer (some ⟨B1, 4, none⟩)) rfl (by decide +kernel) (by decide +kernel) (by decide +kernel) (by kernel_rfl) (fun w => by kernel_rfl) MS ?_
    refine Held.take 5 (Canon.ldS 2 (.pointer (some ⟨B1, 4, none⟩))) (.int .i64 (s imm)) rfl (by decide +kernel) (by decide +kernel) (by decide +kernel) (by kernel_rfl) (by kernel_rfl) (fun w hw => Kw.ld_cell 2 4 (.int .i64 (s imm)) (hw.get 2 rfl) (by kernel_rfl) _ Try.underlying2 rfl) MS ?_
    refine Held.oneCall (ι := Nat) 2 (fun B => (.agg #[.slice (some ⟨B, 0, none⟩) 4 4, .int .i64 13, .bool true, .int .i64 1])) 42 #[.int .u8 66] (R := fun B w1 => Kw.Mem [] (w10.drew) w1 [(B, #[.int .i64 1, .int .i64 4, .int .i64 8, .int .i64 5, .int .i64 6, .int .i64 25, .int .i64 11, .int .i64 1, .int .i64 7, .int .i64 12, .int .i64 1, .int .i64 31], 89)]) rfl (by decide +kernel) (by kernel_rfl) (by kernel_rfl) (laid_B (w10.drew)) fun B12 w12 hc => ?_
    have M12 := Held.mem_new M11 hc
    clear hc
    refine ⟨(Held.mem_tail M12), ?_⟩
    have MS := (Held.mem_tail M12)
    refine Held.oneCall (ι := Unit) 6 (fun _ => (.int .u64 (u (putI (putI (putI (putI (putI (putI 0#64 0 7 (cd k)) 12 3 (ff k)) 8 4 (getI imm 1 4)) 25 6 (getI imm 5 6)) 7 1 (getI imm 11 1)) 31 1 (getI imm 12 1))))) 46 #[.agg #[.slice (some ⟨B12, 0, none⟩) 4 4, .int .i64 13, .bool true, .int .i64 1], .int .u64 (u (putI (putI 0#64 0 7 (cd k)) 12 3 (ff k))), .int .i64 (s imm)] (R := fun _ w1 => Kw.Mem [] w12 w1 []) rfl (by decide +kernel) (by kernel_rfl) (by kernel_rfl) (Held.unit (lay_B (putI (putI 0#64 0 7 (cd k)) 12 3 (ff k)) imm w12 B12 (Held.mem_of M12 0 rfl))) fun _ w13 hc => ?_
    have M13 := M12.call hc
    clear hc
    refine ⟨(Held.mem_tail M13), ?_⟩
    have MS := (Held.mem_tail M13)
    refine Held.takeP 7 (.int .u64 (u (putI (putI (putI (putI (putI (putI 0#64 0 7 (cd k)) 12 3 (ff k)) 8 4 (getI imm 1 4)) 25 6 (getI imm 5 6)) 7 1 (getI imm 11 1)) 31 1 (getI imm 12 1)))) rfl (by decide +kernel) (by decide +kernel) (by decide +kernel) (by kernel_rfl) (fun w => by kernel_rfl) MS ?_
    refine Held.done (by decide +kernel) ?_
    refine Kw.then_normal ?_
    refine wp_seq ?_
    refine wp_seq ?_
    refine Kw.region ?_
    refine Kw.pure (.bool false) (by kernel_rfl) (by kernel_rfl) ?_
    refine Kw.pure (.pointer (some ⟨B1, 1, none⟩)) (by kernel_rfl) (by kernel_rfl) ?_
    refine Kw.pureS (Canon.ldS 3 (.pointer (some ⟨B1, 1, none⟩))) (.int .i64 (s rd)) (by kernel_rfl) (by kernel_rfl) (Kw.ld_cell 3 1 (.int .i64 (s rd)) (M13.get 3 rfl) (by kernel_rfl) _ Try.underlying3 rfl) ?_
    refine Kw.pure (.agg #[.bool false, .int .i64 7, .int .i64 (s rd)]) (by kernel_rfl) (by kernel_rfl) ?_
    refine Kw.pure (.bool true) (by kernel_rfl) (by kernel_rfl) ?_
    refine Kw.pure (.pointer (some ⟨B1, 2, none⟩)) (by kernel_rfl) (by kernel_rfl) ?_
    refine Kw.pureS (Canon.ldS 3 (.pointer (some ⟨B1, 2, none⟩))) (.int .i64 (s rs1)) (by kernel_rfl) (by kernel_rfl) (Kw.ld_cell 3 2 (.int .i64 (s rs1)) (M13.get 3 rfl) (by kernel_rfl) _ Try.underlying3 rfl) ?_
    refine Kw.pure (.agg #[.bool true, .int .i64 15, .int .i64 (s rs1)]) (by kernel_rfl) (by kernel_rfl) ?_
    refine Kw.pure (.bool true) (by kernel_rfl) (by kernel_rfl) ?_
    refine Kw.pure (.pointer (some ⟨B1, 3, none⟩)) (by kernel_rfl) (by kernel_rfl) ?_
    refine Kw.pureS (Canon.ldS 3 (.pointer (some ⟨B1, 3, none⟩))) (.int .i64 (s rs2)) (by kernel_rfl) (by kernel_rfl) (Kw.ld_cell 3 3 (.int .i64 (s rs2)) (M13.get 3 rfl) (by kernel_rfl) _ Try.underlying3 rfl) ?_
    refine Kw.pure (.agg #[.bool true, .int .i64 20, .int .i64 (s rs2)]) (by kernel_rfl) (by kernel_rfl) ?_
    refine Kw.pure (.agg #[.bool false, .int .i64 7, .int .i64 (s rd), .bool true, .int .i64 15, .int .i64 (s rs1), .bool true, .int .i64 20, .int .i64 (s rs2)]) (by kernel_rfl) (by kernel_rfl) ?_
    refine Kw.pure (.int .i64 0) (by kernel_rfl) (by kernel_rfl) ?_
    refine Kw.fin ?_
    refine Kw.then_normal ?_
    refine wp_block ?_
    refine wp_loop_rounds 4 ?_
    refine Kw.round_succ ?_
    refine wp_seq ?_
    refine Kw.region ?_
    refine Kw.pureS (Canon.opS .lss 3 (.tmp 62) (.const (.int .i64 3)) (.int .i64 0) (.int .i64 3)) (.bool true) (by kernel_rfl) (by kernel_rfl) (by kernel_rfl) ?_
    refine Kw.fin ?_
    refine Kw.then_normal ?_
    refine wp_seq ?_
    refine wp_cond_true (by kernel_rfl) ?_
    refine wp_skip ?_
    refine Kw.then_normal ?_
    refine wp_seq ?_
    refine wp_block ?_
    refine wp_seq ?_
    refine Kw.region ?_
    refine Kw.pure (.agg #[.bool false, .int .i64 7, .int .i64 (s rd)]) (by kernel_rfl) (by kernel_rfl) ?_
    refine Kw.alloc #[.bool false, .int .i64 0, .int .i64 0] 72 M13 (by kernel_rfl) (by kernel_rfl) fun w14 B14 M14 => ?_
    refine Kw.storeAll 0 72 #[.bool false, .int .i64 7, .int .i64 (s rd)] M14 rfl (by kernel_rfl) (by kernel_rfl) (by kernel_rfl) (by kernel_rfl) (by kernel_rfl) fun w15 M15 => ?_
    refine Kw.fin ?_
    refine Kw.then_normal ?_
    refine wp_seq ?_
    refine wp_seq ?_
    refine Kw.region ?_
    refine Kw.pure (.pointer (some ⟨B14, 0, none⟩)) (by kernel_rfl) (by kernel_rfl) ?_
    refine Kw.pureS (Canon.ldS 4 (.pointer (some ⟨B14, 0, none⟩))) (.bool false) (by kernel_rfl) (by kernel_rfl) (Kw.ld_cell 4 0 (.bool false) (M15.get 0 rfl) (by kernel_rfl) _ Try.underlying4 rfl) ?_
    refine Kw.pure (.bool false) (by kernel_rfl) (by kernel_rfl) ?_
    refine Kw.skip (by kernel_rfl) ?_
    refine Kw.skip (by kernel_rfl) ?_
    refine Kw.skip (by kernel_rfl) ?_
    refine Kw.skip (by kernel_rfl) ?_
    refine Kw.pure (.bool false) (by kernel_rfl) (by kernel_rfl) ?_
    refine Kw.fin ?_
    refine Kw.then_normal ?_
    refine wp_cond_false (by kernel_rfl) ?_
    refine wp_skip ?_
    refine Kw.then_normal ?_
    refine wp_seq ?_
    refine Kw.region ?_
    refine Kw.pure (.pointer (some ⟨B14, 0, none⟩)) (by kernel_rfl) (by kernel_rfl) ?_
    refine Kw.pureS (Canon.ldS 4 (.pointer (some ⟨B14, 0, none⟩))) (.bool false) (by kernel_rfl) (by kernel_rfl) (Kw.ld_cell 4 0 (.bool false) (M15.get 0 rfl) (by kernel_rfl) _ Try.underlying4 rfl) ?_
    refine Kw.fin ?_
    refine Kw.then_normal ?_
    refine wp_cond_false (by kernel_rfl) ?_
    refine wp_skip ?_
    refine Kw.block_normal ?_
    refine Kw.then_normal ?_
    refine Kw.region ?_
    refine Kw.pureS (Canon.opS .add 3 (.tmp 62) (.const (.int .i64 1)) (.int .i64 0) (.int .i64 1)) (.int .i64 1) (by kernel_rfl) (by kernel_rfl) (by kernel_rfl) ?_
    refine Kw.pure (.int .i64 1) (by kernel_rfl) (by kernel_rfl) ?_
    refine Kw.fin ?_
    refine Kw.then_normal ?_
    refine Kw.round_succ ?_
    refine wp_seq ?_
    refine Kw.region ?_
    refine Kw.pureS (Canon.opS .lss 3 (.tmp 62) (.const (.int .i64 3)) (.int .i64 1) (.int .i64 3)) (.bool true) (by kernel_rfl) (by kernel_rfl) (by kernel_rfl) ?_
    refine Kw.fin ?_
    refine Kw.then_normal ?_
    refine wp_seq ?_
    refine wp_cond_true (by kernel_rfl) ?_
    refine wp_skip ?_
    refine Kw.then_normal ?_
    refine wp_seq ?_
    refine wp_block ?_
    refine wp_seq ?_
    refine Kw.region ?_
    refine Kw.pure (.agg #[.bool true, .int .i64 15, .int .i64 (s rs1)]) (by kernel_rfl) (by kernel_rfl) ?_
    refine Kw.alloc #[.bool false, .int .i64 0, .int .i64 0] 72 M15 (by kernel_rfl) (by kernel_rfl) fun w16 B16 M16 => ?_
    refine Kw.storeAll 0 72 #[.bool true, .int .i64 15, .int .i64 (s rs1)] M16 rfl (by kernel_rfl) (by kernel_rfl) (by kernel_rfl) (by kernel_rfl) (by kernel_rfl) fun w17 M17 => ?_
    refine Kw.fin ?_
    refine Kw.then_normal ?_
    refine wp_seq ?_
    refine wp_seq ?_
    refine Kw.region ?_
    refine Kw.pure (.pointer (some ⟨B16, 0, none⟩)) (by kernel_rfl) (by kernel_rfl) ?_
    refine Kw.pureS (Canon.ldS 4 (.pointer (some ⟨B16, 0, none⟩))) (.bool true) (by kernel_rfl) (by kernel_rfl) (Kw.ld_cell 4 0 (.bool true) (M17.get 0 rfl) (by kernel_rfl) _ Try.underlying4 rfl) ?_
    refine Kw.pure (.bool true) (by kernel_rfl) (by kernel_rfl) ?_
    refine Kw.pure (.pointer (some ⟨B16, 2, none⟩)) (by kernel_rfl) (by kernel_rfl) ?_
    refine Kw.pureS (Canon.ldS 3 (.pointer (some ⟨B16, 2, none⟩))) (.int .i64 (s rs1)) (by kernel_rfl) (by kernel_rfl) (Kw.ld_cell 3 2 (.int .i64 (s rs1)) (M17.get 0 rfl) (by kernel_rfl) _ Try.underlying3 rfl) ?_
    refine Kw.call (.bool F1) 47 #[.int .i64 (s rs1), .int .i64 5, .bool false] M17 (by kernel_rfl) (by kernel_rfl) (by have h := fits_c rs1 5 false w17; rw [g1] at h; exact h) fun w18 M18 => ?_
    refine Kw.pure (.bool (!F1)) (by kernel_rfl) (by kernel_rfl) ?_
    refine Kw.pure (.bool (!F1)) (by kernel_rfl) (by kernel_rfl) ?_
    refine Kw.fin ?_
    refine Kw.then_normal ?_
    refine wp_cond_split (t := (!F1)) (by kernel_rfl) (fun h19 => ?_) (fun h19 => ?_)
    · skip
      refine wp_seq ?_
      refine Kw.region ?_
      refine Kw.pure (.int .u32 0) (by kernel_rfl) (by kernel_rfl) ?_
      refine Kw.pure (.bool false) (by kernel_rfl) (by kernel_rfl) ?_
      refine Kw.fin ?_
      refine Kw.then_normal ?_
      refine wp_ret ?_
      refine Kw.then_ret ?_
      refine Kw.block_ret ?_
      refine Kw.then_ret ?_
      refine Kw.then_ret ?_
      refine Kw.block_ret ?_
      refine Kw.then_ret ?_
      exact bodyPost_ret (v := .tuple #[.int .u32 0, .bool false]) (by kernel_rfl) (by kernel_rfl) ⟨by simp_all [encR], M18.drop⟩
    · skip
      refine wp_skip ?_
      refine Kw.then_normal ?_
      refine wp_seq ?_
      refine Kw.region ?_
      refine Kw.pure (.pointer (some ⟨B16, 0, none⟩)) (by kernel_rfl) (by kernel_rfl) ?_
      refine Kw.pureS (Canon.ldS 4 (.pointer (some ⟨B16, 0, none⟩))) (.bool true) (by kernel_rfl) (by kernel_rfl) (Kw.ld_cell 4 0 (.bool true) (M18.get 0 rfl) (by kernel_rfl) _ Try.underlying4 rfl) ?_
      refine Kw.fin ?_
      refine Kw.then_normal ?_
      refine wp_cond_true (by kernel_rfl) ?_
      refine Kw.region ?_
      refine Kw.pure (.int .u64 (u (putI (putI (putI (putI (putI (putI 0#64 0 7 (cd k)) 12 3 (ff k)) 8 4 (getI imm 1 4)) 25 6 (getI imm 5 6)) 7 1 (getI imm 11 1)) 31 1 (getI imm 12 1)))) (by kernel_rfl) (by kernel_rfl) ?_
      refine Kw.pure (.pointer (some ⟨B16, 1, none⟩)) (by kernel_rfl) (by kernel_rfl) ?_
      refine Kw.pureS (Canon.ldS 3 (.pointer (some ⟨B16, 1, none⟩))) (.int .i64 15) (by kernel_rfl) (by kernel_rfl) (Kw.ld_cell 3 1 (.int .i64 15) (M18.get 0 rfl) (by kernel_rfl) _ Try.underlying3 rfl) ?_
      refine Kw.pure (.pointer (some ⟨B16, 2, none⟩)) (by kernel_rfl) (by kernel_rfl) ?_
      refine Kw.pureS (Canon.ldS 3 (.pointer (some ⟨B16, 2, none⟩))) (.int .i64 (s rs1)) (by kernel_rfl) (by kernel_rfl) (Kw.ld_cell 3 2 (.int .i64 (s rs1)) (M18.get 0 rfl) (by kernel_rfl) _ Try.underlying3 rfl) ?_
      refine Kw.pure (.int .u64 (u rs1)) (by kernel_rfl) (Kw.eqv (v := .int .u64 (IntKind.u64.wrap (s rs1))) (by kernel_rfl) (congrArg (Value.int .u64) (wrap_s rs1))) ?_
      refine Kw.call (.int .u64 (u (putI (putI (putI (putI (putI (putI (putI 0#64 0 7 (cd k)) 12 3 (ff k)) 8 4 (getI imm 1 4)) 25 6 (getI imm 5 6)) 7 1 (getI imm 11 1)) 31 1 (getI imm 12 1)) 15 5 rs1))) 48 #[.int .u64 (u (putI (putI (putI (putI (putI (putI 0#64 0 7 (cd k)) 12 3 (ff k)) 8 4 (getI imm 1 4)) 25 6 (getI imm 5 6)) 7 1 (getI imm 11 1)) 31 1 (getI imm 12 1))), .int .i64 15, .int .i64 5, .int .u64 (u rs1)] M18 (by kernel_rfl) (by kernel_rfl) (put_c (putI (putI (putI (putI (putI (putI 0#64 0 7 (cd k)) 12 3 (ff k)) 8 4 (getI imm 1 4)) 25 6 (getI imm 5 6)) 7 1 (getI imm 11 1)) 31 1 (getI imm 12 1)) 15 5 rs1 w18) fun w20 M20 => ?_
      refine Kw.pure (.int .u64 (u (putI (putI (putI (putI (putI (putI (putI 0#64 0 7 (cd k)) 12 3 (ff k)) 8 4 (getI imm 1 4)) 25 6 (getI imm 5 6)) 7 1 (getI imm 11 1)) 31 1 (getI imm 12 1)) 15 5 rs1))) (by kernel_rfl) (by kernel_rfl) ?_
      refine Kw.fin ?_
      refine Kw.block_normal ?_
      refine Kw.then_normal ?_
      refine Kw.region ?_
      refine Kw.pureS (Canon.opS .add 3 (.tmp 62) (.const (.int .i64 1)) (.int .i64 1) (.int .i64 1)) (.int .i64 2) (by kernel_rfl) (by kernel_rfl) (by kernel_rfl) ?_
      refine Kw.pure (.int .i64 2) (by kernel_rfl) (by kernel_rfl) ?_
      refine Kw.fin ?_
      refine Kw.then_normal ?_
      refine Kw.round_succ ?_
      refine wp_seq ?_
      refine Kw.region ?_
      refine Kw.pureS (Canon.opS .lss 3 (.tmp 62) (.const (.int .i64 3)) (.int .i64 2) (.int .i64 3)) (.bool true) (by kernel_rfl) (by kernel_rfl) (by kernel_rfl) ?_
      refine Kw.fin ?_
      refine Kw.then_normal ?_
      refine wp_seq ?_
      refine wp_cond_true (by kernel_rfl) ?_
      refine wp_skip ?_
      refine Kw.then_normal ?_
      refine wp_seq ?_
      refine wp_block ?_
      refine wp_seq ?_
      refine Kw.region ?_
      refine Kw.pure (.agg #[.bool true, .int .i64 20, .int .i64 (s rs2)]) (by kernel_rfl) (by kernel_rfl) ?_
      refine Kw.alloc #[.bool false, .int .i64 0, .int .i64 0] 72 M20 (by kernel_rfl) (by kernel_rfl) fun w21 B21 M21 => ?_
      refine Kw.storeAll 0 72 #[.bool true, .int .i64 20, .int .i64 (s rs2)] M21 rfl (by kernel_rfl) (by kernel_rfl) (by kernel_rfl) (by kernel_rfl) (by kernel_rfl) fun w22 M22 => ?_
      refine Kw.fin ?_
      refine Kw.then_normal ?_
      refine wp_seq ?_
      refine wp_seq ?_
      refine Kw.region ?_
      refine Kw.pure (.pointer (some ⟨B21, 0, none⟩)) (by kernel_rfl) (by kernel_rfl) ?_
      refine Kw.pureS (Canon.ldS 4 (.pointer (some ⟨B21, 0, none⟩))) (.bool true) (by kernel_rfl) (by kernel_rfl) (Kw.ld_cell 4 0 (.bool true) (M22.get 0 rfl) (by kernel_rfl) _ Try.underlying4 rfl) ?_
      refine Kw.pure (.bool true) (by kernel_rfl) (by kernel_rfl) ?_
      refine Kw.pure (.pointer (some ⟨B21, 2, none⟩)) (by kernel_rfl) (by kernel_rfl) ?_
      refine Kw.pureS (Canon.ldS 3 (.pointer (some ⟨B21, 2, none⟩))) (.int .i64 (s rs2)) (by kernel_rfl) (by kernel_rfl) (Kw.ld_cell 3 2 (.int .i64 (s rs2)) (M22.get 0 rfl) (by kernel_rfl) _ Try.underlying3 rfl) ?_
      refine Kw.call (.bool F2) 47 #[.int .i64 (s rs2), .int .i64 5, .bool false] M22 (by kernel_rfl) (by kernel_rfl) (by have h := fits_c rs2 5 false w22; rw [g2] at h; exact h) fun w23 M23 => ?_
      refine Kw.pure (.bool (!F2)) (by kernel_rfl) (by kernel_rfl) ?_
      refine Kw.pure (.bool (!F2)) (by kernel_rfl) (by kernel_rfl) ?_
      refine Kw.fin ?_
      refine Kw.then_normal ?_
      refine wp_cond_split (t := (!F2)) (by kernel_rfl) (fun h24 => ?_) (fun h24 => ?_)
      · skip
        refine wp_seq ?_
        refine Kw.region ?_
        refine Kw.pure (.int .u32 0) (by kernel_rfl) (by kernel_rfl) ?_
        refine Kw.pure (.bool false) (by kernel_rfl) (by kernel_rfl) ?_
        refine Kw.fin ?_
        refine Kw.then_normal ?_
        refine wp_ret ?_
        refine Kw.then_ret ?_
        refine Kw.block_ret ?_
        refine Kw.then_ret ?_
        refine Kw.then_ret ?_
        refine Kw.block_ret ?_
        refine Kw.then_ret ?_
        exact bodyPost_ret (v := .tuple #[.int .u32 0, .bool false]) (by kernel_rfl) (by kernel_rfl) ⟨by simp_all [encR], M23.drop⟩
      · skip
        refine wp_skip ?_
        refine Kw.then_normal ?_
        refine wp_seq ?_
        refine Kw.region ?_
        refine Kw.pure (.pointer (some ⟨B21, 0, none⟩)) (by kernel_rfl) (by kernel_rfl) ?_
        refine Kw.pureS (Canon.ldS 4 (.pointer (some ⟨B21, 0, none⟩))) (.bool true) (by kernel_rfl) (by kernel_rfl) (Kw.ld_cell 4 0 (.bool true) (M23.get 0 rfl) (by kernel_rfl) _ Try.underlying4 rfl) ?_
        refine Kw.fin ?_
        refine Kw.then_normal ?_
        refine wp_cond_true (by kernel_rfl) ?_
        refine Kw.region ?_
        refine Kw.pure (.int .u64 (u (putI (putI (putI (putI (putI (putI (putI 0#64 0 7 (cd k)) 12 3 (ff k)) 8 4 (getI imm 1 4)) 25 6 (getI imm 5 6)) 7 1 (getI imm 11 1)) 31 1 (getI imm 12 1)) 15 5 rs1))) (by kernel_rfl) (by kernel_rfl) ?_
        refine Kw.pure (.pointer (some ⟨B21, 1, none⟩)) (by kernel_rfl) (by kernel_rfl) ?_
        refine Kw.pureS (Canon.ldS 3 (.pointer (some ⟨B21, 1, none⟩))) (.int .i64 20) (by kernel_rfl) (by kernel_rfl) (Kw.ld_cell 3 1 (.int .i64 20) (M23.get 0 rfl) (by kernel_rfl) _ Try.underlying3 rfl) ?_
        refine Kw.pure (.pointer (some ⟨B21, 2, none⟩)) (by kernel_rfl) (by kernel_rfl) ?_
        refine Kw.pureS (Canon.ldS 3 (.pointer (some ⟨B21, 2, none⟩))) (.int .i64 (s rs2)) (by kernel_rfl) (by kernel_rfl) (Kw.ld_cell 3 2 (.int .i64 (s rs2)) (M23.get 0 rfl) (by kernel_rfl) _ Try.underlying3 rfl) ?_
        refine Kw.pure (.int .u64 (u rs2)) (by kernel_rfl) (Kw.eqv (v := .int .u64 (IntKind.u64.wrap (s rs2))) (by kernel_rfl) (congrArg (Value.int .u64) (wrap_s rs2))) ?_
        refine Kw.call (.int .u64 (u (putI (putI (putI (putI (putI (putI (putI (putI 0#64 0 7 (cd k)) 12 3 (ff k)) 8 4 (getI imm 1 4)) 25 6 (getI imm 5 6)) 7 1 (getI imm 11 1)) 31 1 (getI imm 12 1)) 15 5 rs1) 20 5 rs2))) 48 #[.int .u64 (u (putI (putI (putI (putI (putI (putI (putI 0#64 0 7 (cd k)) 12 3 (ff k)) 8 4 (getI imm 1 4)) 25 6 (getI imm 5 6)) 7 1 (getI imm 11 1)) 31 1 (getI imm 12 1)) 15 5 rs1)), .int .i64 20, .int .i64 5, .int .u64 (u rs2)] M23 (by kernel_rfl) (by kernel_rfl) (put_c (putI (putI (putI (putI (putI (putI (putI 0#64 0 7 (cd k)) 12 3 (ff k)) 8 4 (getI imm 1 4)) 25 6 (getI imm 5 6)) 7 1 (getI imm 11 1)) 31 1 (getI imm 12 1)) 15 5 rs1) 20 5 rs2 w23) fun w25 M25 => ?_
        refine Kw.pure (.int .u64 (u (putI (putI (putI (putI (putI (putI (putI (putI 0#64 0 7 (cd k)) 12 3 (ff k)) 8 4 (getI imm 1 4)) 25 6 (getI imm 5 6)) 7 1 (getI imm 11 1)) 31 1 (getI imm 12 1)) 15 5 rs1) 20 5 rs2))) (by kernel_rfl) (by kernel_rfl) ?_
        refine Kw.fin ?_
        refine Kw.block_normal ?_
        refine Kw.then_normal ?_
        refine Kw.region ?_
        refine Kw.pureS (Canon.opS .add 3 (.tmp 62) (.const (.int .i64 1)) (.int .i64 2) (.int .i64 1)) (.int .i64 3) (by kernel_rfl) (by kernel_rfl) (by kernel_rfl) ?_
        refine Kw.pure (.int .i64 3) (by kernel_rfl) (by kernel_rfl) ?_
        refine Kw.fin ?_
        refine Kw.then_normal ?_
        refine Kw.round_succ ?_
        refine wp_seq ?_
        refine Kw.region ?_
        refine Kw.pureS (Canon.opS .lss 3 (.tmp 62) (.const (.int .i64 3)) (.int .i64 3) (.int .i64 3)) (.bool false) (by kernel_rfl) (by kernel_rfl) (by kernel_rfl) ?_
        refine Kw.fin ?_
        refine Kw.then_normal ?_
        refine wp_seq ?_
        refine wp_cond_false (by kernel_rfl) ?_
        refine wp_exit ?_
        refine Kw.then_exit ?_
        refine Kw.then_exit ?_
        refine Kw.block_hit ?_
        refine Kw.then_normal ?_
        refine wp_seq ?_
        refine Kw.region ?_
        refine Kw.pure (.int .u64 (u (putI (putI (putI (putI (putI (putI (putI (putI 0#64 0 7 (cd k)) 12 3 (ff k)) 8 4 (getI imm 1 4)) 25 6 (getI imm 5 6)) 7 1 (getI imm 11 1)) 31 1 (getI imm 12 1)) 15 5 rs1) 20 5 rs2))) (by kernel_rfl) (by kernel_rfl) ?_
        refine Kw.pure (.int .u32 (u ((putI (putI (putI (putI (putI (putI (putI (putI 0#64 0 7 (cd k)) 12 3 (ff k)) 8 4 (getI imm 1 4)) 25 6 (getI imm 5 6)) 7 1 (getI imm 11 1)) 31 1 (getI imm 12 1)) 15 5 rs1) 20 5 rs2) &&& 4294967295#64))) (by kernel_rfl) (Kw.eqv (v := .int .u32 (IntKind.u32.wrap (u (putI (putI (putI (putI (putI (putI (putI (putI 0#64 0 7 (cd k)) 12 3 (ff k)) 8 4 (getI imm 1 4)) 25 6 (getI imm 5 6)) 7 1 (getI imm 11 1)) 31 1 (getI imm 12 1)) 15 5 rs1) 20 5 rs2)))) (by kernel_rfl) (congrArg (Value.int .u32) (wrap32_u (putI (putI (putI (putI (putI (putI (putI (putI 0#64 0 7 (cd k)) 12 3 (ff k)) 8 4 (getI imm 1 4)) 25 6 (getI imm 5 6)) 7 1 (getI imm 11 1)) 31 1 (getI imm 12 1)) 15 5 rs1) 20 5 rs2)))) ?_
        refine Kw.pure (.int .u32 (u ((putI (putI (putI (putI (putI (putI (putI (putI 0#64 0 7 (cd k)) 12 3 (ff k)) 8 4 (getI imm 1 4)) 25 6 (getI imm 5 6)) 7 1 (getI imm 11 1)) 31 1 (getI imm 12 1)) 15 5 rs1) 20 5 rs2) &&& 4294967295#64))) (by kernel_rfl) (by kernel_rfl) ?_
        refine Kw.pure (.bool true) (by kernel_rfl) (by kernel_rfl) ?_
        refine Kw.fin ?_
        refine Kw.then_normal ?_
        refine wp_ret ?_
        exact bodyPost_ret (v := .tuple #[.int .u32 (u ((putI (putI (putI (putI (putI (putI (putI (putI 0#64 0 7 (cd k)) 12 3 (ff k)) 8 4 (getI imm 1 4)) 25 6 (getI imm 5 6)) 7 1 (getI imm 11 1)) 31 1 (getI imm 12 1)) 15 5 rs1) 20 5 rs2) &&& 4294967295#64)), .bool true]) (by kernel_rfl) (by kernel_rfl) ⟨by simp_all [encR], M25.drop⟩
def word_U (k : Nat) (rd rs1 rs2 imm : BitVec 64) : BitVec 64 := (putI (putI (putI 0#64 0 7 (cd k)) 12 20 (getI imm 12 20)) 7 5 rd)
set_option maxRecDepth 100000 in
set_option maxHeartbeats 1000000 in
theorem enc_U (k : Nat) (hk : k < 69) (hs : sh k = 85) (rd rs1 rs2 imm : BitVec 64) (F0 : Bool) (h0 : fitB_U imm = F0) (F1 : Bool) (g1 : fitsI rd 5 false = F1) (W : World) : Calls Try.prog 25 #[.agg #[.int .i64 ((k + 1 : Nat) : Int), .int .i64 (s rd), .int .i64 (s rs1), .int .i64 (s rs2), .int .i64 (s imm)]] W fun e W' => e = .returned (encR (F0 && F1) (word_U k rd rs1 rs2 imm)) ∧ Kw.Mem [] W W' [] := by
  unfold word_U
  refine calls_of_wp Try.func25 rfl ?_
  have M0 : Kw.Mem [] W W [] := Kw.Mem.start _ _
  refine Kw.to (b := ⟨#[.agg #[.int .i64 ((k + 1 : Nat) : Int), .int .i64 (s rd), .int .i64 (s rs1), .int .i64 (s rs2), .int .i64 (s imm)], undef, undef, undef, undef, undef, undef, undef, undef, undef, undef, undef, undef, undef, undef, undef, undef, undef, undef, undef, undef, undef, undef, undef, undef, undef, undef, undef, undef, undef, undef, undef, undef, undef, undef, undef, undef, undef, undef, undef, undef, undef, undef, undef, undef, undef, undef, undef, undef, undef, undef, undef, undef, undef, undef, undef, undef, undef, undef, undef, undef, undef, undef, undef, undef, undef, undef, undef, undef, undef, undef, undef, undef, undef, undef, undef, undef, undef, undef, undef, undef, undef, undef, undef, undef], []⟩) (by kernel_rfl) ?_
  refine wp_seq ?_
  refine Kw.region ?_
  refine Kw.alloc #[.int .i64 ((k + 1 : Nat) : Int), .int .i64 (s rd), .int .i64 (s rs1), .int .i64 (s rs2), .int .i64 (s imm)] 36 M0 (by kernel_rfl) (by kernel_rfl) fun w1 B1 M1 => ?_
  refine Kw.pure (.int .u32 0) (by kernel_rfl) (by kernel_rfl) ?_
  refine Kw.pure (.bool false) (by kernel_rfl) (by kernel_rfl) ?_
  refine Kw.fin ?_
  refine Kw.then_normal ?_
  refine wp_seq ?_
  refine Kw.region ?_
  refine Kw.pure (.pointer (some ⟨B1, 0, none⟩)) (by kernel_rfl) (by kernel_rfl) ?_
  refine Kw.pureS (Canon.ldS 3 (.pointer (some ⟨B1, 0, none⟩))) (.int .i64 ((k + 1 : Nat) : Int)) (by kernel_rfl) (by kernel_rfl) (Kw.ld_cell 3 0 (.int .i64 ((k + 1 : Nat) : Int)) (M1.get 0 rfl) (by kernel_rfl) _ Try.underlying3 rfl) ?_
  refine Kw.call (.tuple #[.agg #[.string (nm k), .int .u8 85, .int .u64 (u (cd k)), .int .u64 (u (ff k)), .int .u64 (u (ot k))], .bool true]) 41 #[.int .i64 ((k + 1 : Nat) : Int)] M1 (by kernel_rfl) (by kernel_rfl) (of_sh 85 k hk hs w1) fun w2 M2 => ?_
  refine Kw.pure (.tuple #[.agg #[.string (nm k), .int .u8 85, .int .u64 (u (cd k)), .int .u64 (u (ff k)), .int .u64 (u (ot k))], .bool true]) (by kernel_rfl) (by kernel_rfl) ?_
  refine Kw.pure (.agg #[.string (nm k), .int .u8 85, .int .u64 (u (cd k)), .int .u64 (u (ff k)), .int .u64 (u (ot k))]) (by kernel_rfl) (by kernel_rfl) ?_
  refine Kw.pure (.bool true) (by kernel_rfl) (by kernel_rfl) ?_
  refine Kw.alloc #[.string ⟨#[]⟩, .int .u8 0, .int .u64 0, .int .u64 0, .int .u64 0] 59 M2 (by kernel_rfl) (by kernel_rfl) fun w3 B3 M3 => ?_
  refine Kw.storeAll 0 59 #[.string (nm k), .int .u8 85, .int .u64 (u (cd k)), .int .u64 (u (ff k)), .int .u64 (u (ot k))] M3 rfl (by kernel_rfl) (by kernel_rfl) (by kernel_rfl) (by kernel_rfl) (by kernel_rfl) fun w4 M4 => ?_
  refine Kw.pure (.bool true) (by kernel_rfl) (by kernel_rfl) ?_
  refine Kw.fin ?_
  refine Kw.then_normal ?_
  refine wp_seq ?_
  refine wp_seq ?_
  refine Held.start (fun w => Kw.Mem [] W w [(B3, #[.string (nm k), .int .u8 85, .int .u64 (u (cd k)), .int .u64 (u (ff k)), .int .u64 (u (ot k))], 59), (B1, #[.int .i64 ((k + 1 : Nat) : Int), .int .i64 (s rd), .int .i64 (s rs1), .int .i64 (s rs2), .int .i64 (s imm)], 36)]) (by kernel_rfl) ?_
  have M5 := M4.drew
  have MS := M5
  refine Held.takeP 0 (.bool true) rfl (by decide +kernel) (by decide +kernel) (by decide +kernel) (by kernel_rfl) (fun w => by kernel_rfl) MS ?_
  refine Held.takeP 1 (.bool false) rfl (by decide +kernel) (by decide +kernel) (by decide +kernel) (by kernel_rfl) (fun w => by kernel_rfl) MS ?_
  refine Held.takeP 2 (.bool false) rfl (by decide +kernel) (by decide +kernel) (by decide +kernel) (by kernel_rfl) (fun w => by kernel_rfl) MS ?_
  refine Held.takeP 3 (.pointer (some ⟨B3, 1, none⟩)) rfl (by decide +kernel) (by decide +kernel) (by decide +kernel) (by kernel_rfl) (fun w => by kernel_rfl) MS ?_
  refine Held.take 4 (Canon.ldS 5 (.pointer (some ⟨B3, 1, none⟩))) (.int .u8 85) rfl (by decide +kernel) (by decide +kernel) (by decide +kernel) (by kernel_rfl) (by kernel_rfl) (fun w hw => Kw.ld_cell 5 1 (.int .u8 85) (hw.get 0 rfl) (by kernel_rfl) _ Try.underlying5 rfl) MS ?_
  refine Held.takeP 6 (.pointer (some ⟨B1, 4, none⟩)) rfl (by decide +kernel) (by decide +kernel) (by decide +kernel) (by kernel_rfl) (fun w => by kernel_rfl) MS ?_
  refine Held.take 7 (Canon.ldS 2 (.pointer (some ⟨B1, 4, none⟩))) (.int .i64 (s imm)) rfl (by decide +kernel) (by decide +kernel) (by decide +kernel) (by kernel_rfl) (by kernel_rfl) (fun w hw => Kw.ld_cell 2 4 (.int .i64 (s imm)) (hw.get 1 rfl) (by kernel_rfl) _ Try.underlying2 rfl) MS ?_
  refine Held.oneCall (ι := Nat) 5 (fun B => (.agg #[.slice (some ⟨B, 0, none⟩) 1 1, .int .i64 32, .bool true, .int .i64 12])) 42 #[.int .u8 85] (R := fun B w1 => Kw.Mem [] (w4.drew) w1 [(B, #[.int .i64 12, .int .i64 20, .int .i64 12], 89)]) rfl (by decide +kernel) (by kernel_rfl) (by kernel_rfl) (laid_U (w4.drew)) fun B6 w6 hc => ?_
  have M6 := Held.mem_new M5 hc
  clear hc
  refine ⟨(Held.mem_tail M6), ?_⟩
  have MS := (Held.mem_tail M6)
  refine Held.oneCall (ι := Unit) 8 (fun _ => (.bool F0)) 43 #[.agg #[.slice (some ⟨B6, 0, none⟩) 1 1, .int .i64 32, .bool true, .int .i64 12], .int .i64 (s imm)] (R := fun _ w1 => Kw.Mem [] w6 w1 []) rfl (by decide +kernel) (by kernel_rfl) (by kernel_rfl) (Held.unit (by have h := fit_U imm w6 B6 (Held.mem_of M6 0 rfl); rw [h0] at h; exact h)) fun _ w7 hc => ?_
  have M7 := M6.call hc
  clear hc
  refine ⟨(Held.mem_tail M7), ?_⟩
  have MS := (Held.mem_tail M7)
  refine Held.takeP 9 (.bool (!F0)) rfl (by decide +kernel) (by decide +kernel) (by decide +kernel) (by kernel_rfl) (fun w => by kernel_rfl) MS ?_
  refine Held.takeP 10 (.bool (!F0)) rfl (by decide +kernel) (by decide +kernel) (by decide +kernel) (by kernel_rfl) (fun w => by kernel_rfl) MS ?_
  refine Held.done (by decide +kernel) ?_
  refine Kw.then_normal ?_
  refine wp_cond_split (t := (!F0)) (by kernel_rfl) (fun h8 => ?_) (fun h8 => ?_)
  · skip
    refine wp_seq ?_
    refine Kw.region ?_
    refine Kw.pure (.int .u32 0) (by kernel_rfl) (by kernel_rfl) ?_
    refine Kw.pure (.bool false) (by kernel_rfl) (by kernel_rfl) ?_
    refine Kw.fin ?_
    refine Kw.then_normal ?_
    refine wp_ret ?_
    refine Kw.then_ret ?_
    exact bodyPost_ret (v := .tuple #[.int .u32 0, .bool false]) (by kernel_rfl) (by kernel_rfl) ⟨by simp_all [encR], M7.drop⟩
  · skip
    refine wp_skip ?_
    refine Kw.then_normal ?_
    refine wp_seq ?_
    refine Kw.region ?_
    refine Kw.pureS (Canon.ldS 59 (.pointer (some ⟨B3, 0, none⟩))) (.agg #[.string (nm k), .int .u8 85, .int .u64 (u (cd k)), .int .u64 (u (ff k)), .int .u64 (u (ot k))]) (by kernel_rfl) (by kernel_rfl) (Kw.ld_all 59 (M7.get 1 rfl) _ Try.underlying59 rfl (by kernel_rfl)) ?_
    refine Kw.call (.tuple #[.int .u64 (u (putI 0#64 0 7 (cd k))), .int .u64 (u (putI 0#64 0 7 18446744073709551615#64))]) 44 #[.agg #[.string (nm k), .int .u8 85, .int .u64 (u (cd k)), .int .u64 (u (ff k)), .int .u64 (u (ot k))]] M7 (by kernel_rfl) (by kernel_rfl) (fixed_U (nm k) (cd k) (ff k) (ot k) w7) fun w9 M9 => ?_
    refine Kw.pure (.tuple #[.int .u64 (u (putI 0#64 0 7 (cd k))), .int .u64 (u (putI 0#64 0 7 18446744073709551615#64))]) (by kernel_rfl) (by kernel_rfl) ?_
    refine Kw.pure (.int .u64 (u (putI 0#64 0 7 (cd k)))) (by kernel_rfl) (by kernel_rfl) ?_
    refine Kw.pure (.int .u64 (u (putI 0#64 0 7 18446744073709551615#64))) (by kernel_rfl) (by kernel_rfl) ?_
    refine Kw.pure (.int .u64 (u (putI 0#64 0 7 (cd k)))) (by kernel_rfl) (by kernel_rfl) ?_
    refine Kw.pure (.int .u64 (u (putI 0#64 0 7 18446744073709551615#64))) (by kernel_rfl) (by kernel_rfl) ?_
    refine Kw.fin ?_
    refine Kw.then_normal ?_
    refine wp_seq ?_
    refine Kw.region ?_
    refine Kw.pure (.pointer (some ⟨B3, 1, none⟩)) (by kernel_rfl) (by kernel_rfl) ?_
    refine Kw.pureS (Canon.ldS 5 (.pointer (some ⟨B3, 1, none⟩))) (.int .u8 85) (by kernel_rfl) (by kernel_rfl) (Kw.ld_cell 5 1 (.int .u8 85) (M9.get 1 rfl) (by kernel_rfl) _ Try.underlying5 rfl) ?_
    refine Kw.call (.tuple #[.bool true, .bool false, .bool false]) 45 #[.int .u8 85] M9 (by kernel_rfl) (by kernel_rfl) (has_U w9) fun w10 M10 => ?_
    refine Kw.pure (.tuple #[.bool true, .bool false, .bool false]) (by kernel_rfl) (by kernel_rfl) ?_
    refine Kw.pure (.bool true) (by kernel_rfl) (by kernel_rfl) ?_
    refine Kw.pure (.bool false) (by kernel_rfl) (by kernel_rfl) ?_
    refine Kw.pure (.bool false) (by kernel_rfl) (by kernel_rfl) ?_
    refine Kw.pure (.bool true) (by kernel_rfl) (by kernel_rfl) ?_
    refine Kw.pure (.bool false) (by kernel_rfl) (by kernel_rfl) ?_
    refine Kw.pure (.bool false) (by kernel_rfl) (by kernel_rfl) ?_
    refine Kw.fin ?_
    refine Kw.then_normal ?_
    refine wp_seq ?_
    refine Held.start (fun w => Kw.Mem [] W w [(B6, #[.int .i64 12, .int .i64 20, .int .i64 12], 89), (B3, #[.string (nm k), .int .u8 85, .int .u64 (u (cd k)), .int .u64 (u (ff k)), .int .u64 (u (ot k))], 59), (B1, #[.int .i64 ((k + 1 : Nat) : Int), .int .i64 (s rd), .int .i64 (s rs1), .int .i64 (s rs2), .int .i64 (s imm)], 36)]) (by kernel_rfl) ?_
    have M11 := M10.drew
    have MS := M11
    refine Held.takeP 0 (.pointer (some ⟨B3, 1, none⟩)) rfl (by decide +kernel) (by decide +kernel) (by decide +kernel) (by kernel_rfl) (fun w => by kernel_rfl) MS ?_
    refine Held.take 1 (Canon.ldS 5 (.pointer (some ⟨B3, 1, none⟩))) (.int .u8 85) rfl (by decide +kernel) (by decide +kernel) (by decide +kernel) (by kernel_rfl) (by kernel_rfl) (fun w hw => Kw.ld_cell 5 1 (.int .u8 85) (hw.get 1 rfl) (by kernel_rfl) _ Try.underlying5 rfl) MS ?_
    refine Held.takeP 3 (.int .u64 (u (putI 0#64 0 7 (cd k)))) rfl (by decide +kernel) (by decide +kernel) (by decide +kernel) (by kernel_rfl) (fun w => by kernel_rfl) MS ?_
    refine Held.takeP 4 (.pointer (some ⟨B1, 4, none⟩)) rfl (by decide +kernel) (by decide +kernel) (by decide +kernel) (by kernel_rfl) (fun w => by kernel_rfl) MS ?_
    refine Held.take 5 (Canon.ldS 2 (.pointer (some ⟨B1, 4, none⟩))) (.int .i64 (s imm)) rfl (by decide +kernel) (by decide +kernel) (by decide +kernel) (by kernel_rfl) (by kernel_rfl) (fun w hw => Kw.ld_cell 2 4 (.int .i64 (s imm)) (hw.get 2 rfl) (by kernel_rfl) _ Try.underlying2 rfl) MS ?_
    refine Held.oneCall (ι := Nat) 2 (fun B => (.agg #[.slice (some ⟨B, 0, none⟩) 1 1, .int .i64 32, .bool true, .int .i64 12])) 42 #[.int .u8 85] (R := fun B w1 => Kw.Mem [] (w10.drew) w1 [(B, #[.int .i64 12, .int .i64 20, .int .i64 12], 89)]) rfl (by decide +kernel) (by kernel_rfl) (by kernel_rfl) (laid_U (w10.drew)) fun B12 w12 hc => ?_
    have M12 := Held.mem_new M11 hc
    clear hc
    refine ⟨(Held.mem_tail M12), ?_⟩
    have MS := (Held.mem_tail M12)
    refine Held.oneCall (ι := Unit) 6 (fun _ => (.int .u64 (u (putI (putI 0#64 0 7 (cd k)) 12 20 (getI imm 12 20))))) 46 #[.agg #[.slice (some ⟨B12, 0, none⟩) 1 1, .int .i64 32, .bool true, .int .i64 12], .int .u64 (u (putI 0#64 0 7 (cd k))), .int .i64 (s imm)] (R := fun _ w1 => Kw.Mem [] w12 w1 []) rfl (by decide +kernel) (by kernel_rfl) (by kernel_rfl) (Held.unit (lay_U (putI 0#64 0 7 (cd k)) imm w12 B12 (Held.mem_of M12 0 rfl))) fun _ w13 hc => ?_
    have M13 := M12.call hc
    clear hc
    refine ⟨(Held.mem_tail M13), ?_⟩
    have MS := (Held.mem_tail M13)
    refine Held.takeP 7 (.int .u64 (u (putI (putI 0#64 0 7 (cd k)) 12 20 (getI imm 12 20)))) rfl (by decide +kernel) (by decide +kernel) (by decide +kernel) (by kernel_rfl) (fun w => by kernel_rfl) MS ?_
    refine Held.done (by decide +kernel) ?_
    refine Kw.then_normal ?_
    refine wp_seq ?_
    refine wp_seq ?_
    refine Kw.region ?_
    refine Kw.pure (.bool true) (by kernel_rfl) (by kernel_rfl) ?_
    refine Kw.pure (.pointer (some ⟨B1, 1, none⟩)) (by kernel_rfl) (by kernel_rfl) ?_
    refine Kw.pureS (Canon.ldS 3 (.pointer (some ⟨B1, 1, none⟩))) (.int .i64 (s rd)) (by kernel_rfl) (by kernel_rfl) (Kw.ld_cell 3 1 (.int .i64 (s rd)) (M13.get 3 rfl) (by kernel_rfl) _ Try.underlying3 rfl) ?_
    refine Kw.pure (.agg #[.bool true, .int .i64 7, .int .i64 (s rd)]) (by kernel_rfl) (by kernel_rfl) ?_
    refine Kw.pure (.bool false) (by kernel_rfl) (by kernel_rfl) ?_
    refine Kw.pure (.pointer (some ⟨B1, 2, none⟩)) (by kernel_rfl) (by kernel_rfl) ?_
    refine Kw.pureS (Canon.ldS 3 (.pointer (some ⟨B1, 2, none⟩))) (.int .i64 (s rs1)) (by kernel_rfl) (by kernel_rfl) (Kw.ld_cell 3 2 (.int .i64 (s rs1)) (M13.get 3 rfl) (by kernel_rfl) _ Try.underlying3 rfl) ?_
    refine Kw.pure (.agg #[.bool false, .int .i64 15, .int .i64 (s rs1)]) (by kernel_rfl) (by kernel_rfl) ?_
    refine Kw.pure (.bool false) (by kernel_rfl) (by kernel_rfl) ?_
    refine Kw.pure (.pointer (some ⟨B1, 3, none⟩)) (by kernel_rfl) (by kernel_rfl) ?_
    refine Kw.pureS (Canon.ldS 3 (.pointer (some ⟨B1, 3, none⟩))) (.int .i64 (s rs2)) (by kernel_rfl) (by kernel_rfl) (Kw.ld_cell 3 3 (.int .i64 (s rs2)) (M13.get 3 rfl) (by kernel_rfl) _ Try.underlying3 rfl) ?_
    refine Kw.pure (.agg #[.bool false, .int .i64 20, .int .i64 (s rs2)]) (by kernel_rfl) (by kernel_rfl) ?_
    refine Kw.pure (.agg #[.bool true, .int .i64 7, .int .i64 (s rd), .bool false, .int .i64 15, .int .i64 (s rs1), .bool false, .int .i64 20, .int .i64 (s rs2)]) (by kernel_rfl) (by kernel_rfl) ?_
    refine Kw.pure (.int .i64 0) (by kernel_rfl) (by kernel_rfl) ?_
    refine Kw.fin ?_
    refine Kw.then_normal ?_
    refine wp_block ?_
    refine wp_loop_rounds 4 ?_
    refine Kw.round_succ ?_
    refine wp_seq ?_
    refine Kw.region ?_
    refine Kw.pureS (Canon.opS .lss 3 (.tmp 62) (.const (.int .i64 3)) (.int .i64 0) (.int .i64 3)) (.bool true) (by kernel_rfl) (by kernel_rfl) (by kernel_rfl) ?_
    refine Kw.fin ?_
    refine Kw.then_normal ?_
    refine wp_seq ?_
    refine wp_cond_true (by kernel_rfl) ?_
    refine wp_skip ?_
    refine Kw.then_normal ?_
    refine wp_seq ?_
    refine wp_block ?_
    refine wp_seq ?_
    refine Kw.region ?_
    refine Kw.pure (.agg #[.bool true, .int .i64 7, .int .i64 (s rd)]) (by kernel_rfl) (by kernel_rfl) ?_
    refine Kw.alloc #[.bool false, .int .i64 0, .int .i64 0] 72 M13 (by kernel_rfl) (by kernel_rfl) fun w14 B14 M14 => ?_
    refine Kw.storeAll 0 72 #[.bool true, .int .i64 7, .int .i64 (s rd)] M14 rfl (by kernel_rfl) (by kernel_rfl) (by kernel_rfl) (by kernel_rfl) (by kernel_rfl) fun w15 M15 => ?_
    refine Kw.fin ?_
    refine Kw.then_normal ?_
    refine wp_seq ?_
    refine wp_seq ?_
    refine Kw.region ?_
    refine Kw.pure (.pointer (some ⟨B14, 0, none⟩)) (by kernel_rfl) (by kernel_rfl) ?_
    refine Kw.pureS (Canon.ldS 4 (.pointer (some ⟨B14, 0, none⟩))) (.bool true) (by kernel_rfl) (by kernel_rfl) (Kw.ld_cell 4 0 (.bool true) (M15.get 0 rfl) (by kernel_rfl) _ Try.underlying4 rfl) ?_
    refine Kw.pure (.bool true) (by kernel_rfl) (by kernel_rfl) ?_
    refine Kw.pure (.pointer (some ⟨B14, 2, none⟩)) (by kernel_rfl) (by kernel_rfl) ?_
    refine Kw.pureS (Canon.ldS 3 (.pointer (some ⟨B14, 2, none⟩))) (.int .i64 (s rd)) (by kernel_rfl) (by kernel_rfl) (Kw.ld_cell 3 2 (.int .i64 (s rd)) (M15.get 0 rfl) (by kernel_rfl) _ Try.underlying3 rfl) ?_
    refine Kw.call (.bool F1) 47 #[.int .i64 (s rd), .int .i64 5, .bool false] M15 (by kernel_rfl) (by kernel_rfl) (by have h := fits_c rd 5 false w15; rw [g1] at h; exact h) fun w16 M16 => ?_
    refine Kw.pure (.bool (!F1)) (by kernel_rfl) (by kernel_rfl) ?_
    refine Kw.pure (.bool (!F1)) (by kernel_rfl) (by kernel_rfl) ?_
    refine Kw.fin ?_
    refine Kw.then_normal ?_
    refine wp_cond_split (t := (!F1)) (by kernel_rfl) (fun h17 => ?_) (fun h17 => ?_)
    · skip
      refine wp_seq ?_
      refine Kw.region ?_
      refine Kw.pure (.int .u32 0) (by kernel_rfl) (by kernel_rfl) ?_
      refine Kw.pure (.bool false) (by kernel_rfl) (by kernel_rfl) ?_
      refine Kw.fin ?_
      refine Kw.then_normal ?_
      refine wp_ret ?_
      refine Kw.then_ret ?_
      refine Kw.block_ret ?_
      refine Kw.then_ret ?_
      refine Kw.then_ret ?_
      refine Kw.block_ret ?_
      refine Kw.then_ret ?_
      exact bodyPost_ret (v := .tuple #[.int .u32 0, .bool false]) (by kernel_rfl) (by kernel_rfl) ⟨by simp_all [encR], M16.drop⟩
    · skip
      refine wp_skip ?_
      refine Kw.then_normal ?_
      refine wp_seq ?_
      refine Kw.region ?_
      refine Kw.pure (.pointer (some ⟨B14, 0, none⟩)) (by kernel_rfl) (by kernel_rfl) ?_
      refine Kw.pureS (Canon.ldS 4 (.pointer (some ⟨B14, 0, none⟩))) (.bool true) (by kernel_rfl) (by kernel_rfl) (Kw.ld_cell 4 0 (.bool true) (M16.get 0 rfl) (by kernel_rfl) _ Try.underlying4 rfl) ?_
      refine Kw.fin ?_
      refine Kw.then_normal ?_
      refine wp_cond_true (by kernel_rfl) ?_
      refine Kw.region ?_
      refine Kw.pure (.int .u64 (u (putI (putI 0#64 0 7 (cd k)) 12 20 (getI imm 12 20)))) (by kernel_rfl) (by kernel_rfl) ?_
      refine Kw.pure (.pointer (some ⟨B14, 1, none⟩)) (by kernel_rfl) (by kernel_rfl) ?_
      refine Kw.pureS (Canon.ldS 3 (.pointer (some ⟨B14, 1, none⟩))) (.int .i64 7) (by kernel_rfl) (by kernel_rfl) (Kw.ld_cell 3 1 (.int .i64 7) (M16.get 0 rfl) (by kernel_rfl) _ Try.underlying3 rfl) ?_
      refine Kw.pure (.pointer (some ⟨B14, 2, none⟩)) (by kernel_rfl) (by kernel_rfl) ?_
      refine Kw.pureS (Canon.ldS 3 (.pointer (some ⟨B14, 2, none⟩))) (.int .i64 (s rd)) (by kernel_rfl) (by kernel_rfl) (Kw.ld_cell 3 2 (.int .i64 (s rd)) (M16.get 0 rfl) (by kernel_rfl) _ Try.underlying3 rfl) ?_
      refine Kw.pure (.int .u64 (u rd)) (by kernel_rfl) (Kw.eqv (v := .int .u64 (IntKind.u64.wrap (s rd))) (by kernel_rfl) (congrArg (Value.int .u64) (wrap_s rd))) ?_
      refine Kw.call (.int .u64 (u (putI (putI (putI 0#64 0 7 (cd k)) 12 20 (getI imm 12 20)) 7 5 rd))) 48 #[.int .u64 (u (putI (putI 0#64 0 7 (cd k)) 12 20 (getI imm 12 20))), .int .i64 7, .int .i64 5, .int .u64 (u rd)] M16 (by kernel_rfl) (by kernel_rfl) (put_c (putI (putI 0#64 0 7 (cd k)) 12 20 (getI imm 12 20)) 7 5 rd w16) fun w18 M18 => ?_
      refine Kw.pure (.int .u64 (u (putI (putI (putI 0#64 0 7 (cd k)) 12 20 (getI imm 12 20)) 7 5 rd))) (by kernel_rfl) (by kernel_rfl) ?_
      refine Kw.fin ?_
      refine Kw.block_normal ?_
      refine Kw.then_normal ?_
      refine Kw.region ?_
      refine Kw.pureS (Canon.opS .add 3 (.tmp 62) (.const (.int .i64 1)) (.int .i64 0) (.int .i64 1)) (.int .i64 1) (by kernel_rfl) (by kernel_rfl) (by kernel_rfl) ?_
      refine Kw.pure (.int .i64 1) (by kernel_rfl) (by kernel_rfl) ?_
      refine Kw.fin ?_
      refine Kw.then_normal ?_
      refine Kw.round_succ ?_
      refine wp_seq ?_
      refine Kw.region ?_
      refine Kw.pureS (Canon.opS .lss 3 (.tmp 62) (.const (.int .i64 3)) (.int .i64 1) (.int .i64 3)) (.bool true) (by kernel_rfl) (by kernel_rfl) (by kernel_rfl) ?_
      refine Kw.fin ?_
      refine Kw.then_normal ?_
      refine wp_seq ?_
      refine wp_cond_true (by kernel_rfl) ?_
      refine wp_skip ?_
      refine Kw.then_normal ?_
      refine wp_seq ?_
      refine wp_block ?_
      refine wp_seq ?_
      refine Kw.region ?_
      refine Kw.pure (.agg #[.bool false, .int .i64 15, .int .i64 (s rs1)]) (by kernel_rfl) (by kernel_rfl) ?_
      refine Kw.alloc #[.bool false, .int .i64 0, .int .i64 0] 72 M18 (by kernel_rfl) (by kernel_rfl) fun w19 B19 M19 => ?_
      refine Kw.storeAll 0 72 #[.bool false, .int .i64 15, .int .i64 (s rs1)] M19 rfl (by kernel_rfl) (by kernel_rfl) (by kernel_rfl) (by kernel_rfl) (by kernel_rfl) fun w20 M20 => ?_
      refine Kw.fin ?_
      refine Kw.then_normal ?_
      refine wp_seq ?_
      refine wp_seq ?_
      refine Kw.region ?_
      refine Kw.pure (.pointer (some ⟨B19, 0, none⟩)) (by kernel_rfl) (by kernel_rfl) ?_
      refine Kw.pureS (Canon.ldS 4 (.pointer (some ⟨B19, 0, none⟩))) (.bool false) (by kernel_rfl) (by kernel_rfl) (Kw.ld_cell 4 0 (.bool false) (M20.get 0 rfl) (by kernel_rfl) _ Try.underlying4 rfl) ?_
      refine Kw.pure (.bool false) (by kernel_rfl) (by kernel_rfl) ?_
      refine Kw.skip (by kernel_rfl) ?_
      refine Kw.skip (by kernel_rfl) ?_
      refine Kw.skip (by kernel_rfl) ?_
      refine Kw.skip (by kernel_rfl) ?_
      refine Kw.pure (.bool false) (by kernel_rfl) (by kernel_rfl) ?_
      refine Kw.fin ?_
      refine Kw.then_normal ?_
      refine wp_cond_false (by kernel_rfl) ?_
      refine wp_skip ?_
      refine Kw.then_normal ?_
      refine wp_seq ?_
      refine Kw.region ?_
      refine Kw.pure (.pointer (some ⟨B19, 0, none⟩)) (by kernel_rfl) (by kernel_rfl) ?_
      refine Kw.pureS (Canon.ldS 4 (.pointer (some ⟨B19, 0, none⟩))) (.bool false) (by kernel_rfl) (by kernel_rfl) (Kw.ld_cell 4 0 (.bool false) (M20.get 0 rfl) (by kernel_rfl) _ Try.underlying4 rfl) ?_
      refine Kw.fin ?_
      refine Kw.then_normal ?_
      refine wp_cond_false (by kernel_rfl) ?_
      refine wp_skip ?_
      refine Kw.block_normal ?_
      refine Kw.then_normal ?_
      refine Kw.region ?_
      refine Kw.pureS (Canon.opS .add 3 (.tmp 62) (.const (.int .i64 1)) (.int .i64 1) (.int .i64 1)) (.int .i64 2) (by kernel_rfl) (by kernel_rfl) (by kernel_rfl) ?_
      refine Kw.pure (.int .i64 2) (by kernel_rfl) (by kernel_rfl) ?_
      refine Kw.fin ?_
      refine Kw.then_normal ?_
      refine Kw.round_succ ?_
      refine wp_seq ?_
      refine Kw.region ?_
      refine Kw.pureS (Canon.opS .lss 3 (.tmp 62) (.const (.int .i64 3)) (.int .i64 2) (.int .i64 3)) (.bool true) (by kernel_rfl) (by kernel_rfl) (by kernel_rfl) ?_
      refine Kw.fin ?_
      refine Kw.then_normal ?_
      refine wp_seq ?_
      refine wp_cond_true (by kernel_rfl) ?_
      refine wp_skip ?_
      refine Kw.then_normal ?_
      refine wp_seq ?_
      refine wp_block ?_
      refine wp_seq ?_
      refine Kw.region ?_
      refine Kw.pure (.agg #[.bool false, .int .i64 20, .int .i64 (s rs2)]) (by kernel_rfl) (by kernel_rfl) ?_
      refine Kw.alloc #[.bool false, .int .i64 0, .int .i64 0] 72 M20 (by kernel_rfl) (by kernel_rfl) fun w21 B21 M21 => ?_
      refine Kw.storeAll 0 72 #[.bool false, .int .i64 20, .int .i64 (s rs2)] M21 rfl (by kernel_rfl) (by kernel_rfl) (by kernel_rfl) (by kernel_rfl) (by kernel_rfl) fun w22 M22 => ?_
      refine Kw.fin ?_
      refine Kw.then_normal ?_
      refine wp_seq ?_
      refine wp_seq ?_
      refine Kw.region ?_
      refine Kw.pure (.pointer (some ⟨B21, 0, none⟩)) (by kernel_rfl) (by kernel_rfl) ?_
      refine Kw.pureS (Canon.ldS 4 (.pointer (some ⟨B21, 0, none⟩))) (.bool false) (by kernel_rfl) (by kernel_rfl) (Kw.ld_cell 4 0 (.bool false) (M22.get 0 rfl) (by kernel_rfl) _ Try.underlying4 rfl) ?_
      refine Kw.pure (.bool false) (by kernel_rfl) (by kernel_rfl) ?_
      refine Kw.skip (by kernel_rfl) ?_
      refine Kw.skip (by kernel_rfl) ?_
      refine Kw.skip (by kernel_rfl) ?_
      refine Kw.skip (by kernel_rfl) ?_
      refine Kw.pure (.bool false) (by kernel_rfl) (by kernel_rfl) ?_
      refine Kw.fin ?_
      refine Kw.then_normal ?_
      refine wp_cond_false (by kernel_rfl) ?_
      refine wp_skip ?_
      refine Kw.then_normal ?_
      refine wp_seq ?_
      refine Kw.region ?_
      refine Kw.pure (.pointer (some ⟨B21, 0, none⟩)) (by kernel_rfl) (by kernel_rfl) ?_
      refine Kw.pureS (Canon.ldS 4 (.pointer (some ⟨B21, 0, none⟩))) (.bool false) (by kernel_rfl) (by kernel_rfl) (Kw.ld_cell 4 0 (.bool false) (M22.get 0 rfl) (by kernel_rfl) _ Try.underlying4 rfl) ?_
      refine Kw.fin ?_
      refine Kw.then_normal ?_
      refine wp_cond_false (by kernel_rfl) ?_
      refine wp_skip ?_
      refine Kw.block_normal ?_
      refine Kw.then_normal ?_
      refine Kw.region ?_
      refine Kw.pureS (Canon.opS .add 3 (.tmp 62) (.const (.int .i64 1)) (.int .i64 2) (.int .i64 1)) (.int .i64 3) (by kernel_rfl) (by kernel_rfl) (by kernel_rfl) ?_
      refine Kw.pure (.int .i64 3) (by kernel_rfl) (by kernel_rfl) ?_
      refine Kw.fin ?_
      refine Kw.then_normal ?_
      refine Kw.round_succ ?_
      refine wp_seq ?_
      refine Kw.region ?_
      refine Kw.pureS (Canon.opS .lss 3 (.tmp 62) (.const (.int .i64 3)) (.int .i64 3) (.int .i64 3)) (.bool false) (by kernel_rfl) (by kernel_rfl) (by kernel_rfl) ?_
      refine Kw.fin ?_
      refine Kw.then_normal ?_
      refine wp_seq ?_
      refine wp_cond_false (by kernel_rfl) ?_
      refine wp_exit ?_
      refine Kw.then_exit ?_
      refine Kw.then_exit ?_
      refine Kw.block_hit ?_
      refine Kw.then_normal ?_
      refine wp_seq ?_
      refine Kw.region ?_
      refine Kw.pure (.int .u64 (u (putI (putI (putI 0#64 0 7 (cd k)) 12 20 (getI imm 12 20)) 7 5 rd))) (by kernel_rfl) (by kernel_rfl) ?_
      refine Kw.pure (.int .u32 (u ((putI (putI (putI 0#64 0 7 (cd k)) 12 20 (getI imm 12 20)) 7 5 rd) &&& 4294967295#64))) (by kernel_rfl) (Kw.eqv (v := .int .u32 (IntKind.u32.wrap (u (putI (putI (putI 0#64 0 7 (cd k)) 12 20 (getI imm 12 20)) 7 5 rd)))) (by kernel_rfl) (congrArg (Value.int .u32) (wrap32_u (putI (putI (putI 0#64 0 7 (cd k)) 12 20 (getI imm 12 20)) 7 5 rd)))) ?_
      refine Kw.pure (.int .u32 (u ((putI (putI (putI 0#64 0 7 (cd k)) 12 20 (getI imm 12 20)) 7 5 rd) &&& 4294967295#64))) (by kernel_rfl) (by kernel_rfl) ?_
      refine Kw.pure (.bool true) (by kernel_rfl) (by kernel_rfl) ?_
      refine Kw.fin ?_
      refine Kw.then_normal ?_
      refine wp_ret ?_
      exact bodyPost_ret (v := .tuple #[.int .u32 (u ((putI (putI (putI 0#64 0 7 (cd k)) 12 20 (getI imm 12 20)) 7 5 rd) &&& 4294967295#64)), .bool true]) (by kernel_rfl) (by kernel_rfl) ⟨by simp_all [encR], M22.drop⟩
def word_J (k : Nat) (rd rs1 rs2 imm : BitVec 64) : BitVec 64 := (putI (putI (putI (putI (putI (putI 0#64 0 7 (cd k)) 12 8 (getI imm 12 8)) 20 1 (getI imm 11 1)) 21 10 (getI imm 1 10)) 31 1 (getI imm 20 1)) 7 5 rd)
set_option maxRecDepth 100000 in
set_option maxHeartbeats 1000000 in
theorem enc_J (k : Nat) (hk : k < 69) (hs : sh k = 74) (rd rs1 rs2 imm : BitVec 64) (F0 : Bool) (h0 : fitB_J imm = F0) (F1 : Bool) (g1 : fitsI rd 5 false = F1) (W : World) : Calls Try.prog 25 #[.agg #[.int .i64 ((k + 1 : Nat) : Int), .int .i64 (s rd), .int .i64 (s rs1), .int .i64 (s rs2), .int .i64 (s imm)]] W fun e W' => e = .returned (encR (F0 && F1) (word_J k rd rs1 rs2 imm)) ∧ Kw.Mem [] W W' [] := by
  unfold word_J
  refine calls_of_wp Try.func25 rfl ?_
  have M0 : Kw.Mem [] W W [] := Kw.Mem.start _ _
  refine Kw.to (b := ⟨#[.agg #[.int .i64 ((k + 1 : Nat) : Int), .int .i64 (s rd), .int .i64 (s rs1), .int .i64 (s rs2), .int .i64 (s imm)], undef, undef, undef, undef, undef, undef, undef, undef, undef, undef, undef, undef, undef, undef, undef, undef, undef, undef, undef, undef, undef, undef, undef, undef, undef, undef, undef, undef, undef, undef, undef, undef, undef, undef, undef, undef, undef, undef, undef, undef, undef, undef, undef, undef, undef, undef, undef, undef, undef, undef, undef, undef, undef, undef, undef, undef, undef, undef, undef, undef, undef, undef, undef, undef, undef, undef, undef, undef, undef, undef, undef, undef, undef, undef, undef, undef, undef, undef, undef, undef, undef, undef, undef, undef], []⟩) (by kernel_rfl) ?_
  refine wp_seq ?_
  refine Kw.region ?_
  refine Kw.alloc #[.int .i64 ((k + 1 : Nat) : Int), .int .i64 (s rd), .int .i64 (s rs1), .int .i64 (s rs2), .int .i64 (s imm)] 36 M0 (by kernel_rfl) (by kernel_rfl) fun w1 B1 M1 => ?_
  refine Kw.pure (.int .u32 0) (by kernel_rfl) (by kernel_rfl) ?_
  refine Kw.pure (.bool false) (by kernel_rfl) (by kernel_rfl) ?_
  refine Kw.fin ?_
  refine Kw.then_normal ?_
  refine wp_seq ?_
  refine Kw.region ?_
  refine Kw.pure (.pointer (some ⟨B1, 0, none⟩)) (by kernel_rfl) (by kernel_rfl) ?_
  refine Kw.pureS (Canon.ldS 3 (.pointer (some ⟨B1, 0, none⟩))) (.int .i64 ((k + 1 : Nat) : Int)) (by kernel_rfl) (by kernel_rfl) (Kw.ld_cell 3 0 (.int .i64 ((k + 1 : Nat) : Int)) (M1.get 0 rfl) (by kernel_rfl) _ Try.underlying3 rfl) ?_
  refine Kw.call (.tuple #[.agg #[.string (nm k), .int .u8 74, .int .u64 (u (cd k)), .int .u64 (u (ff k)), .int .u64 (u (ot k))], .bool true]) 41 #[.int .i64 ((k + 1 : Nat) : Int)] M1 (by kernel_rfl) (by kernel_rfl) (of_sh 74 k hk hs w1) fun w2 M2 => ?_
  refine Kw.pure (.tuple #[.agg #[.string (nm k), .int .u8 74, .int .u64 (u (cd k)), .int .u64 (u (ff k)), .int .u64 (u (ot k))], .bool true]) (by kernel_rfl) (by kernel_rfl) ?_
  refine Kw.pure (.agg #[.string (nm k), .int .u8 74, .int .u64 (u (cd k)), .int .u64 (u (ff k)), .int .u64 (u (ot k))]) (by kernel_rfl) (by kernel_rfl) ?_
  refine Kw.pure (.bool true) (by kernel_rfl) (by kernel_rfl) ?_
  refine Kw.alloc #[.string ⟨#[]⟩, .int .u8 0, .int .u64 0, .int .u64 0, .int .u64 0] 59 M2 (by kernel_rfl) (by kernel_rfl) fun w3 B3 M3 => ?_
  refine Kw.storeAll 0 59 #[.string (nm k), .int .u8 74, .int .u64 (u (cd k)), .int .u64 (u (ff k)), .int .u64 (u (ot k))] M3 rfl (by kernel_rfl) (by kernel_rfl) (by kernel_rfl) (by kernel_rfl) (by kernel_rfl) fun w4 M4 => ?_
  refine Kw.pure (.bool true) (by kernel_rfl) (by kernel_rfl) ?_
  refine Kw.fin ?_
  refine Kw.then_normal ?_
  refine wp_seq ?_
  refine wp_seq ?_
  refine Held.start (fun w => Kw.Mem [] W w [(B3, #[.string (nm k), .int .u8 74, .int .u64 (u (cd k)), .int .u64 (u (ff k)), .int .u64 (u (ot k))], 59), (B1, #[.int .i64 ((k + 1 : Nat) : Int), .int .i64 (s rd), .int .i64 (s rs1), .int .i64 (s rs2), .int .i64 (s imm)], 36)]) (by kernel_rfl) ?_
  have M5 := M4.drew
  have MS := M5
  refine Held.takeP 0 (.bool true) rfl (by decide +kernel) (by decide +kernel) (by decide +kernel) (by kernel_rfl) (fun w => by kernel_rfl) MS ?_
  refine Held.takeP 1 (.bool false) rfl (by decide +kernel) (by decide +kernel) (by decide +kernel) (by kernel_rfl) (fun w => by kernel_rfl) MS ?_
  refine Held.takeP 2 (.bool false) rfl (by decide +kernel) (by decide +kernel) (by decide +kernel) (by kernel_rfl) (fun w => by kernel_rfl) MS ?_
  refine Held.takeP 3 (.pointer (some ⟨B3, 1, none⟩)) rfl (by decide +kernel) (by decide +kernel) (by decide +kernel) (by kernel_rfl) (fun w => by kernel_rfl) MS ?_
  refine Held.take 4 (Canon.ldS 5 (.pointer (some ⟨B3, 1, none⟩))) (.int .u8 74) rfl (by decide +kernel) (by decide +kernel) (by decide +kernel) (by kernel_rfl) (by kernel_rfl) (fun w hw => Kw.ld_cell 5 1 (.int .u8 74) (hw.get 0 rfl) (by kernel_rfl) _ Try.underlying5 rfl) MS ?_
  refine Held.takeP 6 (.pointer (some ⟨B1, 4, none⟩)) rfl (by decide +kernel) (by decide +kernel) (by decide +kernel) (by kernel_rfl) (fun w => by kernel_rfl) MS ?_
  refine Held.take 7 (Canon.ldS 2 (.pointer (some ⟨B1, 4, none⟩))) (.int .i64 (s imm)) rfl (by decide +kernel) (by decide +kernel) (by decide +kernel) (by kernel_rfl) (by kernel_rfl) (fun w hw => Kw.ld_cell 2 4 (.int .i64 (s imm)) (hw.get 1 rfl) (by kernel_rfl) _ Try.underlying2 rfl) MS ?_
  refine Held.oneCall (ι := Nat) 5 (fun B => (.agg #[.slice (some ⟨B, 0, none⟩) 4 4, .int .i64 21, .bool true, .int .i64 1])) 42 #[.int .u8 74] (R := fun B w1 => Kw.Mem [] (w4.drew) w1 [(B, #[.int .i64 12, .int .i64 8, .int .i64 12, .int .i64 11, .int .i64 1, .int .i64 20, .int .i64 1, .int .i64 10, .int .i64 21, .int .i64 20, .int .i64 1, .int .i64 31], 89)]) rfl (by decide +kernel) (by kernel_rfl) (by kernel_rfl) (laid_J (w4.drew)) fun B6 w6 hc => ?_
  have M6 := Held.mem_new M5 hc
  clear hc
  refine ⟨(Held.mem_tail M6), ?_⟩
  have MS := (Held.mem_tail M6)
  refine Held.oneCall (ι := Unit) 8 (fun _ => (.bool F0)) 43 #[.agg #[.slice (some ⟨B6, 0, none⟩) 4 4, .int .i64 21, .bool true, .int .i64 1], .int .i64 (s imm)] (R := fun _ w1 => Kw.Mem [] w6 w1 []) rfl (by decide +kernel) (by kernel_rfl) (by kernel_rfl) (Held.unit (by have h := fit_J imm w6 B6 (Held.mem_of M6 0 rfl); rw [h0] at h; exact h)) fun _ w7 hc => ?_
  have M7 := M6.call hc
  clear hc
  refine ⟨(Held.mem_tail M7), ?_⟩
  have MS := (Held.mem_tail M7)
  refine Held.takeP 9 (.bool (!F0)) rfl (by decide +kernel) (by decide +kernel) (by decide +kernel) (by kernel_rfl) (fun w => by kernel_rfl) MS ?_
  refine Held.takeP 10 (.bool (!F0)) rfl (by decide +kernel) (by decide +kernel) (by decide +kernel) (by kernel_rfl) (fun w => by kernel_rfl) MS ?_
  refine Held.done (by decide +kernel) ?_
  refine Kw.then_normal ?_
  refine wp_cond_split (t := (!F0)) (by kernel_rfl) (fun h8 => ?_) (fun h8 => ?_)
  · skip
    refine wp_seq ?_
    refine Kw.region ?_
    refine Kw.pure (.int .u32 0) (by kernel_rfl) (by kernel_rfl) ?_
    refine Kw.pure (.bool false) (by kernel_rfl) (by kernel_rfl) ?_
    refine Kw.fin ?_
    refine Kw.then_normal ?_
    refine wp_ret ?_
    refine Kw.then_ret ?_
    exact bodyPost_ret (v := .tuple #[.int .u32 0, .bool false]) (by kernel_rfl) (by kernel_rfl) ⟨by simp_all [encR], M7.drop⟩
  · skip
    refine wp_skip ?_
    refine Kw.then_normal ?_
    refine wp_seq ?_
    refine Kw.region ?_
    refine Kw.pureS (Canon.ldS 59 (.pointer (some ⟨B3, 0, none⟩))) (.agg #[.string (nm k), .int .u8 74, .int .u64 (u (cd k)), .int .u64 (u (ff k)), .int .u64 (u (ot k))]) (by kernel_rfl) (by kernel_rfl) (Kw.ld_all 59 (M7.get 1 rfl) _ Try.underlying59 rfl (by kernel_rfl)) ?_
    refine Kw.call (.tuple #[.int .u64 (u (putI 0#64 0 7 (cd k))), .int .u64 (u (putI 0#64 0 7 18446744073709551615#64))]) 44 #[.agg #[.string (nm k), .int .u8 74, .int .u64 (u (cd k)), .int .u64 (u (ff k)), .int .u64 (u (ot k))]] M7 (by kernel_rfl) (by kernel_rfl) (fixed_J (nm k) (cd k) (ff k) (ot k) w7) fun w9 M9 => ?_
    refine Kw.pure (.tuple #[.int .u64 (u (putI 0#64 0 7 (cd k))), .int .u64 (u (putI 0#64 0 7 18446744073709551615#64))]) (by kernel_rfl) (by kernel_rfl) ?_
    refine Kw.pure (.int .u64 (u (putI 0#64 0 7 (cd k)))) (by kernel_rfl) (by kernel_rfl) ?_
    refine Kw.pure (.int .u64 (u (putI 0#64 0 7 18446744073709551615#64))) (by kernel_rfl) (by kernel_rfl) ?_
    refine Kw.pure (.int .u64 (u (putI 0#64 0 7 (cd k)))) (by kernel_rfl) (by kernel_rfl) ?_
    refine Kw.pure (.int .u64 (u (putI 0#64 0 7 18446744073709551615#64))) (by kernel_rfl) (by kernel_rfl) ?_
    refine Kw.fin ?_
    refine Kw.then_normal ?_
    refine wp_seq ?_
    refine Kw.region ?_
    refine Kw.pure (.pointer (some ⟨B3, 1, none⟩)) (by kernel_rfl) (by kernel_rfl) ?_
    refine Kw.pureS (Canon.ldS 5 (.pointer (some ⟨B3, 1, none⟩))) (.int .u8 74) (by kernel_rfl) (by kernel_rfl) (Kw.ld_cell 5 1 (.int .u8 74) (M9.get 1 rfl) (by kernel_rfl) _ Try.underlying5 rfl) ?_
    refine Kw.call (.tuple #[.bool true, .bool false, .bool false]) 45 #[.int .u8 74] M9 (by kernel_rfl) (by kernel_rfl) (has_J w9) fun w10 M10 => ?_
    refine Kw.pure (.tuple #[.bool true, .bool false, .bool false]) (by kernel_rfl) (by kernel_rfl) ?_
    refine Kw.pure (.bool true) (by kernel_rfl) (by kernel_rfl) ?_
    refine Kw.pure (.bool false) (by kernel_rfl) (by kernel_rfl) ?_
    refine Kw.pure (.bool false) (by kernel_rfl) (by kernel_rfl) ?_
    refine Kw.pure (.bool true) (by kernel_rfl) (by kernel_rfl) ?_
    refine Kw.pure (.bool false) (by kernel_rfl) (by kernel_rfl) ?_
    refine Kw.pure (.bool false) (by kernel_rfl) (by kernel_rfl) ?_
    refine Kw.fin ?_
    refine Kw.then_normal ?_
    refine wp_seq ?_
    refine Held.start (fun w => Kw.Mem [] W w [(B6, #[.int .i64 12, .int .i64 8, .int .i64 12, .int .i64 11, .int .i64 1, .int .i64 20, .int .i64 1, .int .i64 10, .int .i64 21, .int .i64 20, .int .i64 1, .int .i64 31], 89), (B3, #[.string (nm k), .int .u8 74, .int .u64 (u (cd k)), .int .u64 (u (ff k)), .int .u64 (u (ot k))], 59), (B1, #[.int .i64 ((k + 1 : Nat) : Int), .int .i64 (s rd), .int .i64 (s rs1), .int .i64 (s rs2), .int .i64 (s imm)], 36)]) (by kernel_rfl) ?_
    have M11 := M10.drew
    have MS := M11
    refine Held.takeP 0 (.pointer (some ⟨B3, 1, none⟩)) rfl (by decide +kernel) (by decide +kernel) (by decide +kernel) (by kernel_rfl) (fun w => by kernel_rfl) MS ?_
    refine Held.take 1 (Canon.ldS 5 (.pointer (some ⟨B3, 1, none⟩))) (.int .u8 74) rfl (by decide +kernel) (by decide +kernel) (by decide +kernel) (by kernel_rfl) (by kernel_rfl) (fun w hw => Kw.ld_cell 5 1 (.int .u8 74) (hw.get 1 rfl) (by kernel_rfl) _ Try.underlying5 rfl) MS ?_
    refine Held.takeP 3 (.int .u64 (u (putI 0#64 0 7 (cd k)))) rfl (by decide +kernel) (by decide +kernel) (by decide +kernel) (by kernel_rfl) (fun w => by kernel_rfl) MS ?_
    refine Held.takeP 4 (.pointer (some ⟨B1, 4, none⟩)) rfl (by decide +kernel) (by decide +kernel) (by decide +kernel) (by kernel_rfl) (fun w => by kernel_rfl) MS ?_
    refine Held.take 5 (Canon.ldS 2 (.pointer (some ⟨B1, 4, none⟩))) (.int .i64 (s imm)) rfl (by decide +kernel) (by decide +kernel) (by decide +kernel) (by kernel_rfl) (by kernel_rfl) (fun w hw => Kw.ld_cell 2 4 (.int .i64 (s imm)) (hw.get 2 rfl) (by kernel_rfl) _ Try.underlying2 rfl) MS ?_
    refine Held.oneCall (ι := Nat) 2 (fun B => (.agg #[.slice (some ⟨B, 0, none⟩) 4 4, .int .i64 21, .bool true, .int .i64 1])) 42 #[.int .u8 74] (R := fun B w1 => Kw.Mem [] (w10.drew) w1 [(B, #[.int .i64 12, .int .i64 8, .int .i64 12, .int .i64 11, .int .i64 1, .int .i64 20, .int .i64 1, .int .i64 10, .int .i64 21, .int .i64 20, .int .i64 1, .int .i64 31], 89)]) rfl (by decide +kernel) (by kernel_rfl) (by kernel_rfl) (laid_J (w10.drew)) fun B12 w12 hc => ?_
    have M12 := Held.mem_new M11 hc
    clear hc
    refine ⟨(Held.mem_tail M12), ?_⟩
    have MS := (Held.mem_tail M12)
    refine Held.oneCall (ι := Unit) 6 (fun _ => (.int .u64 (u (putI (putI (putI (putI (putI 0#64 0 7 (cd k)) 12 8 (getI imm 12 8)) 20 1 (getI imm 11 1)) 21 10 (getI imm 1 10)) 31 1 (getI imm 20 1))))) 46 #[.agg #[.slice (some ⟨B12, 0, none⟩) 4 4, .int .i64 21, .bool true, .int .i64 1], .int .u64 (u (putI 0#64 0 7 (cd k))), .int .i64 (s imm)] (R := fun _ w1 => Kw.Mem [] w12 w1 []) rfl (by decide +kernel) (by kernel_rfl) (by kernel_rfl) (Held.unit (lay_J (putI 0#64 0 7 (cd k)) imm w12 B12 (Held.mem_of M12 0 rfl))) fun _ w13 hc => ?_
    have M13 := M12.call hc
    clear hc
    refine ⟨(Held.mem_tail M13), ?_⟩
    have MS := (Held.mem_tail M13)
    refine Held.takeP 7 (.int .u64 (u (putI (putI (putI (putI (putI 0#64 0 7 (cd k)) 12 8 (getI imm 12 8)) 20 1 (getI imm 11 1)) 21 10 (getI imm 1 10)) 31 1 (getI imm 20 1)))) rfl (by decide +kernel) (by decide +kernel) (by decide +kernel) (by kernel_rfl) (fun w => by kernel_rfl) MS ?_
    refine Held.done (by decide +kernel) ?_
    refine Kw.then_normal ?_
    refine wp_seq ?_
    refine wp_seq ?_
    refine Kw.region ?_
    refine Kw.pure (.bool true) (by kernel_rfl) (by kernel_rfl) ?_
    refine Kw.pure (.pointer (some ⟨B1, 1, none⟩)) (by kernel_rfl) (by kernel_rfl) ?_
    refine Kw.pureS (Canon.ldS 3 (.pointer (some ⟨B1, 1, none⟩))) (.int .i64 (s rd)) (by kernel_rfl) (by kernel_rfl) (Kw.ld_cell 3 1 (.int .i64 (s rd)) (M13.get 3 rfl) (by kernel_rfl) _ Try.underlying3 rfl) ?_
    refine Kw.pure (.agg #[.bool true, .int .i64 7, .int .i64 (s rd)]) (by kernel_rfl) (by kernel_rfl) ?_
    refine Kw.pure (.bool false) (by kernel_rfl) (by kernel_rfl) ?_
    refine Kw.pure (.pointer (some ⟨B1, 2, none⟩)) (by kernel_rfl) (by kernel_rfl) ?_
    refine Kw.pureS (Canon.ldS 3 (.pointer (some ⟨B1, 2, none⟩))) (.int .i64 (s rs1)) (by kernel_rfl) (by kernel_rfl) (Kw.ld_cell 3 2 (.int .i64 (s rs1)) (M13.get 3 rfl) (by kernel_rfl) _ Try.underlying3 rfl) ?_
    refine Kw.pure (.agg #[.bool false, .int .i64 15, .int .i64 (s rs1)]) (by kernel_rfl) (by kernel_rfl) ?_
    refine Kw.pure (.bool false) (by kernel_rfl) (by kernel_rfl) ?_
    refine Kw.pure (.pointer (some ⟨B1, 3, none⟩)) (by kernel_rfl) (by kernel_rfl) ?_
    refine Kw.pureS (Canon.ldS 3 (.pointer (some ⟨B1, 3, none⟩))) (.int .i64 (s rs2)) (by kernel_rfl) (by kernel_rfl) (Kw.ld_cell 3 3 (.int .i64 (s rs2)) (M13.get 3 rfl) (by kernel_rfl) _ Try.underlying3 rfl) ?_
    refine Kw.pure (.agg #[.bool false, .int .i64 20, .int .i64 (s rs2)]) (by kernel_rfl) (by kernel_rfl) ?_
    refine Kw.pure (.agg #[.bool true, .int .i64 7, .int .i64 (s rd), .bool false, .int .i64 15, .int .i64 (s rs1), .bool false, .int .i64 20, .int .i64 (s rs2)]) (by kernel_rfl) (by kernel_rfl) ?_
    refine Kw.pure (.int .i64 0) (by kernel_rfl) (by kernel_rfl) ?_
    refine Kw.fin ?_
    refine Kw.then_normal ?_
    refine wp_block ?_
    refine wp_loop_rounds 4 ?_
    refine Kw.round_succ ?_
    refine wp_seq ?_
    refine Kw.region ?_
    refine Kw.pureS (Canon.opS .lss 3 (.tmp 62) (.const (.int .i64 3)) (.int .i64 0) (.int .i64 3)) (.bool true) (by kernel_rfl) (by kernel_rfl) (by kernel_rfl) ?_
    refine Kw.fin ?_
    refine Kw.then_normal ?_
    refine wp_seq ?_
    refine wp_cond_true (by kernel_rfl) ?_
    refine wp_skip ?_
    refine Kw.then_normal ?_
    refine wp_seq ?_
    refine wp_block ?_
    refine wp_seq ?_
    refine Kw.region ?_
    refine Kw.pure (.agg #[.bool true, .int .i64 7, .int .i64 (s rd)]) (by kernel_rfl) (by kernel_rfl) ?_
    refine Kw.alloc #[.bool false, .int .i64 0, .int .i64 0] 72 M13 (by kernel_rfl) (by kernel_rfl) fun w14 B14 M14 => ?_
    refine Kw.storeAll 0 72 #[.bool true, .int .i64 7, .int .i64 (s rd)] M14 rfl (by kernel_rfl) (by kernel_rfl) (by kernel_rfl) (by kernel_rfl) (by kernel_rfl) fun w15 M15 => ?_
    refine Kw.fin ?_
    refine Kw.then_normal ?_
    refine wp_seq ?_
    refine wp_seq ?_
    refine Kw.region ?_
    refine Kw.pure (.pointer (some ⟨B14, 0, none⟩)) (by kernel_rfl) (by kernel_rfl) ?_
    refine Kw.pureS (Canon.ldS 4 (.pointer (some ⟨B14, 0, none⟩))) (.bool true) (by kernel_rfl) (by kernel_rfl) (Kw.ld_cell 4 0 (.bool true) (M15.get 0 rfl) (by kernel_rfl) _ Try.underlying4 rfl) ?_
    refine Kw.pure (.bool true) (by kernel_rfl) (by kernel_rfl) ?_
    refine Kw.pure (.pointer (some ⟨B14, 2, none⟩)) (by kernel_rfl) (by kernel_rfl) ?_
    refine Kw.pureS (Canon.ldS 3 (.pointer (some ⟨B14, 2, none⟩))) (.int .i64 (s rd)) (by kernel_rfl) (by kernel_rfl) (Kw.ld_cell 3 2 (.int .i64 (s rd)) (M15.get 0 rfl) (by kernel_rfl) _ Try.underlying3 rfl) ?_
    refine Kw.call (.bool F1) 47 #[.int .i64 (s rd), .int .i64 5, .bool false] M15 (by kernel_rfl) (by kernel_rfl) (by have h := fits_c rd 5 false w15; rw [g1] at h; exact h) fun w16 M16 => ?_
    refine Kw.pure (.bool (!F1)) (by kernel_rfl) (by kernel_rfl) ?_
    refine Kw.pure (.bool (!F1)) (by kernel_rfl) (by kernel_rfl) ?_
    refine Kw.fin ?_
    refine Kw.then_normal ?_
    refine wp_cond_split (t := (!F1)) (by kernel_rfl) (fun h17 => ?_) (fun h17 => ?_)
    · skip
      refine wp_seq ?_
      refine Kw.region ?_
      refine Kw.pure (.int .u32 0) (by kernel_rfl) (by kernel_rfl) ?_
      refine Kw.pure (.bool false) (by kernel_rfl) (by kernel_rfl) ?_
      refine Kw.fin ?_
      refine Kw.then_normal ?_
      refine wp_ret ?_
      refine Kw.then_ret ?_
      refine Kw.block_ret ?_
      refine Kw.then_ret ?_
      refine Kw.then_ret ?_
      refine Kw.block_ret ?_
      refine Kw.then_ret ?_
      exact bodyPost_ret (v := .tuple #[.int .u32 0, .bool false]) (by kernel_rfl) (by kernel_rfl) ⟨by simp_all [encR], M16.drop⟩
    · skip
      refine wp_skip ?_
      refine Kw.then_normal ?_
      refine wp_seq ?_
      refine Kw.region ?_
      refine Kw.pure (.pointer (some ⟨B14, 0, none⟩)) (by kernel_rfl) (by kernel_rfl) ?_
      refine Kw.pureS (Canon.ldS 4 (.pointer (some ⟨B14, 0, none⟩))) (.bool true) (by kernel_rfl) (by kernel_rfl) (Kw.ld_cell 4 0 (.bool true) (M16.get 0 rfl) (by kernel_rfl) _ Try.underlying4 rfl) ?_
      refine Kw.fin ?_
      refine Kw.then_normal ?_
      refine wp_cond_true (by kernel_rfl) ?_
      refine Kw.region ?_
      refine Kw.pure (.int .u64 (u (putI (putI (putI (putI (putI 0#64 0 7 (cd k)) 12 8 (getI imm 12 8)) 20 1 (getI imm 11 1)) 21 10 (getI imm 1 10)) 31 1 (getI imm 20 1)))) (by kernel_rfl) (by kernel_rfl) ?_
      refine Kw.pure (.pointer (some ⟨B14, 1, none⟩)) (by kernel_rfl) (by kernel_rfl) ?_
      refine Kw.pureS (Canon.ldS 3 (.pointer (some ⟨B14, 1, none⟩))) (.int .i64 7) (by kernel_rfl) (by kernel_rfl) (Kw.ld_cell 3 1 (.int .i64 7) (M16.get 0 rfl) (by kernel_rfl) _ Try.underlying3 rfl) ?_
      refine Kw.pure (.pointer (some ⟨B14, 2, none⟩)) (by kernel_rfl) (by kernel_rfl) ?_
      refine Kw.pureS (Canon.ldS 3 (.pointer (some ⟨B14, 2, none⟩))) (.int .i64 (s rd)) (by kernel_rfl) (by kernel_rfl) (Kw.ld_cell 3 2 (.int .i64 (s rd)) (M16.get 0 rfl) (by kernel_rfl) _ Try.underlying3 rfl) ?_
      refine Kw.pure (.int .u64 (u rd)) (by kernel_rfl) (Kw.eqv (v := .int .u64 (IntKind.u64.wrap (s rd))) (by kernel_rfl) (congrArg (Value.int .u64) (wrap_s rd))) ?_
      refine Kw.call (.int .u64 (u (putI (putI (putI (putI (putI (putI 0#64 0 7 (cd k)) 12 8 (getI imm 12 8)) 20 1 (getI imm 11 1)) 21 10 (getI imm 1 10)) 31 1 (getI imm 20 1)) 7 5 rd))) 48 #[.int .u64 (u (putI (putI (putI (putI (putI 0#64 0 7 (cd k)) 12 8 (getI imm 12 8)) 20 1 (getI imm 11 1)) 21 10 (getI imm 1 10)) 31 1 (getI imm 20 1))), .int .i64 7, .int .i64 5, .int .u64 (u rd)] M16 (by kernel_rfl) (by kernel_rfl) (put_c (putI (putI (putI (putI (putI 0#64 0 7 (cd k)) 12 8 (getI imm 12 8)) 20 1 (getI imm 11 1)) 21 10 (getI imm 1 10)) 31 1 (getI imm 20 1)) 7 5 rd w16) fun w18 M18 => ?_
      refine Kw.pure (.int .u64 (u (putI (putI (putI (putI (putI (putI 0#64 0 7 (cd k)) 12 8 (getI imm 12 8)) 20 1 (getI imm 11 1)) 21 10 (getI imm 1 10)) 31 1 (getI imm 20 1)) 7 5 rd))) (by kernel_rfl) (by kernel_rfl) ?_
      refine Kw.fin ?_
      refine Kw.block_normal ?_
      refine Kw.then_normal ?_
      refine Kw.region ?_
      refine Kw.pureS (Canon.opS .add 3 (.tmp 62) (.const (.int .i64 1)) (.int .i64 0) (.int .i64 1)) (.int .i64 1) (by kernel_rfl) (by kernel_rfl) (by kernel_rfl) ?_
      refine Kw.pure (.int .i64 1) (by kernel_rfl) (by kernel_rfl) ?_
      refine Kw.fin ?_
      refine Kw.then_normal ?_
      refine Kw.round_succ ?_
      refine wp_seq ?_
      refine Kw.region ?_
      refine Kw.pureS (Canon.opS .lss 3 (.tmp 62) (.const (.int .i64 3)) (.int .i64 1) (.int .i64 3)) (.bool true) (by kernel_rfl) (by kernel_rfl) (by kernel_rfl) ?_
      refine Kw.fin ?_
      refine Kw.then_normal ?_
      refine wp_seq ?_
      refine wp_cond_true (by kernel_rfl) ?_
      refine wp_skip ?_
      refine Kw.then_normal ?_
      refine wp_seq ?_
      refine wp_block ?_
      refine wp_seq ?_
      refine Kw.region ?_
      refine Kw.pure (.agg #[.bool false, .int .i64 15, .int .i64 (s rs1)]) (by kernel_rfl) (by kernel_rfl) ?_
      refine Kw.alloc #[.bool false, .int .i64 0, .int .i64 0] 72 M18 (by kernel_rfl) (by kernel_rfl) fun w19 B19 M19 => ?_
      refine Kw.storeAll 0 72 #[.bool false, .int .i64 15, .int .i64 (s rs1)] M19 rfl (by kernel_rfl) (by kernel_rfl) (by kernel_rfl) (by kernel_rfl) (by kernel_rfl) fun w20 M20 => ?_
      refine Kw.fin ?_
      refine Kw.then_normal ?_
      refine wp_seq ?_
      refine wp_seq ?_
      refine Kw.region ?_
      refine Kw.pure (.pointer (some ⟨B19, 0, none⟩)) (by kernel_rfl) (by kernel_rfl) ?_
      refine Kw.pureS (Canon.ldS 4 (.pointer (some ⟨B19, 0, none⟩))) (.bool false) (by kernel_rfl) (by kernel_rfl) (Kw.ld_cell 4 0 (.bool false) (M20.get 0 rfl) (by kernel_rfl) _ Try.underlying4 rfl) ?_
      refine Kw.pure (.bool false) (by kernel_rfl) (by kernel_rfl) ?_
      refine Kw.skip (by kernel_rfl) ?_
      refine Kw.skip (by kernel_rfl) ?_
      refine Kw.skip (by kernel_rfl) ?_
      refine Kw.skip (by kernel_rfl) ?_
      refine Kw.pure (.bool false) (by kernel_rfl) (by kernel_rfl) ?_
      refine Kw.fin ?_
      refine Kw.then_normal ?_
      refine wp_cond_false (by kernel_rfl) ?_
      refine wp_skip ?_
      refine Kw.then_normal ?_
      refine wp_seq ?_
      refine Kw.region ?_
      refine Kw.pure (.pointer (some ⟨B19, 0, none⟩)) (by kernel_rfl) (by kernel_rfl) ?_
      refine Kw.pureS (Canon.ldS 4 (.pointer (some ⟨B19, 0, none⟩))) (.bool false) (by kernel_rfl) (by kernel_rfl) (Kw.ld_cell 4 0 (.bool false) (M20.get 0 rfl) (by kernel_rfl) _ Try.underlying4 rfl) ?_
      refine Kw.fin ?_
      refine Kw.then_normal ?_
      refine wp_cond_false (by kernel_rfl) ?_
      refine wp_skip ?_
      refine Kw.block_normal ?_
      refine Kw.then_normal ?_
      refine Kw.region ?_
      refine Kw.pureS (Canon.opS .add 3 (.tmp 62) (.const (.int .i64 1)) (.int .i64 1) (.int .i64 1)) (.int .i64 2) (by kernel_rfl) (by kernel_rfl) (by kernel_rfl) ?_
      refine Kw.pure (.int .i64 2) (by kernel_rfl) (by kernel_rfl) ?_
      refine Kw.fin ?_
      refine Kw.then_normal ?_
      refine Kw.round_succ ?_
      refine wp_seq ?_
      refine Kw.region ?_
      refine Kw.pureS (Canon.opS .lss 3 (.tmp 62) (.const (.int .i64 3)) (.int .i64 2) (.int .i64 3)) (.bool true) (by kernel_rfl) (by kernel_rfl) (by kernel_rfl) ?_
      refine Kw.fin ?_
      refine Kw.then_normal ?_
      refine wp_seq ?_
      refine wp_cond_true (by kernel_rfl) ?_
      refine wp_skip ?_
      refine Kw.then_normal ?_
      refine wp_seq ?_
      refine wp_block ?_
      refine wp_seq ?_
      refine Kw.region ?_
      refine Kw.pure (.agg #[.bool false, .int .i64 20, .int .i64 (s rs2)]) (by kernel_rfl) (by kernel_rfl) ?_
      refine Kw.alloc #[.bool false, .int .i64 0, .int .i64 0] 72 M20 (by kernel_rfl) (by kernel_rfl) fun w21 B21 M21 => ?_
      refine Kw.storeAll 0 72 #[.bool false, .int .i64 20, .int .i64 (s rs2)] M21 rfl (by kernel_rfl) (by kernel_rfl) (by kernel_rfl) (by kernel_rfl) (by kernel_rfl) fun w22 M22 => ?_
      refine Kw.fin ?_
      refine Kw.then_normal ?_
      refine wp_seq ?_
      refine wp_seq ?_
      refine Kw.region ?_
      refine Kw.pure (.pointer (some ⟨B21, 0, none⟩)) (by kernel_rfl) (by kernel_rfl) ?_
      refine Kw.pureS (Canon.ldS 4 (.pointer (some ⟨B21, 0, none⟩))) (.bool false) (by kernel_rfl) (by kernel_rfl) (Kw.ld_cell 4 0 (.bool false) (M22.get 0 rfl) (by kernel_rfl) _ Try.underlying4 rfl) ?_
      refine Kw.pure (.bool false) (by kernel_rfl) (by kernel_rfl) ?_
      refine Kw.skip (by kernel_rfl) ?_
      refine Kw.skip (by kernel_rfl) ?_
      refine Kw.skip (by kernel_rfl) ?_
      refine Kw.skip (by kernel_rfl) ?_
      refine Kw.pure (.bool false) (by kernel_rfl) (by kernel_rfl) ?_
      refine Kw.fin ?_
      refine Kw.then_normal ?_
      refine wp_cond_false (by kernel_rfl) ?_
      refine wp_skip ?_
      refine Kw.then_normal ?_
      refine wp_seq ?_
      refine Kw.region ?_
      refine Kw.pure (.pointer (some ⟨B21, 0, none⟩)) (by kernel_rfl) (by kernel_rfl) ?_
      refine Kw.pureS (Canon.ldS 4 (.pointer (some ⟨B21, 0, none⟩))) (.bool false) (by kernel_rfl) (by kernel_rfl) (Kw.ld_cell 4 0 (.bool false) (M22.get 0 rfl) (by kernel_rfl) _ Try.underlying4 rfl) ?_
      refine Kw.fin ?_
      refine Kw.then_normal ?_
      refine wp_cond_false (by kernel_rfl) ?_
      refine wp_skip ?_
      refine Kw.block_normal ?_
      refine Kw.then_normal ?_
      refine Kw.region ?_
      refine Kw.pureS (Canon.opS .add 3 (.tmp 62) (.const (.int .i64 1)) (.int .i64 2) (.int .i64 1)) (.int .i64 3) (by kernel_rfl) (by kernel_rfl) (by kernel_rfl) ?_
      refine Kw.pure (.int .i64 3) (by kernel_rfl) (by kernel_rfl) ?_
      refine Kw.fin ?_
      refine Kw.then_normal ?_
      refine Kw.round_succ ?_
      refine wp_seq ?_
      refine Kw.region ?_
      refine Kw.pureS (Canon.opS .lss 3 (.tmp 62) (.const (.int .i64 3)) (.int .i64 3) (.int .i64 3)) (.bool false) (by kernel_rfl) (by kernel_rfl) (by kernel_rfl) ?_
      refine Kw.fin ?_
      refine Kw.then_normal ?_
      refine wp_seq ?_
      refine wp_cond_false (by kernel_rfl) ?_
      refine wp_exit ?_
      refine Kw.then_exit ?_
      refine Kw.then_exit ?_
      refine Kw.block_hit ?_
      refine Kw.then_normal ?_
      refine wp_seq ?_
      refine Kw.region ?_
      refine Kw.pure (.int .u64 (u (putI (putI (putI (putI (putI (putI 0#64 0 7 (cd k)) 12 8 (getI imm 12 8)) 20 1 (getI imm 11 1)) 21 10 (getI imm 1 10)) 31 1 (getI imm 20 1)) 7 5 rd))) (by kernel_rfl) (by kernel_rfl) ?_
      refine Kw.pure (.int .u32 (u ((putI (putI (putI (putI (putI (putI 0#64 0 7 (cd k)) 12 8 (getI imm 12 8)) 20 1 (getI imm 11 1)) 21 10 (getI imm 1 10)) 31 1 (getI imm 20 1)) 7 5 rd) &&& 4294967295#64))) (by kernel_rfl) (Kw.eqv (v := .int .u32 (IntKind.u32.wrap (u (putI (putI (putI (putI (putI (putI 0#64 0 7 (cd k)) 12 8 (getI imm 12 8)) 20 1 (getI imm 11 1)) 21 10 (getI imm 1 10)) 31 1 (getI imm 20 1)) 7 5 rd)))) (by kernel_rfl) (congrArg (Value.int .u32) (wrap32_u (putI (putI (putI (putI (putI (putI 0#64 0 7 (cd k)) 12 8 (getI imm 12 8)) 20 1 (getI imm 11 1)) 21 10 (getI imm 1 10)) 31 1 (getI imm 20 1)) 7 5 rd)))) ?_
      refine Kw.pure (.int .u32 (u ((putI (putI (putI (putI (putI (putI 0#64 0 7 (cd k)) 12 8 (getI imm 12 8)) 20 1 (getI imm 11 1)) 21 10 (getI imm 1 10)) 31 1 (getI imm 20 1)) 7 5 rd) &&& 4294967295#64))) (by kernel_rfl) (by kernel_rfl) ?_
      refine Kw.pure (.bool true) (by kernel_rfl) (by kernel_rfl) ?_
      refine Kw.fin ?_
      refine Kw.then_normal ?_
      refine wp_ret ?_
      exact bodyPost_ret (v := .tuple #[.int .u32 (u ((putI (putI (putI (putI (putI (putI 0#64 0 7 (cd k)) 12 8 (getI imm 12 8)) 20 1 (getI imm 11 1)) 21 10 (getI imm 1 10)) 31 1 (getI imm 20 1)) 7 5 rd) &&& 4294967295#64)), .bool true]) (by kernel_rfl) (by kernel_rfl) ⟨by simp_all [encR], M22.drop⟩
def word_N (k : Nat) (rd rs1 rs2 imm : BitVec 64) : BitVec 64 := (putI (putI (putI 0#64 0 7 (cd k)) 7 13 0#64) 20 12 (ot k))
set_option maxRecDepth 100000 in
set_option maxHeartbeats 1000000 in
theorem enc_N (k : Nat) (hk : k < 69) (hs : sh k = 78) (rd rs1 rs2 imm : BitVec 64) (W : World) : Calls Try.prog 25 #[.agg #[.int .i64 ((k + 1 : Nat) : Int), .int .i64 (s rd), .int .i64 (s rs1), .int .i64 (s rs2), .int .i64 (s imm)]] W fun e W' => e = .returned (encR (true) (word_N k rd rs1 rs2 imm)) ∧ Kw.Mem [] W W' [] := by
  unfold word_N
  refine calls_of_wp Try.func25 rfl ?_
  have M0 : Kw.Mem [] W W [] := Kw.Mem.start _ _
  refine Kw.to (b := ⟨#[.agg #[.int .i64 ((k + 1 : Nat) : Int), .int .i64 (s rd), .int .i64 (s rs1), .int .i64 (s rs2), .int .i64 (s imm)], undef, undef, undef, undef, undef, undef, undef, undef, undef, undef, undef, undef, undef, undef, undef, undef, undef, undef, undef, undef, undef, undef, undef, undef, undef, undef, undef, undef, undef, undef, undef, undef, undef, undef, undef, undef, undef, undef, undef, undef, undef, undef, undef, undef, undef, undef, undef, undef, undef, undef, undef, undef, undef, undef, undef, undef, undef, undef, undef, undef, undef, undef, undef, undef, undef, undef, undef, undef, undef, undef, undef, undef, undef, undef, undef, undef, undef, undef, undef, undef, undef, undef, undef, undef], []⟩) (by kernel_rfl) ?_
  refine wp_seq ?_
  refine Kw.region ?_
  refine Kw.alloc #[.int .i64 ((k + 1 : Nat) : Int), .int .i64 (s rd), .int .i64 (s rs1), .int .i64 (s rs2), .int .i64 (s imm)] 36 M0 (by kernel_rfl) (by kernel_rfl) fun w1 B1 M1 => ?_
  refine Kw.pure (.int .u32 0) (by kernel_rfl) (by kernel_rfl) ?_
  refine Kw.pure (.bool false) (by kernel_rfl) (by kernel_rfl) ?_
  refine Kw.fin ?_
  refine Kw.then_normal ?_
  refine wp_seq ?_
  refine Kw.region ?_
  refine Kw.pure (.pointer (some ⟨B1, 0, none⟩)) (by kernel_rfl) (by kernel_rfl) ?_
  refine Kw.pureS (Canon.ldS 3 (.pointer (some ⟨B1, 0, none⟩))) (.int .i64 ((k + 1 : Nat) : Int)) (by kernel_rfl) (by kernel_rfl) (Kw.ld_cell 3 0 (.int .i64 ((k + 1 : Nat) : Int)) (M1.get 0 rfl) (by kernel_rfl) _ Try.underlying3 rfl) ?_
  refine Kw.call (.tuple #[.agg #[.string (nm k), .int .u8 78, .int .u64 (u (cd k)), .int .u64 (u (ff k)), .int .u64 (u (ot k))], .bool true]) 41 #[.int .i64 ((k + 1 : Nat) : Int)] M1 (by kernel_rfl) (by kernel_rfl) (of_sh 78 k hk hs w1) fun w2 M2 => ?_
  refine Kw.pure (.tuple #[.agg #[.string (nm k), .int .u8 78, .int .u64 (u (cd k)), .int .u64 (u (ff k)), .int .u64 (u (ot k))], .bool true]) (by kernel_rfl) (by kernel_rfl) ?_
  refine Kw.pure (.agg #[.string (nm k), .int .u8 78, .int .u64 (u (cd k)), .int .u64 (u (ff k)), .int .u64 (u (ot k))]) (by kernel_rfl) (by kernel_rfl) ?_
  refine Kw.pure (.bool true) (by kernel_rfl) (by kernel_rfl) ?_
  refine Kw.alloc #[.string ⟨#[]⟩, .int .u8 0, .int .u64 0, .int .u64 0, .int .u64 0] 59 M2 (by kernel_rfl) (by kernel_rfl) fun w3 B3 M3 => ?_
  refine Kw.storeAll 0 59 #[.string (nm k), .int .u8 78, .int .u64 (u (cd k)), .int .u64 (u (ff k)), .int .u64 (u (ot k))] M3 rfl (by kernel_rfl) (by kernel_rfl) (by kernel_rfl) (by kernel_rfl) (by kernel_rfl) fun w4 M4 => ?_
  refine Kw.pure (.bool true) (by kernel_rfl) (by kernel_rfl) ?_
  refine Kw.fin ?_
  refine Kw.then_normal ?_
  refine wp_seq ?_
  refine wp_seq ?_
  refine Held.start (fun w => Kw.Mem [] W w [(B3, #[.string (nm k), .int .u8 78, .int .u64 (u (cd k)), .int .u64 (u (ff k)), .int .u64 (u (ot k))], 59), (B1, #[.int .i64 ((k + 1 : Nat) : Int), .int .i64 (s rd), .int .i64 (s rs1), .int .i64 (s rs2), .int .i64 (s imm)], 36)]) (by kernel_rfl) ?_
  have M5 := M4.drew
  have MS := M5
  refine Held.takeP 0 (.bool true) rfl (by decide +kernel) (by decide +kernel) (by decide +kernel) (by kernel_rfl) (fun w => by kernel_rfl) MS ?_
  refine Held.takeP 1 (.bool false) rfl (by decide +kernel) (by decide +kernel) (by decide +kernel) (by kernel_rfl) (fun w => by kernel_rfl) MS ?_
  refine Held.takeP 2 (.bool false) rfl (by decide +kernel) (by decide +kernel) (by decide +kernel) (by kernel_rfl) (fun w => by kernel_rfl) MS ?_
  refine Held.takeP 3 (.pointer (some ⟨B3, 1, none⟩)) rfl (by decide +kernel) (by decide +kernel) (by decide +kernel) (by kernel_rfl) (fun w => by kernel_rfl) MS ?_
  refine Held.take 4 (Canon.ldS 5 (.pointer (some ⟨B3, 1, none⟩))) (.int .u8 78) rfl (by decide +kernel) (by decide +kernel) (by decide +kernel) (by kernel_rfl) (by kernel_rfl) (fun w hw => Kw.ld_cell 5 1 (.int .u8 78) (hw.get 0 rfl) (by kernel_rfl) _ Try.underlying5 rfl) MS ?_
  refine Held.takeP 6 (.pointer (some ⟨B1, 4, none⟩)) rfl (by decide +kernel) (by decide +kernel) (by decide +kernel) (by kernel_rfl) (fun w => by kernel_rfl) MS ?_
  refine Held.take 7 (Canon.ldS 2 (.pointer (some ⟨B1, 4, none⟩))) (.int .i64 (s imm)) rfl (by decide +kernel) (by decide +kernel) (by decide +kernel) (by kernel_rfl) (by kernel_rfl) (fun w hw => Kw.ld_cell 2 4 (.int .i64 (s imm)) (hw.get 1 rfl) (by kernel_rfl) _ Try.underlying2 rfl) MS ?_
  refine Held.oneCall (ι := Unit) 5 (fun _ => (.agg #[.slice none 0 0, .int .i64 0, .bool false, .int .i64 0])) 42 #[.int .u8 78] (R := fun _ w1 => Kw.Mem [] (w4.drew) w1 []) rfl (by decide +kernel) (by kernel_rfl) (by kernel_rfl) (Held.unit (laid_N (w4.drew))) fun _ w6 hc => ?_
  have M6 := M5.call hc
  clear hc
  refine ⟨M6, ?_⟩
  have MS := M6
  refine Held.oneCall (ι := Unit) 8 (fun _ => (.bool true)) 43 #[.agg #[.slice none 0 0, .int .i64 0, .bool false, .int .i64 0], .int .i64 (s imm)] (R := fun _ w1 => Kw.Mem [] w6 w1 []) rfl (by decide +kernel) (by kernel_rfl) (by kernel_rfl) (Held.unit (fits_R1 imm w6)) fun _ w7 hc => ?_
  have M7 := M6.call hc
  clear hc
  refine ⟨M7, ?_⟩
  have MS := M7
  refine Held.takeP 9 (.bool false) rfl (by decide +kernel) (by decide +kernel) (by decide +kernel) (by kernel_rfl) (fun w => by kernel_rfl) MS ?_
  refine Held.takeP 10 (.bool false) rfl (by decide +kernel) (by decide +kernel) (by decide +kernel) (by kernel_rfl) (fun w => by kernel_rfl) MS ?_
  refine Held.done (by decide +kernel) ?_
  refine Kw.then_normal ?_
  refine wp_cond_false (by kernel_rfl) ?_
  refine wp_skip ?_
  refine Kw.then_normal ?_
  refine wp_seq ?_
  refine Kw.region ?_
  refine Kw.pureS (Canon.ldS 59 (.pointer (some ⟨B3, 0, none⟩))) (.agg #[.string (nm k), .int .u8 78, .int .u64 (u (cd k)), .int .u64 (u (ff k)), .int .u64 (u (ot k))]) (by kernel_rfl) (by kernel_rfl) (Kw.ld_all 59 (M7.get 0 rfl) _ Try.underlying59 rfl (by kernel_rfl)) ?_
  refine Kw.call (.tuple #[.int .u64 (u (putI (putI (putI 0#64 0 7 (cd k)) 7 13 0#64) 20 12 (ot k))), .int .u64 (u (putI (putI (putI 0#64 0 7 18446744073709551615#64) 7 13 18446744073709551615#64) 20 12 18446744073709551615#64))]) 44 #[.agg #[.string (nm k), .int .u8 78, .int .u64 (u (cd k)), .int .u64 (u (ff k)), .int .u64 (u (ot k))]] M7 (by kernel_rfl) (by kernel_rfl) (fixed_N (nm k) (cd k) (ff k) (ot k) w7) fun w8 M8 => ?_
  refine Kw.pure (.tuple #[.int .u64 (u (putI (putI (putI 0#64 0 7 (cd k)) 7 13 0#64) 20 12 (ot k))), .int .u64 (u (putI (putI (putI 0#64 0 7 18446744073709551615#64) 7 13 18446744073709551615#64) 20 12 18446744073709551615#64))]) (by kernel_rfl) (by kernel_rfl) ?_
  refine Kw.pure (.int .u64 (u (putI (putI (putI 0#64 0 7 (cd k)) 7 13 0#64) 20 12 (ot k)))) (by kernel_rfl) (by kernel_rfl) ?_
  refine Kw.pure (.int .u64 (u (putI (putI (putI 0#64 0 7 18446744073709551615#64) 7 13 18446744073709551615#64) 20 12 18446744073709551615#64))) (by kernel_rfl) (by kernel_rfl) ?_
  refine Kw.pure (.int .u64 (u (putI (putI (putI 0#64 0 7 (cd k)) 7 13 0#64) 20 12 (ot k)))) (by kernel_rfl) (by kernel_rfl) ?_
  refine Kw.pure (.int .u64 (u (putI (putI (putI 0#64 0 7 18446744073709551615#64) 7 13 18446744073709551615#64) 20 12 18446744073709551615#64))) (by kernel_rfl) (by kernel_rfl) ?_
  refine Kw.fin ?_
  refine Kw.then_normal ?_
  refine wp_seq ?_
  refine Kw.region ?_
  refine Kw.pure (.pointer (some ⟨B3, 1, none⟩)) (by kernel_rfl) (by kernel_rfl) ?_
  refine Kw.pureS (Canon.ldS 5 (.pointer (some ⟨B3, 1, none⟩))) (.int .u8 78) (by kernel_rfl) (by kernel_rfl) (Kw.ld_cell 5 1 (.int .u8 78) (M8.get 0 rfl) (by kernel_rfl) _ Try.underlying5 rfl) ?_
  refine Kw.call (.tuple #[.bool false, .bool false, .bool false]) 45 #[.int .u8 78] M8 (by kernel_rfl) (by kernel_rfl) (has_N w8) fun w9 M9 => ?_
  refine Kw.pure (.tuple #[.bool false, .bool false, .bool false]) (by kernel_rfl) (by kernel_rfl) ?_
  refine Kw.pure (.bool false) (by kernel_rfl) (by kernel_rfl) ?_
  refine Kw.pure (.bool false) (by kernel_rfl) (by kernel_rfl) ?_
  refine Kw.pure (.bool false) (by kernel_rfl) (by kernel_rfl) ?_
  refine Kw.pure (.bool false) (by kernel_rfl) (by kernel_rfl) ?_
  refine Kw.pure (.bool false) (by kernel_rfl) (by kernel_rfl) ?_
  refine Kw.pure (.bool false) (by kernel_rfl) (by kernel_rfl) ?_
  refine Kw.fin ?_
  refine Kw.then_normal ?_
  refine wp_seq ?_
  refine Held.start (fun w => Kw.Mem [] W w [(B3, #[.string (nm k), .int .u8 78, .int .u64 (u (cd k)), .int .u64 (u (ff k)), .int .u64 (u (ot k))], 59), (B1, #[.int .i64 ((k + 1 : Nat) : Int), .int .i64 (s rd), .int .i64 (s rs1), .int .i64 (s rs2), .int .i64 (s imm)], 36)]) (by kernel_rfl) ?_
  have M10 := M9.drew
  have MS := M10
  refine Held.takeP 0 (.pointer (some ⟨B3, 1, none⟩)) rfl (by decide +kernel) (by decide +kernel) (by decide +kernel) (by kernel_rfl) (fun w => by kernel_rfl) MS ?_
  refine Held.take 1 (Canon.ldS 5 (.pointer (some ⟨B3, 1, none⟩))) (.int .u8 78) rfl (by decide +kernel) (by decide +kernel) (by decide +kernel) (by kernel_rfl) (by kernel_rfl) (fun w hw => Kw.ld_cell 5 1 (.int .u8 78) (hw.get 0 rfl) (by kernel_rfl) _ Try.underlying5 rfl) MS ?_
  refine Held.takeP 3 (.int .u64 (u (putI (putI (putI 0#64 0 7 (cd k)) 7 13 0#64) 20 12 (ot k)))) rfl (by decide +kernel) (by decide +kernel) (by decide +kernel) (by kernel_rfl) (fun w => by kernel_rfl) MS ?_
  refine Held.takeP 4 (.pointer (some ⟨B1, 4, none⟩)) rfl (by decide +kernel) (by decide +kernel) (by decide +kernel) (by kernel_rfl) (fun w => by kernel_rfl) MS ?_
  refine Held.take 5 (Canon.ldS 2 (.pointer (some ⟨B1, 4, none⟩))) (.int .i64 (s imm)) rfl (by decide +kernel) (by decide +kernel) (by decide +kernel) (by kernel_rfl) (by kernel_rfl) (fun w hw => Kw.ld_cell 2 4 (.int .i64 (s imm)) (hw.get 1 rfl) (by kernel_rfl) _ Try.underlying2 rfl) MS ?_
  refine Held.oneCall (ι := Unit) 2 (fun _ => (.agg #[.slice none 0 0, .int .i64 0, .bool false, .int .i64 0])) 42 #[.int .u8 78] (R := fun _ w1 => Kw.Mem [] (w9.drew) w1 []) rfl (by decide +kernel) (by kernel_rfl) (by kernel_rfl) (Held.unit (laid_N (w9.drew))) fun _ w11 hc => ?_
  have M11 := M10.call hc
  clear hc
  refine ⟨M11, ?_⟩
  have MS := M11
  refine Held.oneCall (ι := Unit) 6 (fun _ => (.int .u64 (u (putI (putI (putI 0#64 0 7 (cd k)) 7 13 0#64) 20 12 (ot k))))) 46 #[.agg #[.slice none 0 0, .int .i64 0, .bool false, .int .i64 0], .int .u64 (u (putI (putI (putI 0#64 0 7 (cd k)) 7 13 0#64) 20 12 (ot k))), .int .i64 (s imm)] (R := fun _ w1 => Kw.Mem [] w11 w1 []) rfl (by decide +kernel) (by kernel_rfl) (by kernel_rfl) (Held.unit (lay_R (putI (putI (putI 0#64 0 7 (cd k)) 7 13 0#64) 20 12 (ot k)) imm w11)) fun _ w12 hc => ?_
  have M12 := M11.call hc
  clear hc
  refine ⟨M12, ?_⟩
  have MS := M12
  refine Held.takeP 7 (.int .u64 (u (putI (putI (putI 0#64 0 7 (cd k)) 7 13 0#64) 20 12 (ot k)))) rfl (by decide +kernel) (by decide +kernel) (by decide +kernel) (by kernel_rfl) (fun w => by kernel_rfl) MS ?_
  refine Held.done (by decide +kernel) ?_
  refine Kw.then_normal ?_
  refine wp_seq ?_
  refine wp_seq ?_
  refine Kw.region ?_
  refine Kw.pure (.bool false) (by kernel_rfl) (by kernel_rfl) ?_
  refine Kw.pure (.pointer (some ⟨B1, 1, none⟩)) (by kernel_rfl) (by kernel_rfl) ?_
  refine Kw.pureS (Canon.ldS 3 (.pointer (some ⟨B1, 1, none⟩))) (.int .i64 (s rd)) (by kernel_rfl) (by kernel_rfl) (Kw.ld_cell 3 1 (.int .i64 (s rd)) (M12.get 1 rfl) (by kernel_rfl) _ Try.underlying3 rfl) ?_
  refine Kw.pure (.agg #[.bool false, .int .i64 7, .int .i64 (s rd)]) (by kernel_rfl) (by kernel_rfl) ?_
  refine Kw.pure (.bool false) (by kernel_rfl) (by kernel_rfl) ?_
  refine Kw.pure (.pointer (some ⟨B1, 2, none⟩)) (by kernel_rfl) (by kernel_rfl) ?_
  refine Kw.pureS (Canon.ldS 3 (.pointer (some ⟨B1, 2, none⟩))) (.int .i64 (s rs1)) (by kernel_rfl) (by kernel_rfl) (Kw.ld_cell 3 2 (.int .i64 (s rs1)) (M12.get 1 rfl) (by kernel_rfl) _ Try.underlying3 rfl) ?_
  refine Kw.pure (.agg #[.bool false, .int .i64 15, .int .i64 (s rs1)]) (by kernel_rfl) (by kernel_rfl) ?_
  refine Kw.pure (.bool false) (by kernel_rfl) (by kernel_rfl) ?_
  refine Kw.pure (.pointer (some ⟨B1, 3, none⟩)) (by kernel_rfl) (by kernel_rfl) ?_
  refine Kw.pureS (Canon.ldS 3 (.pointer (some ⟨B1, 3, none⟩))) (.int .i64 (s rs2)) (by kernel_rfl) (by kernel_rfl) (Kw.ld_cell 3 3 (.int .i64 (s rs2)) (M12.get 1 rfl) (by kernel_rfl) _ Try.underlying3 rfl) ?_
  refine Kw.pure (.agg #[.bool false, .int .i64 20, .int .i64 (s rs2)]) (by kernel_rfl) (by kernel_rfl) ?_
  refine Kw.pure (.agg #[.bool false, .int .i64 7, .int .i64 (s rd), .bool false, .int .i64 15, .int .i64 (s rs1), .bool false, .int .i64 20, .int .i64 (s rs2)]) (by kernel_rfl) (by kernel_rfl) ?_
  refine Kw.pure (.int .i64 0) (by kernel_rfl) (by kernel_rfl) ?_
  refine Kw.fin ?_
  refine Kw.then_normal ?_
  refine wp_block ?_
  refine wp_loop_rounds 4 ?_
  refine Kw.round_succ ?_
  refine wp_seq ?_
  refine Kw.region ?_
  refine Kw.pureS (Canon.opS .lss 3 (.tmp 62) (.const (.int .i64 3)) (.int .i64 0) (.int .i64 3)) (.bool true) (by kernel_rfl) (by kernel_rfl) (by kernel_rfl) ?_
  refine Kw.fin ?_
  refine Kw.then_normal ?_
  refine wp_seq ?_
  refine wp_cond_true (by kernel_rfl) ?_
  refine wp_skip ?_
  refine Kw.then_normal ?_
  refine wp_seq ?_
  refine wp_block ?_
  refine wp_seq ?_
  refine Kw.region ?_
  refine Kw.pure (.agg #[.bool false, .int .i64 7, .int .i64 (s rd)]) (by kernel_rfl) (by kernel_rfl) ?_
  refine Kw.alloc #[.bool false, .int .i64 0, .int .i64 0] 72 M12 (by kernel_rfl) (by kernel_rfl) fun w13 B13 M13 => ?_
  refine Kw.storeAll 0 72 #[.bool false, .int .i64 7, .int .i64 (s rd)] M13 rfl (by kernel_rfl) (by kernel_rfl) (by kernel_rfl) (by kernel_rfl) (by kernel_rfl) fun w14 M14 => ?_
  refine Kw.fin ?_
  refine Kw.then_normal ?_
  refine wp_seq ?_
  refine wp_seq ?_
  refine Kw.region ?_
  refine Kw.pure (.pointer (some ⟨B13, 0, none⟩)) (by kernel_rfl) (by kernel_rfl) ?_
  refine Kw.pureS (Canon.ldS 4 (.pointer (some ⟨B13, 0, none⟩))) (.bool false) (by kernel_rfl) (by kernel_rfl) (Kw.ld_cell 4 0 (.bool false) (M14.get 0 rfl) (by kernel_rfl) _ Try.underlying4 rfl) ?_
  refine Kw.pure (.bool false) (by kernel_rfl) (by kernel_rfl) ?_
  refine Kw.skip (by kernel_rfl) ?_
  refine Kw.skip (by kernel_rfl) ?_
  refine Kw.skip (by kernel_rfl) ?_
  refine Kw.skip (by kernel_rfl) ?_
  refine Kw.pure (.bool false) (by kernel_rfl) (by kernel_rfl) ?_
  refine Kw.fin ?_
  refine Kw.then_normal ?_
  refine wp_cond_false (by kernel_rfl) ?_
  refine wp_skip ?_
  refine Kw.then_normal ?_
  refine wp_seq ?_
  refine Kw.region ?_
  refine Kw.pure (.pointer (some ⟨B13, 0, none⟩)) (by kernel_rfl) (by kernel_rfl) ?_
  refine Kw.pureS (Canon.ldS 4 (.pointer (some ⟨B13, 0, none⟩))) (.bool false) (by kernel_rfl) (by kernel_rfl) (Kw.ld_cell 4 0 (.bool false) (M14.get 0 rfl) (by kernel_rfl) _ Try.underlying4 rfl) ?_
  refine Kw.fin ?_
  refine Kw.then_normal ?_
  refine wp_cond_false (by kernel_rfl) ?_
  refine wp_skip ?_
  refine Kw.block_normal ?_
  refine Kw.then_normal ?_
  refine Kw.region ?_
  refine Kw.pureS (Canon.opS .add 3 (.tmp 62) (.const (.int .i64 1)) (.int .i64 0) (.int .i64 1)) (.int .i64 1) (by kernel_rfl) (by kernel_rfl) (by kernel_rfl) ?_
  refine Kw.pure (.int .i64 1) (by kernel_rfl) (by kernel_rfl) ?_
  refine Kw.fin ?_
  refine Kw.then_normal ?_
  refine Kw.round_succ ?_
  refine wp_seq ?_
  refine Kw.region ?_
  refine Kw.pureS (Canon.opS .lss 3 (.tmp 62) (.const (.int .i64 3)) (.int .i64 1) (.int .i64 3)) (.bool true) (by kernel_rfl) (by kernel_rfl) (by kernel_rfl) ?_
  refine Kw.fin ?_
  refine Kw.then_normal ?_
  refine wp_seq ?_
  refine wp_cond_true (by kernel_rfl) ?_
  refine wp_skip ?_
  refine Kw.then_normal ?_
  refine wp_seq ?_
  refine wp_block ?_
  refine wp_seq ?_
  refine Kw.region ?_
  refine Kw.pure (.agg #[.bool false, .int .i64 15, .int .i64 (s rs1)]) (by kernel_rfl) (by kernel_rfl) ?_
  refine Kw.alloc #[.bool false, .int .i64 0, .int .i64 0] 72 M14 (by kernel_rfl) (by kernel_rfl) fun w15 B15 M15 => ?_
  refine Kw.storeAll 0 72 #[.bool false, .int .i64 15, .int .i64 (s rs1)] M15 rfl (by kernel_rfl) (by kernel_rfl) (by kernel_rfl) (by kernel_rfl) (by kernel_rfl) fun w16 M16 => ?_
  refine Kw.fin ?_
  refine Kw.then_normal ?_
  refine wp_seq ?_
  refine wp_seq ?_
  refine Kw.region ?_
  refine Kw.pure (.pointer (some ⟨B15, 0, none⟩)) (by kernel_rfl) (by kernel_rfl) ?_
  refine Kw.pureS (Canon.ldS 4 (.pointer (some ⟨B15, 0, none⟩))) (.bool false) (by kernel_rfl) (by kernel_rfl) (Kw.ld_cell 4 0 (.bool false) (M16.get 0 rfl) (by kernel_rfl) _ Try.underlying4 rfl) ?_
  refine Kw.pure (.bool false) (by kernel_rfl) (by kernel_rfl) ?_
  refine Kw.skip (by kernel_rfl) ?_
  refine Kw.skip (by kernel_rfl) ?_
  refine Kw.skip (by kernel_rfl) ?_
  refine Kw.skip (by kernel_rfl) ?_
  refine Kw.pure (.bool false) (by kernel_rfl) (by kernel_rfl) ?_
  refine Kw.fin ?_
  refine Kw.then_normal ?_
  refine wp_cond_false (by kernel_rfl) ?_
  refine wp_skip ?_
  refine Kw.then_normal ?_
  refine wp_seq ?_
  refine Kw.region ?_
  refine Kw.pure (.pointer (some ⟨B15, 0, none⟩)) (by kernel_rfl) (by kernel_rfl) ?_
  refine Kw.pureS (Canon.ldS 4 (.pointer (some ⟨B15, 0, none⟩))) (.bool false) (by kernel_rfl) (by kernel_rfl) (Kw.ld_cell 4 0 (.bool false) (M16.get 0 rfl) (by kernel_rfl) _ Try.underlying4 rfl) ?_
  refine Kw.fin ?_
  refine Kw.then_normal ?_
  refine wp_cond_false (by kernel_rfl) ?_
  refine wp_skip ?_
  refine Kw.block_normal ?_
  refine Kw.then_normal ?_
  refine Kw.region ?_
  refine Kw.pureS (Canon.opS .add 3 (.tmp 62) (.const (.int .i64 1)) (.int .i64 1) (.int .i64 1)) (.int .i64 2) (by kernel_rfl) (by kernel_rfl) (by kernel_rfl) ?_
  refine Kw.pure (.int .i64 2) (by kernel_rfl) (by kernel_rfl) ?_
  refine Kw.fin ?_
  refine Kw.then_normal ?_
  refine Kw.round_succ ?_
  refine wp_seq ?_
  refine Kw.region ?_
  refine Kw.pureS (Canon.opS .lss 3 (.tmp 62) (.const (.int .i64 3)) (.int .i64 2) (.int .i64 3)) (.bool true) (by kernel_rfl) (by kernel_rfl) (by kernel_rfl) ?_
  refine Kw.fin ?_
  refine Kw.then_normal ?_
  refine wp_seq ?_
  refine wp_cond_true (by kernel_rfl) ?_
  refine wp_skip ?_
  refine Kw.then_normal ?_
  refine wp_seq ?_
  refine wp_block ?_
  refine wp_seq ?_
  refine Kw.region ?_
  refine Kw.pure (.agg #[.bool false, .int .i64 20, .int .i64 (s rs2)]) (by kernel_rfl) (by kernel_rfl) ?_
  refine Kw.alloc #[.bool false, .int .i64 0, .int .i64 0] 72 M16 (by kernel_rfl) (by kernel_rfl) fun w17 B17 M17 => ?_
  refine Kw.storeAll 0 72 #[.bool false, .int .i64 20, .int .i64 (s rs2)] M17 rfl (by kernel_rfl) (by kernel_rfl) (by kernel_rfl) (by kernel_rfl) (by kernel_rfl) fun w18 M18 => ?_
  refine Kw.fin ?_
  refine Kw.then_normal ?_
  refine wp_seq ?_
  refine wp_seq ?_
  refine Kw.region ?_
  refine Kw.pure (.pointer (some ⟨B17, 0, none⟩)) (by kernel_rfl) (by kernel_rfl) ?_
  refine Kw.pureS (Canon.ldS 4 (.pointer (some ⟨B17, 0, none⟩))) (.bool false) (by kernel_rfl) (by kernel_rfl) (Kw.ld_cell 4 0 (.bool false) (M18.get 0 rfl) (by kernel_rfl) _ Try.underlying4 rfl) ?_
  refine Kw.pure (.bool false) (by kernel_rfl) (by kernel_rfl) ?_
  refine Kw.skip (by kernel_rfl) ?_
  refine Kw.skip (by kernel_rfl) ?_
  refine Kw.skip (by kernel_rfl) ?_
  refine Kw.skip (by kernel_rfl) ?_
  refine Kw.pure (.bool false) (by kernel_rfl) (by kernel_rfl) ?_
  refine Kw.fin ?_
  refine Kw.then_normal ?_
  refine wp_cond_false (by kernel_rfl) ?_
  refine wp_skip ?_
  refine Kw.then_normal ?_
  refine wp_seq ?_
  refine Kw.region ?_
  refine Kw.pure (.pointer (some ⟨B17, 0, none⟩)) (by kernel_rfl) (by kernel_rfl) ?_
  refine Kw.pureS (Canon.ldS 4 (.pointer (some ⟨B17, 0, none⟩))) (.bool false) (by kernel_rfl) (by kernel_rfl) (Kw.ld_cell 4 0 (.bool false) (M18.get 0 rfl) (by kernel_rfl) _ Try.underlying4 rfl) ?_
  refine Kw.fin ?_
  refine Kw.then_normal ?_
  refine wp_cond_false (by kernel_rfl) ?_
  refine wp_skip ?_
  refine Kw.block_normal ?_
  refine Kw.then_normal ?_
  refine Kw.region ?_
  refine Kw.pureS (Canon.opS .add 3 (.tmp 62) (.const (.int .i64 1)) (.int .i64 2) (.int .i64 1)) (.int .i64 3) (by kernel_rfl) (by kernel_rfl) (by kernel_rfl) ?_
  refine Kw.pure (.int .i64 3) (by kernel_rfl) (by kernel_rfl) ?_
  refine Kw.fin ?_
  refine Kw.then_normal ?_
  refine Kw.round_succ ?_
  refine wp_seq ?_
  refine Kw.region ?_
  refine Kw.pureS (Canon.opS .lss 3 (.tmp 62) (.const (.int .i64 3)) (.int .i64 3) (.int .i64 3)) (.bool false) (by kernel_rfl) (by kernel_rfl) (by kernel_rfl) ?_
  refine Kw.fin ?_
  refine Kw.then_normal ?_
  refine wp_seq ?_
  refine wp_cond_false (by kernel_rfl) ?_
  refine wp_exit ?_
  refine Kw.then_exit ?_
  refine Kw.then_exit ?_
  refine Kw.block_hit ?_
  refine Kw.then_normal ?_
  refine wp_seq ?_
  refine Kw.region ?_
  refine Kw.pure (.int .u64 (u (putI (putI (putI 0#64 0 7 (cd k)) 7 13 0#64) 20 12 (ot k)))) (by kernel_rfl) (by kernel_rfl) ?_
  refine Kw.pure (.int .u32 (u ((putI (putI (putI 0#64 0 7 (cd k)) 7 13 0#64) 20 12 (ot k)) &&& 4294967295#64))) (by kernel_rfl) (Kw.eqv (v := .int .u32 (IntKind.u32.wrap (u (putI (putI (putI 0#64 0 7 (cd k)) 7 13 0#64) 20 12 (ot k))))) (by kernel_rfl) (congrArg (Value.int .u32) (wrap32_u (putI (putI (putI 0#64 0 7 (cd k)) 7 13 0#64) 20 12 (ot k))))) ?_
  refine Kw.pure (.int .u32 (u ((putI (putI (putI 0#64 0 7 (cd k)) 7 13 0#64) 20 12 (ot k)) &&& 4294967295#64))) (by kernel_rfl) (by kernel_rfl) ?_
  refine Kw.pure (.bool true) (by kernel_rfl) (by kernel_rfl) ?_
  refine Kw.fin ?_
  refine Kw.then_normal ?_
  refine wp_ret ?_
  exact bodyPost_ret (v := .tuple #[.int .u32 (u ((putI (putI (putI 0#64 0 7 (cd k)) 7 13 0#64) 20 12 (ot k)) &&& 4294967295#64)), .bool true]) (by kernel_rfl) (by kernel_rfl) ⟨by simp_all [encR], M18.drop⟩
end Go.Proofs.Ytpmpibcfmejbfaa.Inst
