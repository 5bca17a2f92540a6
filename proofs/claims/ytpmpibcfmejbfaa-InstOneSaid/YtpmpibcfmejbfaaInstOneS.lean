/- Two words that are instructions, and each instruction of the table: the walk. No condition. -/
import Derived.Test.YtpmpibcfmejbfaaInstUse
namespace Go.Proofs.Ytpmpibcfmejbfaa.Inst
open Go.RowKit Go.Proofs.Ytpmpibcfmejbfaa.Bits
attribute [local irreducible] Go.wpList
set_option linter.unusedVariables false
theorem rem1 (X Y : Operand) (op : Int) (w : World) : (Canon.opS .rem 3 X Y (.int .i64 op) (.int .i64 69)).run Try.prog w = .ok (.value (.int .i64 (op.tmod 69))) w := by kernel_rfl
theorem rem2 (X Y : Operand) (op : Int) (w : World) : (Canon.opS .add 3 X Y (.int .i64 (op.tmod 69)) (.int .i64 69)).run Try.prog w = .ok (.value (.int .i64 (op.tmod 69 + 69))) w := Kw.eqv (v := .int .i64 (IntKind.i64.wrap (op.tmod 69 + 69))) (by kernel_rfl) (by rw [IntWalk.i64_in _ (by have := Int.tmod_lt_of_pos op (show (0:Int) < 69 by decide); have := Int.lt_tmod_of_pos op (show (0:Int) < 69 by decide); omega)])
theorem rem3 (X Y : Operand) (op : Int) (m : Nat) (hop : (op.tmod 69 + 69).tmod 69 = (m : Int)) (w : World) : (Canon.opS .rem 3 X Y (.int .i64 (op.tmod 69 + 69)) (.int .i64 69)).run Try.prog w = .ok (.value (.int .i64 (m : Int))) w := Kw.eqv (v := .int .i64 ((op.tmod 69 + 69).tmod 69)) (by kernel_rfl) (by rw [hop])
theorem rem4 (X Y : Operand) (m : Nat) (hm : m < 69) (w : World) : (Canon.opS .add 3 X Y (.int .i64 1) (.int .i64 (m : Int))).run Try.prog w = .ok (.value (.int .i64 ((m + 1 : Nat) : Int))) w := Kw.eqv (v := .int .i64 (IntKind.i64.wrap (1 + (m : Int)))) (by kernel_rfl) (by rw [IntWalk.i64_in _ (by omega), show (1 + (m : Int)) = ((m + 1 : Nat) : Int) by omega])
theorem same_zero (X Y : Operand) (m : Nat) (w : World) : (Canon.opS .eql 36 X Y (.agg #[.int .i64 ((m + 1 : Nat) : Int), .int .i64 0, .int .i64 0, .int .i64 0, .int .i64 0]) (.agg #[.int .i64 ((m + 1 : Nat) : Int), .int .i64 0, .int .i64 0, .int .i64 0, .int .i64 0])).run Try.prog w = .ok (.value (.bool true)) w := Kw.eqv (agg_eql X Y w _ _ _ _ _ _ _ _ _ _) (by simp [sameB])
theorem same_m (X Y : Operand) (m : Nat) (w : World) : (Canon.opS .eql 3 X Y (.int .i64 ((m + 1 : Nat) : Int)) (.int .i64 ((m + 1 : Nat) : Int))).run Try.prog w = .ok (.value (.bool true)) w := Kw.eqv (v := .bool (((m + 1 : Nat) : Int) == ((m + 1 : Nat) : Int))) (by kernel_rfl) (by simp)
theorem ne_self (X Y : Operand) (b : Bool) (w : World) : (Canon.opS .neq 4 X Y (.bool b) (.bool b)).run Try.prog w = .ok (.value (.bool false)) w := by cases b <;> kernel_rfl
theorem same_ab (X Y : Operand) (a b : BitVec 64) (ka kb : Nat) (ha : decN a = some ka) (hb : decN b = some kb) (xa : ∀ i, 32 ≤ i → i < 64 → a.getLsbD i = false) (xb : ∀ i, 32 ≤ i → i < 64 → b.getLsbD i = false) (w : World) : (Canon.opS .eql 36 X Y (.agg #[.int .i64 ((ka + 1 : Nat) : Int), .int .i64 (s (rdK ka a)), .int .i64 (s (rs1K ka a)), .int .i64 (s (rs2K ka a)), .int .i64 (s (immK ka a))]) (.agg #[.int .i64 ((kb + 1 : Nat) : Int), .int .i64 (s (rdK kb b)), .int .i64 (s (rs1K kb b)), .int .i64 (s (rs2K kb b)), .int .i64 (s (immK kb b))])).run Try.prog w = .ok (.value (.bool (u a == u b))) w := by 
  refine Kw.eqv (agg_eql X Y w _ _ _ _ _ _ _ _ _ _) ?_
  congr 1
  rw [Bool.eq_iff_iff]
  unfold sameB
  simp only [Bool.and_eq_true, beq_iff_eq]
  constructor
  · rintro ⟨e0, e1, e2, e3, e4⟩
    obtain rfl : ka = kb := by omega
    have A := (enc_dec ka (decN_some ha).1 a xa (decN_some ha).2).2
    have B := (enc_dec ka (decN_some hb).1 b xb (decN_some hb).2).2
    rw [s_inj e1, s_inj e2, s_inj e3, s_inj e4, B] at A
    rw [A]
  · intro e
    have e := u_inj e
    subst e
    rw [ha] at hb
    obtain rfl := Option.some.inj hb
    exact ⟨rfl, rfl, rfl, rfl, rfl⟩
set_option maxRecDepth 100000 in
theorem one_11 (a b : BitVec 64) (op : Int) (m : Nat) (hm : m < 69) (hop : (op.tmod 69 + 69).tmod 69 = (m : Int)) (xa : ∀ i, 32 ≤ i → i < 64 → a.getLsbD i = false) (xb : ∀ i, 32 ≤ i → i < 64 → b.getLsbD i = false) (ka : Nat) (ha : decN a = some ka) (kb : Nat) (hb : decN b = some kb) (W : World) : Calls Try.prog 10 #[.int .u32 (u a), .int .u32 (u b), .int .i64 op] W fun e W' => e = .returned (.bool true) ∧ Kw.Mem [] W W' [] := by
  refine calls_of_wp Try.func10 rfl ?_
  have M0 : Kw.Mem [] W W [] := Kw.Mem.start _ _
  refine Kw.to (b := ⟨#[.int .u32 (u a), .int .u32 (u b), .int .i64 op, undef, undef, undef, undef, undef, undef, undef, undef, undef, undef, undef, undef, undef, undef, undef, undef, undef, undef, undef, undef, undef, undef, undef, undef, undef, undef, undef, undef, undef, undef, undef, undef, undef, undef, undef, undef, undef, undef, undef, undef, undef, undef, undef, undef, undef, undef, undef, undef, undef, undef, undef, undef, undef, undef, undef, undef, undef, undef, undef, undef, undef, undef, undef, undef, undef, undef, undef, undef, undef, undef, undef], []⟩) (by kernel_rfl) ?_
  refine wp_seq ?_
  refine Kw.region ?_
  refine Kw.pure (.bool false) (by kernel_rfl) (by kernel_rfl) ?_
  refine Kw.fin ?_
  refine Kw.then_normal ?_
  refine wp_seq ?_
  refine Kw.region ?_
  refine Kw.pure (.int .u32 (u a)) (by kernel_rfl) (by kernel_rfl) ?_
  refine Kw.call (.tuple #[.agg #[.int .i64 ((ka + 1 : Nat) : Int), .int .i64 (s (rdK ka a)), .int .i64 (s (rs1K ka a)), .int .i64 (s (rs2K ka a)), .int .i64 (s (immK ka a))], .bool true]) 27 #[.int .u32 (u a)] M0 (by kernel_rfl) (by kernel_rfl) (decode_y a ka ha W) fun w1 M1 => ?_
  refine Kw.pure (.tuple #[.agg #[.int .i64 ((ka + 1 : Nat) : Int), .int .i64 (s (rdK ka a)), .int .i64 (s (rs1K ka a)), .int .i64 (s (rs2K ka a)), .int .i64 (s (immK ka a))], .bool true]) (by kernel_rfl) (by kernel_rfl) ?_
  refine Kw.pure (.agg #[.int .i64 ((ka + 1 : Nat) : Int), .int .i64 (s (rdK ka a)), .int .i64 (s (rs1K ka a)), .int .i64 (s (rs2K ka a)), .int .i64 (s (immK ka a))]) (by kernel_rfl) (by kernel_rfl) ?_
  refine Kw.pure (.bool true) (by kernel_rfl) (by kernel_rfl) ?_
  refine Kw.alloc #[.int .i64 0, .int .i64 0, .int .i64 0, .int .i64 0, .int .i64 0] 36 M1 (by kernel_rfl) (by kernel_rfl) fun w2 B2 M2 => ?_
  refine Kw.storeAll 0 36 #[.int .i64 ((ka + 1 : Nat) : Int), .int .i64 (s (rdK ka a)), .int .i64 (s (rs1K ka a)), .int .i64 (s (rs2K ka a)), .int .i64 (s (immK ka a))] M2 rfl (by kernel_rfl) (by kernel_rfl) (by kernel_rfl) (by kernel_rfl) (by kernel_rfl) fun w3 M3 => ?_
  refine Kw.pure (.bool true) (by kernel_rfl) (by kernel_rfl) ?_
  refine Kw.fin ?_
  refine Kw.then_normal ?_
  refine wp_seq ?_
  refine Kw.region ?_
  refine Kw.pure (.int .u32 (u b)) (by kernel_rfl) (by kernel_rfl) ?_
  refine Kw.call (.tuple #[.agg #[.int .i64 ((kb + 1 : Nat) : Int), .int .i64 (s (rdK kb b)), .int .i64 (s (rs1K kb b)), .int .i64 (s (rs2K kb b)), .int .i64 (s (immK kb b))], .bool true]) 27 #[.int .u32 (u b)] M3 (by kernel_rfl) (by kernel_rfl) (decode_y b kb hb w3) fun w4 M4 => ?_
  refine Kw.pure (.tuple #[.agg #[.int .i64 ((kb + 1 : Nat) : Int), .int .i64 (s (rdK kb b)), .int .i64 (s (rs1K kb b)), .int .i64 (s (rs2K kb b)), .int .i64 (s (immK kb b))], .bool true]) (by kernel_rfl) (by kernel_rfl) ?_
  refine Kw.pure (.agg #[.int .i64 ((kb + 1 : Nat) : Int), .int .i64 (s (rdK kb b)), .int .i64 (s (rs1K kb b)), .int .i64 (s (rs2K kb b)), .int .i64 (s (immK kb b))]) (by kernel_rfl) (by kernel_rfl) ?_
  refine Kw.pure (.bool true) (by kernel_rfl) (by kernel_rfl) ?_
  refine Kw.alloc #[.int .i64 0, .int .i64 0, .int .i64 0, .int .i64 0, .int .i64 0] 36 M4 (by kernel_rfl) (by kernel_rfl) fun w5 B5 M5 => ?_
  refine Kw.storeAll 0 36 #[.int .i64 ((kb + 1 : Nat) : Int), .int .i64 (s (rdK kb b)), .int .i64 (s (rs1K kb b)), .int .i64 (s (rs2K kb b)), .int .i64 (s (immK kb b))] M5 rfl (by kernel_rfl) (by kernel_rfl) (by kernel_rfl) (by kernel_rfl) (by kernel_rfl) fun w6 M6 => ?_
  refine Kw.pure (.bool true) (by kernel_rfl) (by kernel_rfl) ?_
  refine Kw.fin ?_
  refine Kw.then_normal ?_
  refine wp_seq ?_
  refine wp_seq ?_
  refine Kw.region ?_
  refine Kw.pure (.bool true) (by kernel_rfl) (by kernel_rfl) ?_
  refine Kw.pure (.bool true) (by kernel_rfl) (by kernel_rfl) ?_
  refine Kw.pure (.bool true) (by kernel_rfl) (by kernel_rfl) ?_
  refine Kw.pure (.bool true) (by kernel_rfl) (by kernel_rfl) ?_
  refine Kw.pure (.bool true) (by kernel_rfl) (by kernel_rfl) ?_
  refine Kw.pureS (Canon.ldS 36 (.pointer (some ⟨B2, 0, none⟩))) (.agg #[.int .i64 ((ka + 1 : Nat) : Int), .int .i64 (s (rdK ka a)), .int .i64 (s (rs1K ka a)), .int .i64 (s (rs2K ka a)), .int .i64 (s (immK ka a))]) (by kernel_rfl) (by kernel_rfl) (Kw.ld_all 36 (M6.get 1 rfl) _ Try.underlying36 rfl (by kernel_rfl)) ?_
  refine Kw.pureS (Canon.ldS 36 (.pointer (some ⟨B5, 0, none⟩))) (.agg #[.int .i64 ((kb + 1 : Nat) : Int), .int .i64 (s (rdK kb b)), .int .i64 (s (rs1K kb b)), .int .i64 (s (rs2K kb b)), .int .i64 (s (immK kb b))]) (by kernel_rfl) (by kernel_rfl) (Kw.ld_all 36 (M6.get 0 rfl) _ Try.underlying36 rfl (by kernel_rfl)) ?_
  refine Kw.pureS (Canon.opS .eql 36 (.tmp 30) (.tmp 31) (.agg #[.int .i64 ((ka + 1 : Nat) : Int), .int .i64 (s (rdK ka a)), .int .i64 (s (rs1K ka a)), .int .i64 (s (rs2K ka a)), .int .i64 (s (immK ka a))]) (.agg #[.int .i64 ((kb + 1 : Nat) : Int), .int .i64 (s (rdK kb b)), .int .i64 (s (rs1K kb b)), .int .i64 (s (rs2K kb b)), .int .i64 (s (immK kb b))])) (.bool (u a == u b)) (by kernel_rfl) (by kernel_rfl) (same_ab _ _ a b ka kb ha hb xa xb w6) ?_
  refine Kw.pure (.int .u32 (u a)) (by kernel_rfl) (by kernel_rfl) ?_
  refine Kw.pure (.int .u32 (u b)) (by kernel_rfl) (by kernel_rfl) ?_
  refine Kw.pureS (Canon.opS .eql 37 (.tmp 33) (.tmp 34) (.int .u32 (u a)) (.int .u32 (u b))) (.bool ((u a) == (u b))) (by kernel_rfl) (by kernel_rfl) (by kernel_rfl) ?_
  refine Kw.pureS (Canon.opS .neq 4 (.tmp 32) (.tmp 35) (.bool (u a == u b)) (.bool ((u a) == (u b)))) (.bool false) (by kernel_rfl) (by kernel_rfl) (ne_self _ _ _ w6) ?_
  refine Kw.pure (.bool false) (by kernel_rfl) (by kernel_rfl) ?_
  refine Kw.fin ?_
  refine Kw.then_normal ?_
  refine wp_cond_false (by kernel_rfl) ?_
  refine wp_skip ?_
  refine Kw.then_normal ?_
  refine wp_seq ?_
  refine Kw.region ?_
  refine Kw.pure (.int .i64 op) (by kernel_rfl) (by kernel_rfl) ?_
  refine Kw.pureS (Canon.opS .rem 3 (.tmp 38) (.const (.int .i64 69)) (.int .i64 op) (.int .i64 69)) (.int .i64 (op.tmod 69)) (by kernel_rfl) (by kernel_rfl) (rem1 _ _ op w6) ?_
  refine Kw.pureS (Canon.opS .add 3 (.tmp 39) (.const (.int .i64 69)) (.int .i64 (op.tmod 69)) (.int .i64 69)) (.int .i64 (op.tmod 69 + 69)) (by kernel_rfl) (by kernel_rfl) (rem2 _ _ op w6) ?_
  refine Kw.pureS (Canon.opS .rem 3 (.tmp 40) (.const (.int .i64 69)) (.int .i64 (op.tmod 69 + 69)) (.int .i64 69)) (.int .i64 (m : Int)) (by kernel_rfl) (by kernel_rfl) (rem3 _ _ op m hop w6) ?_
  refine Kw.pureS (Canon.opS .add 3 (.const (.int .i64 1)) (.tmp 41) (.int .i64 1) (.int .i64 (m : Int))) (.int .i64 ((m + 1 : Nat) : Int)) (by kernel_rfl) (by kernel_rfl) (rem4 _ _ m hm w6) ?_
  refine Kw.pure (.int .i64 ((m + 1 : Nat) : Int)) (by kernel_rfl) (by kernel_rfl) ?_
  refine Kw.fin ?_
  refine Kw.then_normal ?_
  refine wp_seq ?_
  refine Kw.region ?_
  refine Kw.pure (.int .i64 ((m + 1 : Nat) : Int)) (by kernel_rfl) (by kernel_rfl) ?_
  refine Kw.pure (.agg #[.int .i64 ((m + 1 : Nat) : Int), .int .i64 0, .int .i64 0, .int .i64 0, .int .i64 0]) (by kernel_rfl) (by kernel_rfl) ?_
  refine Kw.call (.tuple #[.int .u32 (u (wordK m 0#64 0#64 0#64 0#64 &&& 4294967295#64)), .bool true]) 25 #[.agg #[.int .i64 ((m + 1 : Nat) : Int), .int .i64 0, .int .i64 0, .int .i64 0, .int .i64 0]] M6 (by kernel_rfl) (by kernel_rfl) (encode_zero m hm w6) fun w7 M7 => ?_
  refine Kw.pure (.tuple #[.int .u32 (u (wordK m 0#64 0#64 0#64 0#64 &&& 4294967295#64)), .bool true]) (by kernel_rfl) (by kernel_rfl) ?_
  refine Kw.pure (.int .u32 (u (wordK m 0#64 0#64 0#64 0#64 &&& 4294967295#64))) (by kernel_rfl) (by kernel_rfl) ?_
  refine Kw.pure (.bool true) (by kernel_rfl) (by kernel_rfl) ?_
  refine Kw.pure (.int .u32 (u (wordK m 0#64 0#64 0#64 0#64 &&& 4294967295#64))) (by kernel_rfl) (by kernel_rfl) ?_
  refine Kw.pure (.bool true) (by kernel_rfl) (by kernel_rfl) ?_
  refine Kw.fin ?_
  refine Kw.then_normal ?_
  refine wp_seq ?_
  refine Kw.region ?_
  refine Kw.pure (.int .u32 (u (wordK m 0#64 0#64 0#64 0#64 &&& 4294967295#64))) (by kernel_rfl) (by kernel_rfl) ?_
  refine Kw.call (.tuple #[.agg #[.int .i64 ((m + 1 : Nat) : Int), .int .i64 0, .int .i64 0, .int .i64 0, .int .i64 0], .bool true]) 27 #[.int .u32 (u (wordK m 0#64 0#64 0#64 0#64 &&& 4294967295#64))] M7 (by kernel_rfl) (by kernel_rfl) (decode_zero m hm w7) fun w8 M8 => ?_
  refine Kw.pure (.tuple #[.agg #[.int .i64 ((m + 1 : Nat) : Int), .int .i64 0, .int .i64 0, .int .i64 0, .int .i64 0], .bool true]) (by kernel_rfl) (by kernel_rfl) ?_
  refine Kw.pure (.agg #[.int .i64 ((m + 1 : Nat) : Int), .int .i64 0, .int .i64 0, .int .i64 0, .int .i64 0]) (by kernel_rfl) (by kernel_rfl) ?_
  refine Kw.pure (.bool true) (by kernel_rfl) (by kernel_rfl) ?_
  refine Kw.alloc #[.int .i64 0, .int .i64 0, .int .i64 0, .int .i64 0, .int .i64 0] 36 M8 (by kernel_rfl) (by kernel_rfl) fun w9 B9 M9 => ?_
  refine Kw.storeAll 0 36 #[.int .i64 ((m + 1 : Nat) : Int), .int .i64 0, .int .i64 0, .int .i64 0, .int .i64 0] M9 rfl (by kernel_rfl) (by kernel_rfl) (by kernel_rfl) (by kernel_rfl) (by kernel_rfl) fun w10 M10 => ?_
  refine Kw.pure (.bool true) (by kernel_rfl) (by kernel_rfl) ?_
  refine Kw.fin ?_
  refine Kw.then_normal ?_
  refine wp_seq ?_
  refine Kw.region ?_
  refine Kw.pure (.bool true) (by kernel_rfl) (by kernel_rfl) ?_
  refine Kw.pure (.bool true) (by kernel_rfl) (by kernel_rfl) ?_
  refine Kw.pure (.bool true) (by kernel_rfl) (by kernel_rfl) ?_
  refine Kw.pure (.bool true) (by kernel_rfl) (by kernel_rfl) ?_
  refine Kw.pure (.bool true) (by kernel_rfl) (by kernel_rfl) ?_
  refine Kw.pureS (Canon.ldS 36 (.pointer (some ⟨B9, 0, none⟩))) (.agg #[.int .i64 ((m + 1 : Nat) : Int), .int .i64 0, .int .i64 0, .int .i64 0, .int .i64 0]) (by kernel_rfl) (by kernel_rfl) (Kw.ld_all 36 (M10.get 0 rfl) _ Try.underlying36 rfl (by kernel_rfl)) ?_
  refine Kw.pure (.int .i64 ((m + 1 : Nat) : Int)) (by kernel_rfl) (by kernel_rfl) ?_
  refine Kw.pure (.agg #[.int .i64 ((m + 1 : Nat) : Int), .int .i64 0, .int .i64 0, .int .i64 0, .int .i64 0]) (by kernel_rfl) (by kernel_rfl) ?_
  refine Kw.pureS (Canon.opS .eql 36 (.tmp 59) (.tmp 61) (.agg #[.int .i64 ((m + 1 : Nat) : Int), .int .i64 0, .int .i64 0, .int .i64 0, .int .i64 0]) (.agg #[.int .i64 ((m + 1 : Nat) : Int), .int .i64 0, .int .i64 0, .int .i64 0, .int .i64 0])) (.bool true) (by kernel_rfl) (by kernel_rfl) (same_zero _ _ m w10) ?_
  refine Kw.pure (.bool true) (by kernel_rfl) (by kernel_rfl) ?_
  refine Kw.pure (.bool true) (by kernel_rfl) (by kernel_rfl) ?_
  refine Kw.pure (.int .i64 ((m + 1 : Nat) : Int)) (by kernel_rfl) (by kernel_rfl) ?_
  refine Kw.call (.string (nm m)) 32 #[.int .i64 ((m + 1 : Nat) : Int)] M10 (by kernel_rfl) (by kernel_rfl) (name_in m hm w10) fun w11 M11 => ?_
  refine Kw.call (.int .i64 ((m + 1 : Nat) : Int)) 31 #[.string (nm m)] M11 (by kernel_rfl) (by kernel_rfl) (find_m m hm w11) fun w12 M12 => ?_
  refine Kw.pure (.int .i64 ((m + 1 : Nat) : Int)) (by kernel_rfl) (by kernel_rfl) ?_
  refine Kw.pureS (Canon.opS .eql 3 (.tmp 67) (.tmp 68) (.int .i64 ((m + 1 : Nat) : Int)) (.int .i64 ((m + 1 : Nat) : Int))) (.bool true) (by kernel_rfl) (by kernel_rfl) (same_m _ _ m w12) ?_
  refine Kw.pure (.bool true) (by kernel_rfl) (by kernel_rfl) ?_
  refine Kw.pure (.bool true) (by kernel_rfl) (by kernel_rfl) ?_
  refine Kw.call (.bool true) 29 #[] M12 (by kernel_rfl) (by kernel_rfl) (one_c w12) fun w13 M13 => ?_
  refine Kw.pure (.bool true) (by kernel_rfl) (by kernel_rfl) ?_
  refine Kw.pure (.bool true) (by kernel_rfl) (by kernel_rfl) ?_
  refine Kw.fin ?_
  refine Kw.then_normal ?_
  refine wp_ret ?_
  exact bodyPost_ret (v := .bool true) (by kernel_rfl) (by kernel_rfl) ⟨rfl, M13.drop⟩
set_option maxRecDepth 100000 in
theorem one_10 (a b : BitVec 64) (op : Int) (m : Nat) (hm : m < 69) (hop : (op.tmod 69 + 69).tmod 69 = (m : Int)) (xa : ∀ i, 32 ≤ i → i < 64 → a.getLsbD i = false) (xb : ∀ i, 32 ≤ i → i < 64 → b.getLsbD i = false) (ka : Nat) (ha : decN a = some ka) (hb : decN b = none) (W : World) : Calls Try.prog 10 #[.int .u32 (u a), .int .u32 (u b), .int .i64 op] W fun e W' => e = .returned (.bool true) ∧ Kw.Mem [] W W' [] := by
  refine calls_of_wp Try.func10 rfl ?_
  have M0 : Kw.Mem [] W W [] := Kw.Mem.start _ _
  refine Kw.to (b := ⟨#[.int .u32 (u a), .int .u32 (u b), .int .i64 op, undef, undef, undef, undef, undef, undef, undef, undef, undef, undef, undef, undef, undef, undef, undef, undef, undef, undef, undef, undef, undef, undef, undef, undef, undef, undef, undef, undef, undef, undef, undef, undef, undef, undef, undef, undef, undef, undef, undef, undef, undef, undef, undef, undef, undef, undef, undef, undef, undef, undef, undef, undef, undef, undef, undef, undef, undef, undef, undef, undef, undef, undef, undef, undef, undef, undef, undef, undef, undef, undef, undef], []⟩) (by kernel_rfl) ?_
  refine wp_seq ?_
  refine Kw.region ?_
  refine Kw.pure (.bool false) (by kernel_rfl) (by kernel_rfl) ?_
  refine Kw.fin ?_
  refine Kw.then_normal ?_
  refine wp_seq ?_
  refine Kw.region ?_
  refine Kw.pure (.int .u32 (u a)) (by kernel_rfl) (by kernel_rfl) ?_
  refine Kw.call (.tuple #[.agg #[.int .i64 ((ka + 1 : Nat) : Int), .int .i64 (s (rdK ka a)), .int .i64 (s (rs1K ka a)), .int .i64 (s (rs2K ka a)), .int .i64 (s (immK ka a))], .bool true]) 27 #[.int .u32 (u a)] M0 (by kernel_rfl) (by kernel_rfl) (decode_y a ka ha W) fun w1 M1 => ?_
  refine Kw.pure (.tuple #[.agg #[.int .i64 ((ka + 1 : Nat) : Int), .int .i64 (s (rdK ka a)), .int .i64 (s (rs1K ka a)), .int .i64 (s (rs2K ka a)), .int .i64 (s (immK ka a))], .bool true]) (by kernel_rfl) (by kernel_rfl) ?_
  refine Kw.pure (.agg #[.int .i64 ((ka + 1 : Nat) : Int), .int .i64 (s (rdK ka a)), .int .i64 (s (rs1K ka a)), .int .i64 (s (rs2K ka a)), .int .i64 (s (immK ka a))]) (by kernel_rfl) (by kernel_rfl) ?_
  refine Kw.pure (.bool true) (by kernel_rfl) (by kernel_rfl) ?_
  refine Kw.alloc #[.int .i64 0, .int .i64 0, .int .i64 0, .int .i64 0, .int .i64 0] 36 M1 (by kernel_rfl) (by kernel_rfl) fun w2 B2 M2 => ?_
  refine Kw.storeAll 0 36 #[.int .i64 ((ka + 1 : Nat) : Int), .int .i64 (s (rdK ka a)), .int .i64 (s (rs1K ka a)), .int .i64 (s (rs2K ka a)), .int .i64 (s (immK ka a))] M2 rfl (by kernel_rfl) (by kernel_rfl) (by kernel_rfl) (by kernel_rfl) (by kernel_rfl) fun w3 M3 => ?_
  refine Kw.pure (.bool true) (by kernel_rfl) (by kernel_rfl) ?_
  refine Kw.fin ?_
  refine Kw.then_normal ?_
  refine wp_seq ?_
  refine Kw.region ?_
  refine Kw.pure (.int .u32 (u b)) (by kernel_rfl) (by kernel_rfl) ?_
  refine Kw.call (.tuple #[.agg #[.int .i64 0, .int .i64 0, .int .i64 0, .int .i64 0, .int .i64 0], .bool false]) 27 #[.int .u32 (u b)] M3 (by kernel_rfl) (by kernel_rfl) (decode_n b hb w3) fun w4 M4 => ?_
  refine Kw.pure (.tuple #[.agg #[.int .i64 0, .int .i64 0, .int .i64 0, .int .i64 0, .int .i64 0], .bool false]) (by kernel_rfl) (by kernel_rfl) ?_
  refine Kw.pure (.agg #[.int .i64 0, .int .i64 0, .int .i64 0, .int .i64 0, .int .i64 0]) (by kernel_rfl) (by kernel_rfl) ?_
  refine Kw.pure (.bool false) (by kernel_rfl) (by kernel_rfl) ?_
  refine Kw.alloc #[.int .i64 0, .int .i64 0, .int .i64 0, .int .i64 0, .int .i64 0] 36 M4 (by kernel_rfl) (by kernel_rfl) fun w5 B5 M5 => ?_
  refine Kw.storeAll 0 36 #[.int .i64 0, .int .i64 0, .int .i64 0, .int .i64 0, .int .i64 0] M5 rfl (by kernel_rfl) (by kernel_rfl) (by kernel_rfl) (by kernel_rfl) (by kernel_rfl) fun w6 M6 => ?_
  refine Kw.pure (.bool false) (by kernel_rfl) (by kernel_rfl) ?_
  refine Kw.fin ?_
  refine Kw.then_normal ?_
  refine wp_seq ?_
  refine wp_seq ?_
  refine Kw.region ?_
  refine Kw.pure (.bool true) (by kernel_rfl) (by kernel_rfl) ?_
  refine Kw.pure (.bool true) (by kernel_rfl) (by kernel_rfl) ?_
  refine Kw.pure (.bool false) (by kernel_rfl) (by kernel_rfl) ?_
  refine Kw.pure (.bool false) (by kernel_rfl) (by kernel_rfl) ?_
  refine Kw.pure (.bool false) (by kernel_rfl) (by kernel_rfl) ?_
  refine Kw.skip (by kernel_rfl) ?_
  refine Kw.skip (by kernel_rfl) ?_
  refine Kw.skip (by kernel_rfl) ?_
  refine Kw.skip (by kernel_rfl) ?_
  refine Kw.skip (by kernel_rfl) ?_
  refine Kw.skip (by kernel_rfl) ?_
  refine Kw.skip (by kernel_rfl) ?_
  refine Kw.pure (.bool false) (by kernel_rfl) (by kernel_rfl) ?_
  refine Kw.fin ?_
  refine Kw.then_normal ?_
  refine wp_cond_false (by kernel_rfl) ?_
  refine wp_skip ?_
  refine Kw.then_normal ?_
  refine wp_seq ?_
  refine Kw.region ?_
  refine Kw.pure (.int .i64 op) (by kernel_rfl) (by kernel_rfl) ?_
  refine Kw.pureS (Canon.opS .rem 3 (.tmp 38) (.const (.int .i64 69)) (.int .i64 op) (.int .i64 69)) (.int .i64 (op.tmod 69)) (by kernel_rfl) (by kernel_rfl) (rem1 _ _ op w6) ?_
  refine Kw.pureS (Canon.opS .add 3 (.tmp 39) (.const (.int .i64 69)) (.int .i64 (op.tmod 69)) (.int .i64 69)) (.int .i64 (op.tmod 69 + 69)) (by kernel_rfl) (by kernel_rfl) (rem2 _ _ op w6) ?_
  refine Kw.pureS (Canon.opS .rem 3 (.tmp 40) (.const (.int .i64 69)) (.int .i64 (op.tmod 69 + 69)) (.int .i64 69)) (.int .i64 (m : Int)) (by kernel_rfl) (by kernel_rfl) (rem3 _ _ op m hop w6) ?_
  refine Kw.pureS (Canon.opS .add 3 (.const (.int .i64 1)) (.tmp 41) (.int .i64 1) (.int .i64 (m : Int))) (.int .i64 ((m + 1 : Nat) : Int)) (by kernel_rfl) (by kernel_rfl) (rem4 _ _ m hm w6) ?_
  refine Kw.pure (.int .i64 ((m + 1 : Nat) : Int)) (by kernel_rfl) (by kernel_rfl) ?_
  refine Kw.fin ?_
  refine Kw.then_normal ?_
  refine wp_seq ?_
  refine Kw.region ?_
  refine Kw.pure (.int .i64 ((m + 1 : Nat) : Int)) (by kernel_rfl) (by kernel_rfl) ?_
  refine Kw.pure (.agg #[.int .i64 ((m + 1 : Nat) : Int), .int .i64 0, .int .i64 0, .int .i64 0, .int .i64 0]) (by kernel_rfl) (by kernel_rfl) ?_
  refine Kw.call (.tuple #[.int .u32 (u (wordK m 0#64 0#64 0#64 0#64 &&& 4294967295#64)), .bool true]) 25 #[.agg #[.int .i64 ((m + 1 : Nat) : Int), .int .i64 0, .int .i64 0, .int .i64 0, .int .i64 0]] M6 (by kernel_rfl) (by kernel_rfl) (encode_zero m hm w6) fun w7 M7 => ?_
  refine Kw.pure (.tuple #[.int .u32 (u (wordK m 0#64 0#64 0#64 0#64 &&& 4294967295#64)), .bool true]) (by kernel_rfl) (by kernel_rfl) ?_
  refine Kw.pure (.int .u32 (u (wordK m 0#64 0#64 0#64 0#64 &&& 4294967295#64))) (by kernel_rfl) (by kernel_rfl) ?_
  refine Kw.pure (.bool true) (by kernel_rfl) (by kernel_rfl) ?_
  refine Kw.pure (.int .u32 (u (wordK m 0#64 0#64 0#64 0#64 &&& 4294967295#64))) (by kernel_rfl) (by kernel_rfl) ?_
  refine Kw.pure (.bool true) (by kernel_rfl) (by kernel_rfl) ?_
  refine Kw.fin ?_
  refine Kw.then_normal ?_
  refine wp_seq ?_
  refine Kw.region ?_
  refine Kw.pure (.int .u32 (u (wordK m 0#64 0#64 0#64 0#64 &&& 4294967295#64))) (by kernel_rfl) (by kernel_rfl) ?_
  refine Kw.call (.tuple #[.agg #[.int .i64 ((m + 1 : Nat) : Int), .int .i64 0, .int .i64 0, .int .i64 0, .int .i64 0], .bool true]) 27 #[.int .u32 (u (wordK m 0#64 0#64 0#64 0#64 &&& 4294967295#64))] M7 (by kernel_rfl) (by kernel_rfl) (decode_zero m hm w7) fun w8 M8 => ?_
  refine Kw.pure (.tuple #[.agg #[.int .i64 ((m + 1 : Nat) : Int), .int .i64 0, .int .i64 0, .int .i64 0, .int .i64 0], .bool true]) (by kernel_rfl) (by kernel_rfl) ?_
  refine Kw.pure (.agg #[.int .i64 ((m + 1 : Nat) : Int), .int .i64 0, .int .i64 0, .int .i64 0, .int .i64 0]) (by kernel_rfl) (by kernel_rfl) ?_
  refine Kw.pure (.bool true) (by kernel_rfl) (by kernel_rfl) ?_
  refine Kw.alloc #[.int .i64 0, .int .i64 0, .int .i64 0, .int .i64 0, .int .i64 0] 36 M8 (by kernel_rfl) (by kernel_rfl) fun w9 B9 M9 => ?_
  refine Kw.storeAll 0 36 #[.int .i64 ((m + 1 : Nat) : Int), .int .i64 0, .int .i64 0, .int .i64 0, .int .i64 0] M9 rfl (by kernel_rfl) (by kernel_rfl) (by kernel_rfl) (by kernel_rfl) (by kernel_rfl) fun w10 M10 => ?_
  refine Kw.pure (.bool true) (by kernel_rfl) (by kernel_rfl) ?_
  refine Kw.fin ?_
  refine Kw.then_normal ?_
  refine wp_seq ?_
  refine Kw.region ?_
  refine Kw.pure (.bool true) (by kernel_rfl) (by kernel_rfl) ?_
  refine Kw.pure (.bool true) (by kernel_rfl) (by kernel_rfl) ?_
  refine Kw.pure (.bool true) (by kernel_rfl) (by kernel_rfl) ?_
  refine Kw.pure (.bool true) (by kernel_rfl) (by kernel_rfl) ?_
  refine Kw.pure (.bool true) (by kernel_rfl) (by kernel_rfl) ?_
  refine Kw.pureS (Canon.ldS 36 (.pointer (some ⟨B9, 0, none⟩))) (.agg #[.int .i64 ((m + 1 : Nat) : Int), .int .i64 0, .int .i64 0, .int .i64 0, .int .i64 0]) (by kernel_rfl) (by kernel_rfl) (Kw.ld_all 36 (M10.get 0 rfl) _ Try.underlying36 rfl (by kernel_rfl)) ?_
  refine Kw.pure (.int .i64 ((m + 1 : Nat) : Int)) (by kernel_rfl) (by kernel_rfl) ?_
  refine Kw.pure (.agg #[.int .i64 ((m + 1 : Nat) : Int), .int .i64 0, .int .i64 0, .int .i64 0, .int .i64 0]) (by kernel_rfl) (by kernel_rfl) ?_
  refine Kw.pureS (Canon.opS .eql 36 (.tmp 59) (.tmp 61) (.agg #[.int .i64 ((m + 1 : Nat) : Int), .int .i64 0, .int .i64 0, .int .i64 0, .int .i64 0]) (.agg #[.int .i64 ((m + 1 : Nat) : Int), .int .i64 0, .int .i64 0, .int .i64 0, .int .i64 0])) (.bool true) (by kernel_rfl) (by kernel_rfl) (same_zero _ _ m w10) ?_
  refine Kw.pure (.bool true) (by kernel_rfl) (by kernel_rfl) ?_
  refine Kw.pure (.bool true) (by kernel_rfl) (by kernel_rfl) ?_
  refine Kw.pure (.int .i64 ((m + 1 : Nat) : Int)) (by kernel_rfl) (by kernel_rfl) ?_
  refine Kw.call (.string (nm m)) 32 #[.int .i64 ((m + 1 : Nat) : Int)] M10 (by kernel_rfl) (by kernel_rfl) (name_in m hm w10) fun w11 M11 => ?_
  refine Kw.call (.int .i64 ((m + 1 : Nat) : Int)) 31 #[.string (nm m)] M11 (by kernel_rfl) (by kernel_rfl) (find_m m hm w11) fun w12 M12 => ?_
  refine Kw.pure (.int .i64 ((m + 1 : Nat) : Int)) (by kernel_rfl) (by kernel_rfl) ?_
  refine Kw.pureS (Canon.opS .eql 3 (.tmp 67) (.tmp 68) (.int .i64 ((m + 1 : Nat) : Int)) (.int .i64 ((m + 1 : Nat) : Int))) (.bool true) (by kernel_rfl) (by kernel_rfl) (same_m _ _ m w12) ?_
  refine Kw.pure (.bool true) (by kernel_rfl) (by kernel_rfl) ?_
  refine Kw.pure (.bool true) (by kernel_rfl) (by kernel_rfl) ?_
  refine Kw.call (.bool true) 29 #[] M12 (by kernel_rfl) (by kernel_rfl) (one_c w12) fun w13 M13 => ?_
  refine Kw.pure (.bool true) (by kernel_rfl) (by kernel_rfl) ?_
  refine Kw.pure (.bool true) (by kernel_rfl) (by kernel_rfl) ?_
  refine Kw.fin ?_
  refine Kw.then_normal ?_
  refine wp_ret ?_
  exact bodyPost_ret (v := .bool true) (by kernel_rfl) (by kernel_rfl) ⟨rfl, M13.drop⟩
set_option maxRecDepth 100000 in
theorem one_01 (a b : BitVec 64) (op : Int) (m : Nat) (hm : m < 69) (hop : (op.tmod 69 + 69).tmod 69 = (m : Int)) (xa : ∀ i, 32 ≤ i → i < 64 → a.getLsbD i = false) (xb : ∀ i, 32 ≤ i → i < 64 → b.getLsbD i = false) (ha : decN a = none) (kb : Nat) (hb : decN b = some kb) (W : World) : Calls Try.prog 10 #[.int .u32 (u a), .int .u32 (u b), .int .i64 op] W fun e W' => e = .returned (.bool true) ∧ Kw.Mem [] W W' [] := by
  refine calls_of_wp Try.func10 rfl ?_
  have M0 : Kw.Mem [] W W [] := Kw.Mem.start _ _
  refine Kw.to (b := ⟨#[.int .u32 (u a), .int .u32 (u b), .int .i64 op, undef, undef, undef, undef, undef, undef, undef, undef, undef, undef, undef, undef, undef, undef, undef, undef, undef, undef, undef, undef, undef, undef, undef, undef, undef, undef, undef, undef, undef, undef, undef, undef, undef, undef, undef, undef, undef, undef, undef, undef, undef, undef, undef, undef, undef, undef, undef, undef, undef, undef, undef, undef, undef, undef, undef, undef, undef, undef, undef, undef, undef, undef, undef, undef, undef, undef, undef, undef, undef, undef, undef], []⟩) (by kernel_rfl) ?_
  refine wp_seq ?_
  refine Kw.region ?_
  refine Kw.pure (.bool false) (by kernel_rfl) (by kernel_rfl) ?_
  refine Kw.fin ?_
  refine Kw.then_normal ?_
  refine wp_seq ?_
  refine Kw.region ?_
  refine Kw.pure (.int .u32 (u a)) (by kernel_rfl) (by kernel_rfl) ?_
  refine Kw.call (.tuple #[.agg #[.int .i64 0, .int .i64 0, .int .i64 0, .int .i64 0, .int .i64 0], .bool false]) 27 #[.int .u32 (u a)] M0 (by kernel_rfl) (by kernel_rfl) (decode_n a ha W) fun w1 M1 => ?_
  refine Kw.pure (.tuple #[.agg #[.int .i64 0, .int .i64 0, .int .i64 0, .int .i64 0, .int .i64 0], .bool false]) (by kernel_rfl) (by kernel_rfl) ?_
  refine Kw.pure (.agg #[.int .i64 0, .int .i64 0, .int .i64 0, .int .i64 0, .int .i64 0]) (by kernel_rfl) (by kernel_rfl) ?_
  refine Kw.pure (.bool false) (by kernel_rfl) (by kernel_rfl) ?_
  refine Kw.alloc #[.int .i64 0, .int .i64 0, .int .i64 0, .int .i64 0, .int .i64 0] 36 M1 (by kernel_rfl) (by kernel_rfl) fun w2 B2 M2 => ?_
  refine Kw.storeAll 0 36 #[.int .i64 0, .int .i64 0, .int .i64 0, .int .i64 0, .int .i64 0] M2 rfl (by kernel_rfl) (by kernel_rfl) (by kernel_rfl) (by kernel_rfl) (by kernel_rfl) fun w3 M3 => ?_
  refine Kw.pure (.bool false) (by kernel_rfl) (by kernel_rfl) ?_
  refine Kw.fin ?_
  refine Kw.then_normal ?_
  refine wp_seq ?_
  refine Kw.region ?_
  refine Kw.pure (.int .u32 (u b)) (by kernel_rfl) (by kernel_rfl) ?_
  refine Kw.call (.tuple #[.agg #[.int .i64 ((kb + 1 : Nat) : Int), .int .i64 (s (rdK kb b)), .int .i64 (s (rs1K kb b)), .int .i64 (s (rs2K kb b)), .int .i64 (s (immK kb b))], .bool true]) 27 #[.int .u32 (u b)] M3 (by kernel_rfl) (by kernel_rfl) (decode_y b kb hb w3) fun w4 M4 => ?_
  refine Kw.pure (.tuple #[.agg #[.int .i64 ((kb + 1 : Nat) : Int), .int .i64 (s (rdK kb b)), .int .i64 (s (rs1K kb b)), .int .i64 (s (rs2K kb b)), .int .i64 (s (immK kb b))], .bool true]) (by kernel_rfl) (by kernel_rfl) ?_
  refine Kw.pure (.agg #[.int .i64 ((kb + 1 : Nat) : Int), .int .i64 (s (rdK kb b)), .int .i64 (s (rs1K kb b)), .int .i64 (s (rs2K kb b)), .int .i64 (s (immK kb b))]) (by kernel_rfl) (by kernel_rfl) ?_
  refine Kw.pure (.bool true) (by kernel_rfl) (by kernel_rfl) ?_
  refine Kw.alloc #[.int .i64 0, .int .i64 0, .int .i64 0, .int .i64 0, .int .i64 0] 36 M4 (by kernel_rfl) (by kernel_rfl) fun w5 B5 M5 => ?_
  refine Kw.storeAll 0 36 #[.int .i64 ((kb + 1 : Nat) : Int), .int .i64 (s (rdK kb b)), .int .i64 (s (rs1K kb b)), .int .i64 (s (rs2K kb b)), .int .i64 (s (immK kb b))] M5 rfl (by kernel_rfl) (by kernel_rfl) (by kernel_rfl) (by kernel_rfl) (by kernel_rfl) fun w6 M6 => ?_
  refine Kw.pure (.bool true) (by kernel_rfl) (by kernel_rfl) ?_
  refine Kw.fin ?_
  refine Kw.then_normal ?_
  refine wp_seq ?_
  refine wp_seq ?_
  refine Kw.region ?_
  refine Kw.pure (.bool false) (by kernel_rfl) (by kernel_rfl) ?_
  refine Kw.pure (.bool false) (by kernel_rfl) (by kernel_rfl) ?_
  refine Kw.skip (by kernel_rfl) ?_
  refine Kw.pure (.bool false) (by kernel_rfl) (by kernel_rfl) ?_
  refine Kw.pure (.bool false) (by kernel_rfl) (by kernel_rfl) ?_
  refine Kw.skip (by kernel_rfl) ?_
  refine Kw.skip (by kernel_rfl) ?_
  refine Kw.skip (by kernel_rfl) ?_
  refine Kw.skip (by kernel_rfl) ?_
  refine Kw.skip (by kernel_rfl) ?_
  refine Kw.skip (by kernel_rfl) ?_
  refine Kw.skip (by kernel_rfl) ?_
  refine Kw.pure (.bool false) (by kernel_rfl) (by kernel_rfl) ?_
  refine Kw.fin ?_
  refine Kw.then_normal ?_
  refine wp_cond_false (by kernel_rfl) ?_
  refine wp_skip ?_
  refine Kw.then_normal ?_
  refine wp_seq ?_
  refine Kw.region ?_
  refine Kw.pure (.int .i64 op) (by kernel_rfl) (by kernel_rfl) ?_
  refine Kw.pureS (Canon.opS .rem 3 (.tmp 38) (.const (.int .i64 69)) (.int .i64 op) (.int .i64 69)) (.int .i64 (op.tmod 69)) (by kernel_rfl) (by kernel_rfl) (rem1 _ _ op w6) ?_
  refine Kw.pureS (Canon.opS .add 3 (.tmp 39) (.const (.int .i64 69)) (.int .i64 (op.tmod 69)) (.int .i64 69)) (.int .i64 (op.tmod 69 + 69)) (by kernel_rfl) (by kernel_rfl) (rem2 _ _ op w6) ?_
  refine Kw.pureS (Canon.opS .rem 3 (.tmp 40) (.const (.int .i64 69)) (.int .i64 (op.tmod 69 + 69)) (.int .i64 69)) (.int .i64 (m : Int)) (by kernel_rfl) (by kernel_rfl) (rem3 _ _ op m hop w6) ?_
  refine Kw.pureS (Canon.opS .add 3 (.const (.int .i64 1)) (.tmp 41) (.int .i64 1) (.int .i64 (m : Int))) (.int .i64 ((m + 1 : Nat) : Int)) (by kernel_rfl) (by kernel_rfl) (rem4 _ _ m hm w6) ?_
  refine Kw.pure (.int .i64 ((m + 1 : Nat) : Int)) (by kernel_rfl) (by kernel_rfl) ?_
  refine Kw.fin ?_
  refine Kw.then_normal ?_
  refine wp_seq ?_
  refine Kw.region ?_
  refine Kw.pure (.int .i64 ((m + 1 : Nat) : Int)) (by kernel_rfl) (by kernel_rfl) ?_
  refine Kw.pure (.agg #[.int .i64 ((m + 1 : Nat) : Int), .int .i64 0, .int .i64 0, .int .i64 0, .int .i64 0]) (by kernel_rfl) (by kernel_rfl) ?_
  refine Kw.call (.tuple #[.int .u32 (u (wordK m 0#64 0#64 0#64 0#64 &&& 4294967295#64)), .bool true]) 25 #[.agg #[.int .i64 ((m + 1 : Nat) : Int), .int .i64 0, .int .i64 0, .int .i64 0, .int .i64 0]] M6 (by kernel_rfl) (by kernel_rfl) (encode_zero m hm w6) fun w7 M7 => ?_
  refine Kw.pure (.tuple #[.int .u32 (u (wordK m 0#64 0#64 0#64 0#64 &&& 4294967295#64)), .bool true]) (by kernel_rfl) (by kernel_rfl) ?_
  refine Kw.pure (.int .u32 (u (wordK m 0#64 0#64 0#64 0#64 &&& 4294967295#64))) (by kernel_rfl) (by kernel_rfl) ?_
  refine Kw.pure (.bool true) (by kernel_rfl) (by kernel_rfl) ?_
  refine Kw.pure (.int .u32 (u (wordK m 0#64 0#64 0#64 0#64 &&& 4294967295#64))) (by kernel_rfl) (by kernel_rfl) ?_
  refine Kw.pure (.bool true) (by kernel_rfl) (by kernel_rfl) ?_
  refine Kw.fin ?_
  refine Kw.then_normal ?_
  refine wp_seq ?_
  refine Kw.region ?_
  refine Kw.pure (.int .u32 (u (wordK m 0#64 0#64 0#64 0#64 &&& 4294967295#64))) (by kernel_rfl) (by kernel_rfl) ?_
  refine Kw.call (.tuple #[.agg #[.int .i64 ((m + 1 : Nat) : Int), .int .i64 0, .int .i64 0, .int .i64 0, .int .i64 0], .bool true]) 27 #[.int .u32 (u (wordK m 0#64 0#64 0#64 0#64 &&& 4294967295#64))] M7 (by kernel_rfl) (by kernel_rfl) (decode_zero m hm w7) fun w8 M8 => ?_
  refine Kw.pure (.tuple #[.agg #[.int .i64 ((m + 1 : Nat) : Int), .int .i64 0, .int .i64 0, .int .i64 0, .int .i64 0], .bool true]) (by kernel_rfl) (by kernel_rfl) ?_
  refine Kw.pure (.agg #[.int .i64 ((m + 1 : Nat) : Int), .int .i64 0, .int .i64 0, .int .i64 0, .int .i64 0]) (by kernel_rfl) (by kernel_rfl) ?_
  refine Kw.pure (.bool true) (by kernel_rfl) (by kernel_rfl) ?_
  refine Kw.alloc #[.int .i64 0, .int .i64 0, .int .i64 0, .int .i64 0, .int .i64 0] 36 M8 (by kernel_rfl) (by kernel_rfl) fun w9 B9 M9 => ?_
  refine Kw.storeAll 0 36 #[.int .i64 ((m + 1 : Nat) : Int), .int .i64 0, .int .i64 0, .int .i64 0, .int .i64 0] M9 rfl (by kernel_rfl) (by kernel_rfl) (by kernel_rfl) (by kernel_rfl) (by kernel_rfl) fun w10 M10 => ?_
  refine Kw.pure (.bool true) (by kernel_rfl) (by kernel_rfl) ?_
  refine Kw.fin ?_
  refine Kw.then_normal ?_
  refine wp_seq ?_
  refine Kw.region ?_
  refine Kw.pure (.bool true) (by kernel_rfl) (by kernel_rfl) ?_
  refine Kw.pure (.bool true) (by kernel_rfl) (by kernel_rfl) ?_
  refine Kw.pure (.bool true) (by kernel_rfl) (by kernel_rfl) ?_
  refine Kw.pure (.bool true) (by kernel_rfl) (by kernel_rfl) ?_
  refine Kw.pure (.bool true) (by kernel_rfl) (by kernel_rfl) ?_
  refine Kw.pureS (Canon.ldS 36 (.pointer (some ⟨B9, 0, none⟩))) (.agg #[.int .i64 ((m + 1 : Nat) : Int), .int .i64 0, .int .i64 0, .int .i64 0, .int .i64 0]) (by kernel_rfl) (by kernel_rfl) (Kw.ld_all 36 (M10.get 0 rfl) _ Try.underlying36 rfl (by kernel_rfl)) ?_
  refine Kw.pure (.int .i64 ((m + 1 : Nat) : Int)) (by kernel_rfl) (by kernel_rfl) ?_
  refine Kw.pure (.agg #[.int .i64 ((m + 1 : Nat) : Int), .int .i64 0, .int .i64 0, .int .i64 0, .int .i64 0]) (by kernel_rfl) (by kernel_rfl) ?_
  refine Kw.pureS (Canon.opS .eql 36 (.tmp 59) (.tmp 61) (.agg #[.int .i64 ((m + 1 : Nat) : Int), .int .i64 0, .int .i64 0, .int .i64 0, .int .i64 0]) (.agg #[.int .i64 ((m + 1 : Nat) : Int), .int .i64 0, .int .i64 0, .int .i64 0, .int .i64 0])) (.bool true) (by kernel_rfl) (by kernel_rfl) (same_zero _ _ m w10) ?_
  refine Kw.pure (.bool true) (by kernel_rfl) (by kernel_rfl) ?_
  refine Kw.pure (.bool true) (by kernel_rfl) (by kernel_rfl) ?_
  refine Kw.pure (.int .i64 ((m + 1 : Nat) : Int)) (by kernel_rfl) (by kernel_rfl) ?_
  refine Kw.call (.string (nm m)) 32 #[.int .i64 ((m + 1 : Nat) : Int)] M10 (by kernel_rfl) (by kernel_rfl) (name_in m hm w10) fun w11 M11 => ?_
  refine Kw.call (.int .i64 ((m + 1 : Nat) : Int)) 31 #[.string (nm m)] M11 (by kernel_rfl) (by kernel_rfl) (find_m m hm w11) fun w12 M12 => ?_
  refine Kw.pure (.int .i64 ((m + 1 : Nat) : Int)) (by kernel_rfl) (by kernel_rfl) ?_
  refine Kw.pureS (Canon.opS .eql 3 (.tmp 67) (.tmp 68) (.int .i64 ((m + 1 : Nat) : Int)) (.int .i64 ((m + 1 : Nat) : Int))) (.bool true) (by kernel_rfl) (by kernel_rfl) (same_m _ _ m w12) ?_
  refine Kw.pure (.bool true) (by kernel_rfl) (by kernel_rfl) ?_
  refine Kw.pure (.bool true) (by kernel_rfl) (by kernel_rfl) ?_
  refine Kw.call (.bool true) 29 #[] M12 (by kernel_rfl) (by kernel_rfl) (one_c w12) fun w13 M13 => ?_
  refine Kw.pure (.bool true) (by kernel_rfl) (by kernel_rfl) ?_
  refine Kw.pure (.bool true) (by kernel_rfl) (by kernel_rfl) ?_
  refine Kw.fin ?_
  refine Kw.then_normal ?_
  refine wp_ret ?_
  exact bodyPost_ret (v := .bool true) (by kernel_rfl) (by kernel_rfl) ⟨rfl, M13.drop⟩
set_option maxRecDepth 100000 in
theorem one_00 (a b : BitVec 64) (op : Int) (m : Nat) (hm : m < 69) (hop : (op.tmod 69 + 69).tmod 69 = (m : Int)) (xa : ∀ i, 32 ≤ i → i < 64 → a.getLsbD i = false) (xb : ∀ i, 32 ≤ i → i < 64 → b.getLsbD i = false) (ha : decN a = none) (hb : decN b = none) (W : World) : Calls Try.prog 10 #[.int .u32 (u a), .int .u32 (u b), .int .i64 op] W fun e W' => e = .returned (.bool true) ∧ Kw.Mem [] W W' [] := by
  refine calls_of_wp Try.func10 rfl ?_
  have M0 : Kw.Mem [] W W [] := Kw.Mem.start _ _
  refine Kw.to (b := ⟨#[.int .u32 (u a), .int .u32 (u b), .int .i64 op, undef, undef, undef, undef, undef, undef, undef, undef, undef, undef, undef, undef, undef, undef, undef, undef, undef, undef, undef, undef, undef, undef, undef, undef, undef, undef, undef, undef, undef, undef, undef, undef, undef, undef, undef, undef, undef, undef, undef, undef, undef, undef, undef, undef, undef, undef, undef, undef, undef, undef, undef, undef, undef, undef, undef, undef, undef, undef, undef, undef, undef, undef, undef, undef, undef, undef, undef, undef, undef, undef, undef], []⟩) (by kernel_rfl) ?_
  refine wp_seq ?_
  refine Kw.region ?_
  refine Kw.pure (.bool false) (by kernel_rfl) (by kernel_rfl) ?_
  refine Kw.fin ?_
  refine Kw.then_normal ?_
  refine wp_seq ?_
  refine Kw.region ?_
  refine Kw.pure (.int .u32 (u a)) (by kernel_rfl) (by kernel_rfl) ?_
  refine Kw.call (.tuple #[.agg #[.int .i64 0, .int .i64 0, .int .i64 0, .int .i64 0, .int .i64 0], .bool false]) 27 #[.int .u32 (u a)] M0 (by kernel_rfl) (by kernel_rfl) (decode_n a ha W) fun w1 M1 => ?_
  refine Kw.pure (.tuple #[.agg #[.int .i64 0, .int .i64 0, .int .i64 0, .int .i64 0, .int .i64 0], .bool false]) (by kernel_rfl) (by kernel_rfl) ?_
  refine Kw.pure (.agg #[.int .i64 0, .int .i64 0, .int .i64 0, .int .i64 0, .int .i64 0]) (by kernel_rfl) (by kernel_rfl) ?_
  refine Kw.pure (.bool false) (by kernel_rfl) (by kernel_rfl) ?_
  refine Kw.alloc #[.int .i64 0, .int .i64 0, .int .i64 0, .int .i64 0, .int .i64 0] 36 M1 (by kernel_rfl) (by kernel_rfl) fun w2 B2 M2 => ?_
  refine Kw.storeAll 0 36 #[.int .i64 0, .int .i64 0, .int .i64 0, .int .i64 0, .int .i64 0] M2 rfl (by kernel_rfl) (by kernel_rfl) (by kernel_rfl) (by kernel_rfl) (by kernel_rfl) fun w3 M3 => ?_
  refine Kw.pure (.bool false) (by kernel_rfl) (by kernel_rfl) ?_
  refine Kw.fin ?_
  refine Kw.then_normal ?_
  refine wp_seq ?_
  refine Kw.region ?_
  refine Kw.pure (.int .u32 (u b)) (by kernel_rfl) (by kernel_rfl) ?_
  refine Kw.call (.tuple #[.agg #[.int .i64 0, .int .i64 0, .int .i64 0, .int .i64 0, .int .i64 0], .bool false]) 27 #[.int .u32 (u b)] M3 (by kernel_rfl) (by kernel_rfl) (decode_n b hb w3) fun w4 M4 => ?_
  refine Kw.pure (.tuple #[.agg #[.int .i64 0, .int .i64 0, .int .i64 0, .int .i64 0, .int .i64 0], .bool false]) (by kernel_rfl) (by kernel_rfl) ?_
  refine Kw.pure (.agg #[.int .i64 0, .int .i64 0, .int .i64 0, .int .i64 0, .int .i64 0]) (by kernel_rfl) (by kernel_rfl) ?_
  refine Kw.pure (.bool false) (by kernel_rfl) (by kernel_rfl) ?_
  refine Kw.alloc #[.int .i64 0, .int .i64 0, .int .i64 0, .int .i64 0, .int .i64 0] 36 M4 (by kernel_rfl) (by kernel_rfl) fun w5 B5 M5 => ?_
  refine Kw.storeAll 0 36 #[.int .i64 0, .int .i64 0, .int .i64 0, .int .i64 0, .int .i64 0] M5 rfl (by kernel_rfl) (by kernel_rfl) (by kernel_rfl) (by kernel_rfl) (by kernel_rfl) fun w6 M6 => ?_
  refine Kw.pure (.bool false) (by kernel_rfl) (by kernel_rfl) ?_
  refine Kw.fin ?_
  refine Kw.then_normal ?_
  refine wp_seq ?_
  refine wp_seq ?_
  refine Kw.region ?_
  refine Kw.pure (.bool false) (by kernel_rfl) (by kernel_rfl) ?_
  refine Kw.pure (.bool false) (by kernel_rfl) (by kernel_rfl) ?_
  refine Kw.skip (by kernel_rfl) ?_
  refine Kw.pure (.bool false) (by kernel_rfl) (by kernel_rfl) ?_
  refine Kw.pure (.bool false) (by kernel_rfl) (by kernel_rfl) ?_
  refine Kw.skip (by kernel_rfl) ?_
  refine Kw.skip (by kernel_rfl) ?_
  refine Kw.skip (by kernel_rfl) ?_
  refine Kw.skip (by kernel_rfl) ?_
  refine Kw.skip (by kernel_rfl) ?_
  refine Kw.skip (by kernel_rfl) ?_
  refine Kw.skip (by kernel_rfl) ?_
  refine Kw.pure (.bool false) (by kernel_rfl) (by kernel_rfl) ?_
  refine Kw.fin ?_
  refine Kw.then_normal ?_
  refine wp_cond_false (by kernel_rfl) ?_
  refine wp_skip ?_
  refine Kw.then_normal ?_
  refine wp_seq ?_
  refine Kw.region ?_
  refine Kw.pure (.int .i64 op) (by kernel_rfl) (by kernel_rfl) ?_
  refine Kw.pureS (Canon.opS .rem 3 (.tmp 38) (.const (.int .i64 69)) (.int .i64 op) (.int .i64 69)) (.int .i64 (op.tmod 69)) (by kernel_rfl) (by kernel_rfl) (rem1 _ _ op w6) ?_
  refine Kw.pureS (Canon.opS .add 3 (.tmp 39) (.const (.int .i64 69)) (.int .i64 (op.tmod 69)) (.int .i64 69)) (.int .i64 (op.tmod 69 + 69)) (by kernel_rfl) (by kernel_rfl) (rem2 _ _ op w6) ?_
  refine Kw.pureS (Canon.opS .rem 3 (.tmp 40) (.const (.int .i64 69)) (.int .i64 (op.tmod 69 + 69)) (.int .i64 69)) (.int .i64 (m : Int)) (by kernel_rfl) (by kernel_rfl) (rem3 _ _ op m hop w6) ?_
  refine Kw.pureS (Canon.opS .add 3 (.const (.int .i64 1)) (.tmp 41) (.int .i64 1) (.int .i64 (m : Int))) (.int .i64 ((m + 1 : Nat) : Int)) (by kernel_rfl) (by kernel_rfl) (rem4 _ _ m hm w6) ?_
  refine Kw.pure (.int .i64 ((m + 1 : Nat) : Int)) (by kernel_rfl) (by kernel_rfl) ?_
  refine Kw.fin ?_
  refine Kw.then_normal ?_
  refine wp_seq ?_
  refine Kw.region ?_
  refine Kw.pure (.int .i64 ((m + 1 : Nat) : Int)) (by kernel_rfl) (by kernel_rfl) ?_
  refine Kw.pure (.agg #[.int .i64 ((m + 1 : Nat) : Int), .int .i64 0, .int .i64 0, .int .i64 0, .int .i64 0]) (by kernel_rfl) (by kernel_rfl) ?_
  refine Kw.call (.tuple #[.int .u32 (u (wordK m 0#64 0#64 0#64 0#64 &&& 4294967295#64)), .bool true]) 25 #[.agg #[.int .i64 ((m + 1 : Nat) : Int), .int .i64 0, .int .i64 0, .int .i64 0, .int .i64 0]] M6 (by kernel_rfl) (by kernel_rfl) (encode_zero m hm w6) fun w7 M7 => ?_
  refine Kw.pure (.tuple #[.int .u32 (u (wordK m 0#64 0#64 0#64 0#64 &&& 4294967295#64)), .bool true]) (by kernel_rfl) (by kernel_rfl) ?_
  refine Kw.pure (.int .u32 (u (wordK m 0#64 0#64 0#64 0#64 &&& 4294967295#64))) (by kernel_rfl) (by kernel_rfl) ?_
  refine Kw.pure (.bool true) (by kernel_rfl) (by kernel_rfl) ?_
  refine Kw.pure (.int .u32 (u (wordK m 0#64 0#64 0#64 0#64 &&& 4294967295#64))) (by kernel_rfl) (by kernel_rfl) ?_
  refine Kw.pure (.bool true) (by kernel_rfl) (by kernel_rfl) ?_
  refine Kw.fin ?_
  refine Kw.then_normal ?_
  refine wp_seq ?_
  refine Kw.region ?_
  refine Kw.pure (.int .u32 (u (wordK m 0#64 0#64 0#64 0#64 &&& 4294967295#64))) (by kernel_rfl) (by kernel_rfl) ?_
  refine Kw.call (.tuple #[.agg #[.int .i64 ((m + 1 : Nat) : Int), .int .i64 0, .int .i64 0, .int .i64 0, .int .i64 0], .bool true]) 27 #[.int .u32 (u (wordK m 0#64 0#64 0#64 0#64 &&& 4294967295#64))] M7 (by kernel_rfl) (by kernel_rfl) (decode_zero m hm w7) fun w8 M8 => ?_
  refine Kw.pure (.tuple #[.agg #[.int .i64 ((m + 1 : Nat) : Int), .int .i64 0, .int .i64 0, .int .i64 0, .int .i64 0], .bool true]) (by kernel_rfl) (by kernel_rfl) ?_
  refine Kw.pure (.agg #[.int .i64 ((m + 1 : Nat) : Int), .int .i64 0, .int .i64 0, .int .i64 0, .int .i64 0]) (by kernel_rfl) (by kernel_rfl) ?_
  refine Kw.pure (.bool true) (by kernel_rfl) (by kernel_rfl) ?_
  refine Kw.alloc #[.int .i64 0, .int .i64 0, .int .i64 0, .int .i64 0, .int .i64 0] 36 M8 (by kernel_rfl) (by kernel_rfl) fun w9 B9 M9 => ?_
  refine Kw.storeAll 0 36 #[.int .i64 ((m + 1 : Nat) : Int), .int .i64 0, .int .i64 0, .int .i64 0, .int .i64 0] M9 rfl (by kernel_rfl) (by kernel_rfl) (by kernel_rfl) (by kernel_rfl) (by kernel_rfl) fun w10 M10 => ?_
  refine Kw.pure (.bool true) (by kernel_rfl) (by kernel_rfl) ?_
  refine Kw.fin ?_
  refine Kw.then_normal ?_
  refine wp_seq ?_
  refine Kw.region ?_
  refine Kw.pure (.bool true) (by kernel_rfl) (by kernel_rfl) ?_
  refine Kw.pure (.bool true) (by kernel_rfl) (by kernel_rfl) ?_
  refine Kw.pure (.bool true) (by kernel_rfl) (by kernel_rfl) ?_
  refine Kw.pure (.bool true) (by kernel_rfl) (by kernel_rfl) ?_
  refine Kw.pure (.bool true) (by kernel_rfl) (by kernel_rfl) ?_
  refine Kw.pureS (Canon.ldS 36 (.pointer (some ⟨B9, 0, none⟩))) (.agg #[.int .i64 ((m + 1 : Nat) : Int), .int .i64 0, .int .i64 0, .int .i64 0, .int .i64 0]) (by kernel_rfl) (by kernel_rfl) (Kw.ld_all 36 (M10.get 0 rfl) _ Try.underlying36 rfl (by kernel_rfl)) ?_
  refine Kw.pure (.int .i64 ((m + 1 : Nat) : Int)) (by kernel_rfl) (by kernel_rfl) ?_
  refine Kw.pure (.agg #[.int .i64 ((m + 1 : Nat) : Int), .int .i64 0, .int .i64 0, .int .i64 0, .int .i64 0]) (by kernel_rfl) (by kernel_rfl) ?_
  refine Kw.pureS (Canon.opS .eql 36 (.tmp 59) (.tmp 61) (.agg #[.int .i64 ((m + 1 : Nat) : Int), .int .i64 0, .int .i64 0, .int .i64 0, .int .i64 0]) (.agg #[.int .i64 ((m + 1 : Nat) : Int), .int .i64 0, .int .i64 0, .int .i64 0, .int .i64 0])) (.bool true) (by kernel_rfl) (by kernel_rfl) (same_zero _ _ m w10) ?_
  refine Kw.pure (.bool true) (by kernel_rfl) (by kernel_rfl) ?_
  refine Kw.pure (.bool true) (by kernel_rfl) (by kernel_rfl) ?_
  refine Kw.pure (.int .i64 ((m + 1 : Nat) : Int)) (by kernel_rfl) (by kernel_rfl) ?_
  refine Kw.call (.string (nm m)) 32 #[.int .i64 ((m + 1 : Nat) : Int)] M10 (by kernel_rfl) (by kernel_rfl) (name_in m hm w10) fun w11 M11 => ?_
  refine Kw.call (.int .i64 ((m + 1 : Nat) : Int)) 31 #[.string (nm m)] M11 (by kernel_rfl) (by kernel_rfl) (find_m m hm w11) fun w12 M12 => ?_
  refine Kw.pure (.int .i64 ((m + 1 : Nat) : Int)) (by kernel_rfl) (by kernel_rfl) ?_
  refine Kw.pureS (Canon.opS .eql 3 (.tmp 67) (.tmp 68) (.int .i64 ((m + 1 : Nat) : Int)) (.int .i64 ((m + 1 : Nat) : Int))) (.bool true) (by kernel_rfl) (by kernel_rfl) (same_m _ _ m w12) ?_
  refine Kw.pure (.bool true) (by kernel_rfl) (by kernel_rfl) ?_
  refine Kw.pure (.bool true) (by kernel_rfl) (by kernel_rfl) ?_
  refine Kw.call (.bool true) 29 #[] M12 (by kernel_rfl) (by kernel_rfl) (one_c w12) fun w13 M13 => ?_
  refine Kw.pure (.bool true) (by kernel_rfl) (by kernel_rfl) ?_
  refine Kw.pure (.bool true) (by kernel_rfl) (by kernel_rfl) ?_
  refine Kw.fin ?_
  refine Kw.then_normal ?_
  refine wp_ret ?_
  exact bodyPost_ret (v := .bool true) (by kernel_rfl) (by kernel_rfl) ⟨rfl, M13.drop⟩
end Go.Proofs.Ytpmpibcfmejbfaa.Inst
