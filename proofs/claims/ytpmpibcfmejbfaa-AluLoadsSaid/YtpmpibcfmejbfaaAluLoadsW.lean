/- What is loaded with its sign, and without, has the same lowest bits, as many as there are bytes; and above them the sign, or zeros: the statement's function answers true. No condition but that the argument is of its type. -/
import Derived.Test.YtpmpibcfmejbfaaAluWidthC
import Derived.Test.YtpmpibcfmejbfaaOpen
import Derived.WalkSmall
namespace Go.Proofs.Ytpmpibcfmejbfaa.AluLoadsW
open Go.RowKit Go.Proofs.YtpmpibcfmejbfaaW.PrintWords Go.Proofs.YtpmpibcfmejbfaaW.PrintLast Go.Proofs.YtpmpibcfmejbfaaW.PrintMore Go.Proofs.Ytpmpibcfmejbfaa.Bits Go.Proofs.Ytpmpibcfmejbfaa.Alu Go.Proofs.Ytpmpibcfmejbfaa.Opens
theorem not_u (y : BitVec 64) : Go.bits .xor .u64 IntKind.u64.max (u y) = u (~~~y) := by
  have h : IntKind.u64.max = u (BitVec.allOnes 64) := by decide
  rw [h, bits_xor]; congr 1
theorem bit_one (x : BitVec 64) (n : Nat) : (u (x >>> n &&& 1#64) == 1) = x.getLsbD n := by
  have h : (x >>> n &&& 1#64) = if x.getLsbD n then 1#64 else 0#64 := by
    apply ext; intro i hi
    rw [BitVec.getLsbD_and, BitVec.getLsbD_ushiftRight, BitVec.getLsbD_one]
    by_cases h0 : i = 0
    · subst h0; cases h : x.getLsbD n <;> simp_all
    · cases h : x.getLsbD n <;> simp [h0]
  rw [h]; cases x.getLsbD n <;> rfl
theorem low_get (v : BitVec 64) (n : Nat) (m : BitVec 64) (hn : n ≤ 64) (hm : m = mask n) : getI v 0 n = v &&& m := by
  unfold getI; rw [if_pos (show mayB 0 n = true from decide_eq_true (by omega)), Int.toNat_natCast, hm]; unfold Bits.get; simp
theorem low_sign (v : BitVec 64) (n : Nat) (m : BitVec 64) (h1 : 1 ≤ n) (hn : n ≤ 64) (hm : m = mask n) : signI v n = bif v.getLsbD (n - 1) then (v &&& m) ||| ~~~m else v &&& m := by
  unfold signI; rw [if_pos (by omega), Int.toNat_natCast, hm]
  apply ext; intro i hi
  rw [sign_bit _ _ _ h1 hn hi]
  have hb := mask_bit n i hn
  cases hv : v.getLsbD (n - 1)
  · by_cases h : i < n
    · simp [h, hb]
    · simp [h, hb]
  · by_cases h : i < n
    · simp only [cond_true, BitVec.getLsbD_or, BitVec.getLsbD_and, BitVec.getLsbD_not, hb, h, decide_true, if_true]; simp
    · simp only [cond_true, BitVec.getLsbD_or, BitVec.getLsbD_and, BitVec.getLsbD_not, hb, h, hi, decide_true, decide_false, if_false]; simp
theorem round_0 (v : BitVec 64) : getI v 0 8 = v &&& 255#64 ∧ signI v 8 = bif v.getLsbD 7 then (v &&& 255#64) ||| ~~~(255#64) else v &&& 255#64 :=
  ⟨low_get v 8 _ (by omega) (by decide), low_sign v 8 _ (by omega) (by omega) (by decide)⟩
theorem round_1 (v : BitVec 64) : getI v 0 16 = v &&& 65535#64 ∧ signI v 16 = bif v.getLsbD 15 then (v &&& 65535#64) ||| ~~~(65535#64) else v &&& 65535#64 :=
  ⟨low_get v 16 _ (by omega) (by decide), low_sign v 16 _ (by omega) (by omega) (by decide)⟩
theorem round_2 (v : BitVec 64) : getI v 0 32 = v &&& 4294967295#64 ∧ signI v 32 = bif v.getLsbD 31 then (v &&& 4294967295#64) ||| ~~~(4294967295#64) else v &&& 4294967295#64 :=
  ⟨low_get v 32 _ (by omega) (by decide), low_sign v 32 _ (by omega) (by omega) (by decide)⟩
theorem bel {B : Nat} {W w w' : World} (h : Below B W w) (hB : B ≤ w.heap.size) (h' : Below w.heap.size w w') : Below B W w' := h.trans (h'.mono hB)
set_option maxRecDepth 100000 in
set_option maxHeartbeats 1000000 in
theorem steps (v : BitVec 64) (W : World) : Calls Try.prog 6 #[.int .u64 (u v)] W fun e W' => e = .returned (.bool true) ∧ Below W.heap.size W W' := by
  have h64 : signI v 64 = v := by unfold signI; rw [if_pos (by omega)]; exact sign_64 v
  have r5 : ∀ y, Go.bits .and .u64 (u y) 1 = u (y &&& 1#64) := fun y => bits_and y 1#64
  have r3 := bits_or
  go_enter Try.func6, Try.ntmps6
  go_wp2_with fail
  go_loopw [3] (fun i wr => ∃ k : Nat, k ≤ 3 ∧ i = .int .i64 k ∧ Below W.heap.size W wr) (fun i _ => 3 - (intOf i).toNat)
  case atStart => exact ⟨0, by omega, rfl, Below.refl _ _⟩
  case round =>
    obtain ⟨k, hk, rfl, hr⟩ := hrel
    have hz := hr.size
    have hk3 : k = 0 ∨ k = 1 ∨ k = 2 ∨ k = 3 := by omega
    rcases hk3 with rfl | rfl | rfl | rfl
    · have q1 : u v / (128 : Int) = u (v >>> 7) := shr_n v 7
      have q2 : ∀ y, Go.bits .and .u64 (u y) 255 = u (y &&& 255#64) := fun y => bits_and y 255#64
      have q3 : Go.bits .xor .u64 IntKind.u64.max 255 = u (~~~(255#64)) := not_u 255#64
      have q7 : Go.bits .xor .u64 (if IntKind.u64.signed = true then -1 else IntKind.u64.max) 255 = u (~~~(255#64)) := not_u 255#64
      have q4 : (u (v >>> 7 &&& 1#64) == 1) = v.getLsbD 7 := bit_one v 7
      obtain ⟨q5, q6⟩ := round_0 v
      have q0 : Go.bits .or .u64 (u (v &&& 255#64)) 0 = u (v &&& 255#64) := by
        have h := bits_or (v &&& 255#64) 0#64
        rw [BitVec.or_zero] at h; exact h
      generalize v.getLsbD 7 = bt at q4 q6
      cases bt <;> simp only [cond_true, cond_false] at q6
      all_goals
        go_wp2_with fail
        (go_at_call 15; (with_reducible refine (width_11 _).mono ?_))
        rintro e w1 ⟨rfl, hb1⟩
        go_wp2_with fail
        (go_at_call 15; (with_reducible refine (width_15 _).mono ?_))
        rintro e w2 ⟨rfl, hb2⟩
        go_wp2_with fail
        (go_at_call 15; (with_reducible refine (width_18 _).mono ?_))
        rintro e w3 ⟨rfl, hb3⟩
        go_wp2_with fail
        (go_at_call 16; (with_reducible refine (extend_11 _ _).mono ?_))
        rintro e w4 ⟨rfl, hb4⟩
        go_wp2_with fail
        (go_at_call 16; (with_reducible refine (extend_15 _ _).mono ?_))
        rintro e w5 ⟨rfl, hb5⟩
        have g1 := hb1.size
        have g2 := hb2.size
        have g3 := hb3.size
        have g4 := hb4.size
        have gg := bel (bel (bel (bel (bel hr hz hb1) (by omega) hb2) (by omega) hb3) (by omega) hb4) (by omega) hb5
        clear hb1 hb2 hb3 hb4 hb5
        go_wp2_with fail
        go_roundw
        case rel => exact ⟨1, by omega, by go_num, gg⟩
        case measure => simp [intOf]
    · have q1 : u v / (32768 : Int) = u (v >>> 15) := shr_n v 15
      have q2 : ∀ y, Go.bits .and .u64 (u y) 65535 = u (y &&& 65535#64) := fun y => bits_and y 65535#64
      have q3 : Go.bits .xor .u64 IntKind.u64.max 65535 = u (~~~(65535#64)) := not_u 65535#64
      have q7 : Go.bits .xor .u64 (if IntKind.u64.signed = true then -1 else IntKind.u64.max) 65535 = u (~~~(65535#64)) := not_u 65535#64
      have q4 : (u (v >>> 15 &&& 1#64) == 1) = v.getLsbD 15 := bit_one v 15
      obtain ⟨q5, q6⟩ := round_1 v
      have q0 : Go.bits .or .u64 (u (v &&& 65535#64)) 0 = u (v &&& 65535#64) := by
        have h := bits_or (v &&& 65535#64) 0#64
        rw [BitVec.or_zero] at h; exact h
      generalize v.getLsbD 15 = bt at q4 q6
      cases bt <;> simp only [cond_true, cond_false] at q6
      all_goals
        go_wp2_with fail
        (go_at_call 15; (with_reducible refine (width_12 _).mono ?_))
        rintro e w1 ⟨rfl, hb1⟩
        go_wp2_with fail
        (go_at_call 15; (with_reducible refine (width_16 _).mono ?_))
        rintro e w2 ⟨rfl, hb2⟩
        go_wp2_with fail
        (go_at_call 15; (with_reducible refine (width_19 _).mono ?_))
        rintro e w3 ⟨rfl, hb3⟩
        go_wp2_with fail
        (go_at_call 16; (with_reducible refine (extend_12 _ _).mono ?_))
        rintro e w4 ⟨rfl, hb4⟩
        go_wp2_with fail
        (go_at_call 16; (with_reducible refine (extend_16 _ _).mono ?_))
        rintro e w5 ⟨rfl, hb5⟩
        have g1 := hb1.size
        have g2 := hb2.size
        have g3 := hb3.size
        have g4 := hb4.size
        have gg := bel (bel (bel (bel (bel hr hz hb1) (by omega) hb2) (by omega) hb3) (by omega) hb4) (by omega) hb5
        clear hb1 hb2 hb3 hb4 hb5
        go_wp2_with fail
        go_roundw
        case rel => exact ⟨2, by omega, by go_num, gg⟩
        case measure => simp [intOf]
    · have q1 : u v / (2147483648 : Int) = u (v >>> 31) := shr_n v 31
      have q2 : ∀ y, Go.bits .and .u64 (u y) 4294967295 = u (y &&& 4294967295#64) := fun y => bits_and y 4294967295#64
      have q3 : Go.bits .xor .u64 IntKind.u64.max 4294967295 = u (~~~(4294967295#64)) := not_u 4294967295#64
      have q7 : Go.bits .xor .u64 (if IntKind.u64.signed = true then -1 else IntKind.u64.max) 4294967295 = u (~~~(4294967295#64)) := not_u 4294967295#64
      have q4 : (u (v >>> 31 &&& 1#64) == 1) = v.getLsbD 31 := bit_one v 31
      obtain ⟨q5, q6⟩ := round_2 v
      have q0 : Go.bits .or .u64 (u (v &&& 4294967295#64)) 0 = u (v &&& 4294967295#64) := by
        have h := bits_or (v &&& 4294967295#64) 0#64
        rw [BitVec.or_zero] at h; exact h
      generalize v.getLsbD 31 = bt at q4 q6
      cases bt <;> simp only [cond_true, cond_false] at q6
      all_goals
        go_wp2_with fail
        (go_at_call 15; (with_reducible refine (width_13 _).mono ?_))
        rintro e w1 ⟨rfl, hb1⟩
        go_wp2_with fail
        (go_at_call 15; (with_reducible refine (width_17 _).mono ?_))
        rintro e w2 ⟨rfl, hb2⟩
        go_wp2_with fail
        (go_at_call 15; (with_reducible refine (width_20 _).mono ?_))
        rintro e w3 ⟨rfl, hb3⟩
        go_wp2_with fail
        (go_at_call 16; (with_reducible refine (extend_13 _ _).mono ?_))
        rintro e w4 ⟨rfl, hb4⟩
        go_wp2_with fail
        (go_at_call 16; (with_reducible refine (extend_17 _ _).mono ?_))
        rintro e w5 ⟨rfl, hb5⟩
        have g1 := hb1.size
        have g2 := hb2.size
        have g3 := hb3.size
        have g4 := hb4.size
        have gg := bel (bel (bel (bel (bel hr hz hb1) (by omega) hb2) (by omega) hb3) (by omega) hb4) (by omega) hb5
        clear hb1 hb2 hb3 hb4 hb5
        go_wp2_with fail
        go_roundw
        case rel => exact ⟨3, by omega, by go_num, gg⟩
        case measure => simp [intOf]
    · go_wp2_with fail
      (go_at_call 16; (with_reducible refine (extend_14 _ _).mono ?_))
      rintro e w1 ⟨rfl, hb1⟩
      go_wp2_with fail
      (go_at_call 15; (with_reducible refine (width_14 _).mono ?_))
      rintro e w2 ⟨rfl, hb2⟩
      have g1 := hb1.size
      have gg := bel (bel hr hz hb1) (by omega) hb2
      clear hb1 hb2
      go_wp2_with (first | (go_at_call 13; (with_reducible refine (one_c _).mono ?_); rintro e w' ⟨rfl, ⟨nd, rfl⟩⟩))
      go_ret
      exact ⟨rfl, below_drewN gg _⟩
theorem walk (W : World) (base : Nat) (v0 : Value) (o0 : Value.okWide Try.prog W .any base 22 v0) :
    Calls Try.prog 6 #[v0] W fun e W' => e = .returned (.bool true) ∧ Below W.heap.size W W' := by
  obtain ⟨x, rfl⟩ := val_u64 Try.underlying22 o0
  exact steps x W
end Go.Proofs.Ytpmpibcfmejbfaa.AluLoadsW
