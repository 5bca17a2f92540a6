/- The entry of a number, as the reference tells it. No condition. -/
import Derived.Test.YtfhigpmpngfkbaaPteRefQa
import Derived.Test.YtfhigpmpngfkbaaPteLaws
import Derived.OneCell
namespace Go.Proofs.Ytfhigpmpngfkbaa.Pte
open Go.RowKit Go.Proofs.YtfhigpmpngfkbaaW.PrintWords Go.Proofs.YtfhigpmpngfkbaaW.PrintLast Go.Proofs.YtfhigpmpngfkbaaW.PrintMore Go.Proofs.Ytfhigpmpngfkbaa.Bits Go.Proofs.Ytfhigpmpngfkbaa.FC
theorem has_c (x : BitVec 64) (k : Nat) (W : World) : Calls Try.prog 49 #[.int .u64 (u x), .int .u64 k] W fun r w' => r = .returned (.bool (x.getLsbD k)) ∧ Drawn0 W w' := by
  refine PteRefQ.mintmarkref09_has.calls (u x) k _ W ?_
  unfold PteRefQ.mintmarkref09_has.f
  rw [if_pos (by omega), shr_u, Int.toNat_natCast, Int.tmod_eq_emod_of_nonneg (u_lt _).1]
  congr 1
  show (u (x >>> k) % 2 == 1) = _
  unfold u
  have h : (x >>> k).toNat % 2 = (x.getLsbD k).toNat := by
    rw [BitVec.toNat_ushiftRight]
    show _ = (x.toNat.testBit k).toNat
    rw [Nat.testBit_eq_decide_div_mod_eq, Nat.shiftRight_eq_div_pow]
    have := Nat.mod_two_eq_zero_or_one (x.toNat / 2 ^ k)
    rcases this with h | h <;> simp [h]
  have h2 : (((x >>> k).toNat : Int) % 2) = ((x.getLsbD k).toNat : Int) := by omega
  rw [h2]
  cases x.getLsbD k <;> rfl
theorem has_z (x : BitVec 64) (i : Int) (k : Nat) (h : i = k) (W : World) : Calls Try.prog 49 #[.int .u64 (u x), .int .u64 i] W fun r w' => r = .returned (.bool (x.getLsbD k)) ∧ Drawn0 W w' := by
  subst h; exact has_c x k W
theorem rem_get (x : BitVec 64) : (u x / 1024).tmod 17592186044416 = u (getI x 10 44) := by
  have h0 := (u_lt x).1
  rw [Int.tmod_eq_emod_of_nonneg (by omega)]
  rw [getI_44]
  unfold u Bits.get
  have h : (mask 44).toNat = 2 ^ 44 - 1 := mask_toNat 44 (by omega)
  rw [BitVec.toNat_and, h, Nat.and_two_pow_sub_one_eq_mod, BitVec.toNat_ushiftRight, Nat.shiftRight_eq_div_pow]
  simp
set_option maxRecDepth 100000 in
set_option maxHeartbeats 2000000 in
theorem rof_c (x : BitVec 64) (W : World) : Calls Try.prog 33 #[.int .u64 (u x)] W fun r W' => r = .returned (.agg (cellsB (bitsOf x) (getI x 10 44))) ∧ Below W.heap.size W W' := by
  have hrem := rem_get x
  go_enter Try.func33, Try.ntmps33
  go_wp2_with (first | (go_at_call 49; (with_reducible refine (has_z _ 0 0 rfl _).mono ?_); rintro e w' ⟨rfl, ⟨nd, rfl⟩⟩) | (go_at_call 49; (with_reducible refine (has_z _ 1 1 rfl _).mono ?_); rintro e w' ⟨rfl, ⟨nd, rfl⟩⟩) | (go_at_call 49; (with_reducible refine (has_z _ 2 2 rfl _).mono ?_); rintro e w' ⟨rfl, ⟨nd, rfl⟩⟩) | (go_at_call 49; (with_reducible refine (has_z _ 3 3 rfl _).mono ?_); rintro e w' ⟨rfl, ⟨nd, rfl⟩⟩) | (go_at_call 49; (with_reducible refine (has_z _ 4 4 rfl _).mono ?_); rintro e w' ⟨rfl, ⟨nd, rfl⟩⟩) | (go_at_call 49; (with_reducible refine (has_z _ 5 5 rfl _).mono ?_); rintro e w' ⟨rfl, ⟨nd, rfl⟩⟩) | (go_at_call 49; (with_reducible refine (has_z _ 6 6 rfl _).mono ?_); rintro e w' ⟨rfl, ⟨nd, rfl⟩⟩) | (go_at_call 49; (with_reducible refine (has_z _ 7 7 rfl _).mono ?_); rintro e w' ⟨rfl, ⟨nd, rfl⟩⟩) | (go_at_call 49; (with_reducible refine (has_z _ 58 58 rfl _).mono ?_); rintro e w' ⟨rfl, ⟨nd, rfl⟩⟩) | (go_at_call 49; (with_reducible refine (has_z _ 59 59 rfl _).mono ?_); rintro e w' ⟨rfl, ⟨nd, rfl⟩⟩) | (go_at_call 49; (with_reducible refine (has_z _ 60 60 rfl _).mono ?_); rintro e w' ⟨rfl, ⟨nd, rfl⟩⟩) | (go_at_call 49; (with_reducible refine (has_z _ 61 61 rfl _).mono ?_); rintro e w' ⟨rfl, ⟨nd, rfl⟩⟩))
  refine bodyPost_ret (v := .agg (cellsB (bitsOf x) (getI x 10 44))) ?_ rfl ⟨rfl, ?_⟩
  · simp [results, Try.results33, go_sem, cellsB, bitsOf, pl]
  · repeat (with_reducible (first | exact Below.refl _ _ | refine Below.drew ?_ | refine below_drewN ?_ _ | refine Below.setCell ?_ (by simp) _ | refine Below.alloc ?_ (by simp) _))
end Go.Proofs.Ytfhigpmpngfkbaa.Pte
