/- Any field of any word, and any other one put there, are the document's, and so are masks, signs, and whether a number fits: the statement's function answers true. No condition but that the arguments are of their types. -/
import Derived.Test.YtfhigpmpngfkbaaFieldCalls
import Derived.Test.YtfhigpmpngfkbaaFieldRefP
import Derived.Test.YtfhigpmpngfkbaaOpen
import Derived.WalkSmall
namespace Go.Proofs.Ytfhigpmpngfkbaa.FieldTellsW
open Go.RowKit Go.Proofs.YtfhigpmpngfkbaaW.PrintWords Go.Proofs.YtfhigpmpngfkbaaW.PrintLast Go.Proofs.YtfhigpmpngfkbaaW.PrintMore Go.Proofs.Ytfhigpmpngfkbaa.Bits Go.Proofs.Ytfhigpmpngfkbaa.FC Go.Proofs.Ytfhigpmpngfkbaa.Opens
theorem rmask_c (w : Int) (W : World) : Calls Try.prog 26 #[.int .i64 w] W fun e W' => e = .returned (.int .u64 (u (maskI w))) ∧ Drawn0 W W' :=
  PFieldTells.mintmarkref01_Mask.calls 65 w _ W (PFieldTells.mintmarkref01_Mask.eq w)
theorem rget_c (x : BitVec 64) (a w : Int) (W : World) : Calls Try.prog 27 #[.int .u64 (u x), .int .i64 a, .int .i64 w] W fun e W' => e = .returned (.int .u64 (u (getI x a w))) ∧ Drawn0 W W' :=
  PFieldTells.mintmarkref01_Get.calls 65 _ a w _ W (PFieldTells.mintmarkref01_Get.eq x a w)
theorem rput_c (x : BitVec 64) (a w : Int) (v : BitVec 64) (W : World) : Calls Try.prog 16 #[.int .u64 (u x), .int .i64 a, .int .i64 w, .int .u64 (u v)] W fun e W' => e = .returned (.int .u64 (u (putI x a w v))) ∧ Drawn0 W W' :=
  PFieldTells.mintmarkref01_Put.calls 65 _ a w _ _ W (PFieldTells.mintmarkref01_Put.eq x a w v)
theorem rsign_c (x : BitVec 64) (w : Int) (W : World) : Calls Try.prog 28 #[.int .u64 (u x), .int .i64 w] W fun e W' => e = .returned (.int .u64 (u (signI x w))) ∧ Drawn0 W W' :=
  PFieldTells.mintmarkref01_Sign.calls 66 _ w _ W (PFieldTells.mintmarkref01_Sign.eq x w)
theorem rfits_c (x : BitVec 64) (w : Int) (b : Bool) (W : World) : Calls Try.prog 29 #[.int .i64 (s x), .int .i64 w, .bool b] W fun e W' => e = .returned (.bool (fitsI x w b)) ∧ Drawn0 W W' :=
  PFieldTells.mintmarkref01_Fits.calls 67 _ w b _ W (PFieldTells.mintmarkref01_Fits.eq x w b)
theorem sign_15 (W : World) : Calls Try.prog 19 #[.int .u64 15, .int .i64 4] W fun e W' => e = .returned (.int .u64 (u (signI 15#64 4))) ∧ Drawn0 W W' :=
  sign_c 15#64 4 W
theorem ones : (u (signI 15#64 4) == 18446744073709551615) = true := by decide
set_option maxRecDepth 100000 in
set_option maxHeartbeats 1000000 in
theorem main (x v q0 q1 : BitVec 64) (W : World) : Calls Try.prog 8 #[.int .u64 (u x), .agg #[.int .i64 (s q0), .int .i64 (s q1)], .int .u64 (u v)] W fun e W' => e = .returned (.bool true) ∧ Below W.heap.size W W' := by
  have r2 := wrap64_u
  have h1 := ones
  have h2 : ∀ b : Bool, (b == b) = true := fun b => by cases b <;> rfl
  have h3 : ∀ b : Int, (b == b) = true := fun b => by simp
  go_enter Try.func8, Try.ntmps8
  go_wp2_with fail
  go_quiet (fail)
  go_wp2_with (first | (go_at_call 15; (with_reducible refine (mask_c _ _).mono ?_); rintro e w' ⟨rfl, ⟨nd, rfl⟩⟩) | (go_at_call 26; (with_reducible refine (rmask_c _ _).mono ?_); rintro e w' ⟨rfl, ⟨nd, rfl⟩⟩) | (go_at_call 14; (with_reducible refine (get_c _ _ _ _).mono ?_); rintro e w' ⟨rfl, ⟨nd, rfl⟩⟩) | (go_at_call 27; (with_reducible refine (rget_c _ _ _ _).mono ?_); rintro e w' ⟨rfl, ⟨nd, rfl⟩⟩) | (go_at_call 13; (with_reducible refine (put_c _ _ _ _ _).mono ?_); rintro e w' ⟨rfl, ⟨nd, rfl⟩⟩) | (go_at_call 16; (with_reducible refine (rput_c _ _ _ _ _).mono ?_); rintro e w' ⟨rfl, ⟨nd, rfl⟩⟩) | (go_at_call 19; (with_reducible refine (sign_15 _).mono ?_); rintro e w' ⟨rfl, ⟨nd, rfl⟩⟩) | (go_at_call 19; (with_reducible refine (sign_c _ _ _).mono ?_); rintro e w' ⟨rfl, ⟨nd, rfl⟩⟩) | (go_at_call 28; (with_reducible refine (rsign_c _ _ _).mono ?_); rintro e w' ⟨rfl, ⟨nd, rfl⟩⟩) | (go_at_call 18; (with_reducible refine (fits_c _ _ _ _).mono ?_); rintro e w' ⟨rfl, ⟨nd, rfl⟩⟩) | (go_at_call 29; (with_reducible refine (rfits_c _ _ _ _).mono ?_); rintro e w' ⟨rfl, ⟨nd, rfl⟩⟩))
  go_ret
  exact ⟨rfl, below_drewN ((Below.refl _ _).alloc (Nat.le_refl _) _) _⟩
theorem walk (W : World) (base : Nat) (v0 v1 v2 : Value) (o0 : Value.okWide Try.prog W .any base 22 v0) (o1 : Value.okWide Try.prog W .any base 43 v1) (o2 : Value.okWide Try.prog W .any base 22 v2) :
    Calls Try.prog 8 #[v0, v1, v2] W fun e W' => e = .returned (.bool true) ∧ Below W.heap.size W W' := by
  obtain ⟨x, rfl⟩ := val_u64 Try.underlying22 o0
  obtain ⟨v, rfl⟩ := val_u64 Try.underlying22 o2
  obtain ⟨q0, q1, rfl⟩ := val_arr2 Try.underlying43 Try.underlying3 (by kernel_rfl) (by kernel_rfl) o1
  exact main x v q0 q1 W
end Go.Proofs.Ytfhigpmpngfkbaa.FieldTellsW
