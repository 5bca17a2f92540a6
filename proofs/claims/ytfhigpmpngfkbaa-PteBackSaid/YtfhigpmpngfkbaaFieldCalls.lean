/- What the functions of package field and of its reference answer, in bit vectors' words. No condition but that the arguments are numbers of their kinds. -/
import Derived.Test.YtfhigpmpngfkbaaPFieldTellsx2
import Derived.Test.YtfhigpmpngfkbaaFieldTellsP
namespace Go.Proofs.Ytfhigpmpngfkbaa.FC
open Go.RowKit Go.Proofs.YtfhigpmpngfkbaaW.PrintWords Go.Proofs.YtfhigpmpngfkbaaW.PrintLast Go.Proofs.YtfhigpmpngfkbaaW.PrintMore Go.Proofs.Ytfhigpmpngfkbaa.Bits

theorem mask_c (w : Int) (W : World) : Calls Try.prog 15 #[.int .i64 w] W fun e W' => e = .returned (.int .u64 (u (maskI w))) ∧ Drawn0 W W' :=
  PFieldTells.field_Mask.calls w _ W (PFieldTells.field_Mask.eq w)
theorem get_c (x : BitVec 64) (a w : Int) (W : World) : Calls Try.prog 14 #[.int .u64 (u x), .int .i64 a, .int .i64 w] W fun e W' => e = .returned (.int .u64 (u (getI x a w))) ∧ Drawn0 W W' :=
  PFieldTells.field_Get.calls _ a w _ W (PFieldTells.field_Get.eq x a w)
theorem put_c (x : BitVec 64) (a w : Int) (v : BitVec 64) (W : World) : Calls Try.prog 13 #[.int .u64 (u x), .int .i64 a, .int .i64 w, .int .u64 (u v)] W fun e W' => e = .returned (.int .u64 (u (putI x a w v))) ∧ Drawn0 W W' :=
  PFieldTells.field_Put.calls _ a w _ _ W (PFieldTells.field_Put.eq x a w v)
theorem sign_c (x : BitVec 64) (w : Int) (W : World) : Calls Try.prog 19 #[.int .u64 (u x), .int .i64 w] W fun e W' => e = .returned (.int .u64 (u (signI x w))) ∧ Drawn0 W W' :=
  PFieldTells.field_Sign.calls _ w _ W (PFieldTells.field_Sign.eq x w)
theorem fits_c (x : BitVec 64) (w : Int) (b : Bool) (W : World) : Calls Try.prog 18 #[.int .i64 (s x), .int .i64 w, .bool b] W fun e W' => e = .returned (.bool (fitsI x w b)) ∧ Drawn0 W W' :=
  PFieldTells.field_Fits.calls 1 _ w b _ W (PFieldTells.field_Fits.eq 0 x w b)
end Go.Proofs.Ytfhigpmpngfkbaa.FC
