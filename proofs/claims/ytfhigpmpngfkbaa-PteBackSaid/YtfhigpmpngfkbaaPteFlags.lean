/- The places of the flags of a page table's entry, and where each flag of an entry lies: what the program's functions answer. No condition. -/
import Derived.Test.YtfhigpmpngfkbaaFieldCalls
import Derived.OneCell
import Derived.Lib.Hide
import Derived.WalkSmall
import Derived.StillTailTactics
namespace Go.Proofs.Ytfhigpmpngfkbaa.Pte
open Go.RowKit Go.Proofs.YtfhigpmpngfkbaaW.PrintWords Go.Proofs.YtfhigpmpngfkbaaW.PrintLast Go.Proofs.YtfhigpmpngfkbaaW.PrintMore Go.Proofs.Ytfhigpmpngfkbaa.Bits Go.Proofs.Ytfhigpmpngfkbaa.FC
def noPtrs : Obj := .cells #[.pointer none, .pointer none, .pointer none, .pointer none, .pointer none, .pointer none, .pointer none, .pointer none, .pointer none, .pointer none, .pointer none, .pointer none] 67
/-- The addresses of an entry's flags. -/
def ptrs (b off : Nat) : Array Value := #[.pointer (some ⟨b, off, none⟩), .pointer (some ⟨b, off + 1, none⟩), .pointer (some ⟨b, off + 2, none⟩), .pointer (some ⟨b, off + 3, none⟩), .pointer (some ⟨b, off + 4, none⟩), .pointer (some ⟨b, off + 5, none⟩), .pointer (some ⟨b, off + 6, none⟩), .pointer (some ⟨b, off + 7, none⟩), .pointer (some ⟨b, off + 8, none⟩), .pointer (some ⟨b, off + 9, none⟩), .pointer (some ⟨b, off + 10, none⟩), .pointer (some ⟨b, off + 11, none⟩)]
def places : Array Value := #[.int .i64 0, .int .i64 1, .int .i64 2, .int .i64 3, .int .i64 4, .int .i64 5, .int .i64 6, .int .i64 7, .int .i64 58, .int .i64 59, .int .i64 60, .int .i64 61]
set_option maxRecDepth 100000 in
theorem flags_c (b off : Nat) (W : World) :
   Calls Try.prog 46 #[.pointer (some ⟨b, off, none⟩)] W fun e W' => e = .returned (.agg (ptrs b off)) ∧ Below W.heap.size W W' := by
  go_enter Try.func46, Try.ntmps46
  go_wp2_with fail
  go_still_tail 37, (by kernel_rfl)
  change wpList _ _ _ _ _ (World.drew (W.alloc noPtrs))
  unfold noPtrs
  go_wp2_with fail
  exact bodyPost_ret (v := .agg (ptrs b off)) (by simp [results, Try.results46, go_sem, ptrs]) rfl ⟨rfl, ((Below.refl _ _).alloc (Nat.le_refl _) _).drew⟩
set_option maxRecDepth 100000 in
theorem places_c (W : World) : Calls Try.prog 47 #[] W fun e W' => e = .returned (.agg places) ∧ Below W.heap.size W W' := by
  go_enter Try.func47, Try.ntmps47
  go_wp2_with fail
  exact bodyPost_ret (v := .agg places) (by simp [results, Try.results47, go_sem, places]) rfl ⟨rfl, (Below.refl _ _).alloc (Nat.le_refl _) _⟩
end Go.Proofs.Ytfhigpmpngfkbaa.Pte
