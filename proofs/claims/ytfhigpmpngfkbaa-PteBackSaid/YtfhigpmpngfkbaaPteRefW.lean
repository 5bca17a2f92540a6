/- The number of an entry, as the reference tells it, is the program's. No condition. -/
import Derived.Test.YtfhigpmpngfkbaaPteRefQa
import Derived.Test.YtfhigpmpngfkbaaPteLaws
import Derived.Test.YtfhigpmpngfkbaaCanon
namespace Go.Proofs.Ytfhigpmpngfkbaa.Pte
open Go.RowKit Go.Proofs.YtfhigpmpngfkbaaW.PrintWords Go.Proofs.YtfhigpmpngfkbaaW.PrintLast Go.Proofs.YtfhigpmpngfkbaaW.PrintMore Go.Proofs.Ytfhigpmpngfkbaa.Bits Go.Proofs.Ytfhigpmpngfkbaa.FC
def bitv (b : Bool) (k : Nat) : BitVec 64 := if b then 1#64 <<< k else 0#64
/-- The world behind an operation: the entry lies in its block, and what was there stands. -/
def EI (W : World) (T : TypeId) (e : Nat → Bool) (f : BitVec 64) (w : World) : Prop := w.heap[W.heap.size]? = some (.cells (cellsB e f) T (0, 0)) ∧ Below W.heap.size W w
theorem ei_call {W w w2 : World} {T : TypeId} {e : Nat → Bool} {f : BitVec 64} (h : EI W T e f w) (hb : Below w.heap.size w w2) : EI W T e f w2 := by
  have hlt : W.heap.size < w.heap.size := lt_of_block h.1
  exact ⟨(hb.block _ hlt).trans h.1, h.2.trans (hb.mono h.2.size)⟩
theorem ei_drawn {W w w2 : World} {T : TypeId} {e : Nat → Bool} {f : BitVec 64} (h : EI W T e f w) (hb : Drawn0 w w2) : EI W T e f w2 := by
  obtain ⟨n, rfl⟩ := hb
  exact ei_call h (below_drewN (Below.refl _ _) n)
theorem ei_flag {W w : World} {T : TypeId} {e : Nat → Bool} {f : BitVec 64} (h : EI W T e f w) (k : Nat) (hk : k < 12) : (Canon.ldS 4 (.pointer (some ⟨W.heap.size, k, none⟩))).run Try.prog w = .ok (.value (.bool (e k))) w := by
  have hc : w.cell? ⟨W.heap.size, k, none⟩ = some (.bool (e k)) := by rw [block_cell h.1, cells_get _ _ _ hk]
  unfold Canon.ldS
  go_simp
theorem ei_frame {W w : World} {T : TypeId} {e : Nat → Bool} {f : BitVec 64} (h : EI W T e f w) : (Canon.ldS 22 (.pointer (some ⟨W.heap.size, 12, none⟩))).run Try.prog w = .ok (.value (.int .u64 (u f))) w := by
  have hc : w.cell? ⟨W.heap.size, 12, none⟩ = some (.int .u64 (u f)) := by rw [block_cell h.1]; rfl
  unfold Canon.ldS
  go_simp
theorem bit_c (b : Bool) (k : Nat) (W : World) : Calls Try.prog 48 #[.bool b, .int .u64 k] W fun r w' => r = .returned (.int .u64 (u (bitv b k))) ∧ Drawn0 W w' := by
  refine PteRefQ.mintmarkref09_bit.calls b k _ W ?_
  unfold PteRefQ.mintmarkref09_bit.f bitv
  cases b
  · rfl
  · have h : shl .u64 1 (k : Int) = u (1#64 <<< k) := by
      have := shl_u 1#64 (k : Int)
      rw [Int.toNat_natCast] at this
      rw [← this]; rfl
    simp only [if_true]
    rw [if_pos (by omega), h]
def rword (e : Nat → Bool) (f : BitVec 64) : BitVec 64 := ((((((((((((bitv (e 0) 0) + (bitv (e 1) 1)) + (bitv (e 2) 2)) + (bitv (e 3) 3)) + (bitv (e 4) 4)) + (bitv (e 5) 5)) + (bitv (e 6) 6)) + (bitv (e 7) 7)) + (bitv (e 8) 58)) + (bitv (e 9) 59)) + (bitv (e 10) 60)) + (bitv (e 11) 61)) + ((f &&& mask 44) <<< 10)
theorem rem_44 (f : BitVec 64) : (u f).tmod 17592186044416 = u (f &&& mask 44) := by
  rw [Int.tmod_eq_emod_of_nonneg (u_lt f).1]
  unfold u
  have h : (mask 44).toNat = 2 ^ 44 - 1 := mask_toNat 44 (by omega)
  rw [BitVec.toNat_and, h, Nat.and_two_pow_sub_one_eq_mod]
  simp
theorem shl_10 (g : BitVec 64) : IntKind.u64.wrap (u g * (1024 : Int)) = u (g <<< 10) := by
  have h := shl_u g 10
  unfold shl at h
  exact h
set_option maxRecDepth 100000 in
set_option maxHeartbeats 1000000 in
theorem rword_c (e : Nat → Bool) (f : BitVec 64) (W : World) : Calls Try.prog 32 #[.agg (cellsB e f)] W fun r W' => r = .returned (.int .u64 (u (rword e f))) ∧ Below W.heap.size W W' := by
  have hadd := wrap_add
  have hrem := rem_44 f
  have hshl := shl_10 (f &&& mask 44)
  go_enter Try.func32, Try.ntmps32
  go_wp2_with fail
  have hI : EI W 51 e f (W.alloc (Obj.cells (cellsB e f) 51)) := ⟨Array.getElem?_push_size, (Below.refl _ _).alloc (Nat.le_refl _) _⟩
  refine Canon.region_canon (I := EI W 51 e f) (by kernel_rfl) (by decide +kernel) ⟨hI.1, hI.2.drew⟩ ?_
  refine Canon.pure (.pointer (some ⟨W.heap.size, 0, none⟩)) (by kernel_rfl) (fun w => by kernel_rfl) ?_
  refine Canon.readsS (Canon.ldS 4 (.pointer (some ⟨W.heap.size, 0, none⟩))) (.bool (e 0)) (by kernel_rfl) (by kernel_rfl) (fun w hw => ei_flag hw 0 (by omega)) ?_
  refine Canon.call (.int .u64 (u (bitv (e 0) 0))) 48 #[.bool (e 0), .int .u64 0] (by kernel_rfl) (fun w => by kernel_rfl) (fun w hw => (bit_c (e 0) 0 w).mono fun r w1 ⟨he, hb⟩ => ⟨he, ei_drawn hw hb⟩) ?_
  refine Canon.pure (.pointer (some ⟨W.heap.size, 1, none⟩)) (by kernel_rfl) (fun w => by kernel_rfl) ?_
  refine Canon.readsS (Canon.ldS 4 (.pointer (some ⟨W.heap.size, 1, none⟩))) (.bool (e 1)) (by kernel_rfl) (by kernel_rfl) (fun w hw => ei_flag hw 1 (by omega)) ?_
  refine Canon.call (.int .u64 (u (bitv (e 1) 1))) 48 #[.bool (e 1), .int .u64 1] (by kernel_rfl) (fun w => by kernel_rfl) (fun w hw => (bit_c (e 1) 1 w).mono fun r w1 ⟨he, hb⟩ => ⟨he, ei_drawn hw hb⟩) ?_
  refine Canon.pureS (Canon.opS .add 22 (.tmp 6) (.tmp 9) (.int .u64 (u (bitv (e 0) 0))) (.int .u64 (u (bitv (e 1) 1)))) (.int .u64 (u ((bitv (e 0) 0) + (bitv (e 1) 1)))) (by kernel_rfl) (by kernel_rfl) (fun w => by go_simp) ?_
  refine Canon.pure (.pointer (some ⟨W.heap.size, 2, none⟩)) (by kernel_rfl) (fun w => by kernel_rfl) ?_
  refine Canon.readsS (Canon.ldS 4 (.pointer (some ⟨W.heap.size, 2, none⟩))) (.bool (e 2)) (by kernel_rfl) (by kernel_rfl) (fun w hw => ei_flag hw 2 (by omega)) ?_
  refine Canon.call (.int .u64 (u (bitv (e 2) 2))) 48 #[.bool (e 2), .int .u64 2] (by kernel_rfl) (fun w => by kernel_rfl) (fun w hw => (bit_c (e 2) 2 w).mono fun r w1 ⟨he, hb⟩ => ⟨he, ei_drawn hw hb⟩) ?_
  refine Canon.pureS (Canon.opS .add 22 (.tmp 10) (.tmp 13) (.int .u64 (u ((bitv (e 0) 0) + (bitv (e 1) 1)))) (.int .u64 (u (bitv (e 2) 2)))) (.int .u64 (u (((bitv (e 0) 0) + (bitv (e 1) 1)) + (bitv (e 2) 2)))) (by kernel_rfl) (by kernel_rfl) (fun w => by go_simp) ?_
  refine Canon.pure (.pointer (some ⟨W.heap.size, 3, none⟩)) (by kernel_rfl) (fun w => by kernel_rfl) ?_
  refine Canon.readsS (Canon.ldS 4 (.pointer (some ⟨W.heap.size, 3, none⟩))) (.bool (e 3)) (by kernel_rfl) (by kernel_rfl) (fun w hw => ei_flag hw 3 (by omega)) ?_
  refine Canon.call (.int .u64 (u (bitv (e 3) 3))) 48 #[.bool (e 3), .int .u64 3] (by kernel_rfl) (fun w => by kernel_rfl) (fun w hw => (bit_c (e 3) 3 w).mono fun r w1 ⟨he, hb⟩ => ⟨he, ei_drawn hw hb⟩) ?_
  refine Canon.pureS (Canon.opS .add 22 (.tmp 14) (.tmp 17) (.int .u64 (u (((bitv (e 0) 0) + (bitv (e 1) 1)) + (bitv (e 2) 2)))) (.int .u64 (u (bitv (e 3) 3)))) (.int .u64 (u ((((bitv (e 0) 0) + (bitv (e 1) 1)) + (bitv (e 2) 2)) + (bitv (e 3) 3)))) (by kernel_rfl) (by kernel_rfl) (fun w => by go_simp) ?_
  refine Canon.pure (.pointer (some ⟨W.heap.size, 4, none⟩)) (by kernel_rfl) (fun w => by kernel_rfl) ?_
  refine Canon.readsS (Canon.ldS 4 (.pointer (some ⟨W.heap.size, 4, none⟩))) (.bool (e 4)) (by kernel_rfl) (by kernel_rfl) (fun w hw => ei_flag hw 4 (by omega)) ?_
  refine Canon.call (.int .u64 (u (bitv (e 4) 4))) 48 #[.bool (e 4), .int .u64 4] (by kernel_rfl) (fun w => by kernel_rfl) (fun w hw => (bit_c (e 4) 4 w).mono fun r w1 ⟨he, hb⟩ => ⟨he, ei_drawn hw hb⟩) ?_
  refine Canon.pureS (Canon.opS .add 22 (.tmp 18) (.tmp 21) (.int .u64 (u ((((bitv (e 0) 0) + (bitv (e 1) 1)) + (bitv (e 2) 2)) + (bitv (e 3) 3)))) (.int .u64 (u (bitv (e 4) 4)))) (.int .u64 (u (((((bitv (e 0) 0) + (bitv (e 1) 1)) + (bitv (e 2) 2)) + (bitv (e 3) 3)) + (bitv (e 4) 4)))) (by kernel_rfl) (by kernel_rfl) (fun w => by go_simp) ?_
  refine Canon.pure (.pointer (some ⟨W.heap.size, 5, none⟩)) (by kernel_rfl) (fun w => by kernel_rfl) ?_
  refine Canon.readsS (Canon.ldS 4 (.pointer (some ⟨W.heap.size, 5, none⟩))) (.bool (e 5)) (by kernel_rfl) (by kernel_rfl) (fun w hw => ei_flag hw 5 (by omega)) ?_
  refine Canon.call (.int .u64 (u (bitv (e 5) 5))) 48 #[.bool (e 5), .int .u64 5] (by kernel_rfl) (fun w => by kernel_rfl) (fun w hw => (bit_c (e 5) 5 w).mono fun r w1 ⟨he, hb⟩ => ⟨he, ei_drawn hw hb⟩) ?_
  refine Canon.pureS (Canon.opS .add 22 (.tmp 22) (.tmp 25) (.int .u64 (u (((((bitv (e 0) 0) + (bitv (e 1) 1)) + (bitv (e 2) 2)) + (bitv (e 3) 3)) + (bitv (e 4) 4)))) (.int .u64 (u (bitv (e 5) 5)))) (.int .u64 (u ((((((bitv (e 0) 0) + (bitv (e 1) 1)) + (bitv (e 2) 2)) + (bitv (e 3) 3)) + (bitv (e 4) 4)) + (bitv (e 5) 5)))) (by kernel_rfl) (by kernel_rfl) (fun w => by go_simp) ?_
  refine Canon.pure (.pointer (some ⟨W.heap.size, 6, none⟩)) (by kernel_rfl) (fun w => by kernel_rfl) ?_
  refine Canon.readsS (Canon.ldS 4 (.pointer (some ⟨W.heap.size, 6, none⟩))) (.bool (e 6)) (by kernel_rfl) (by kernel_rfl) (fun w hw => ei_flag hw 6 (by omega)) ?_
  refine Canon.call (.int .u64 (u (bitv (e 6) 6))) 48 #[.bool (e 6), .int .u64 6] (by kernel_rfl) (fun w => by kernel_rfl) (fun w hw => (bit_c (e 6) 6 w).mono fun r w1 ⟨he, hb⟩ => ⟨he, ei_drawn hw hb⟩) ?_
  refine Canon.pureS (Canon.opS .add 22 (.tmp 26) (.tmp 29) (.int .u64 (u ((((((bitv (e 0) 0) + (bitv (e 1) 1)) + (bitv (e 2) 2)) + (bitv (e 3) 3)) + (bitv (e 4) 4)) + (bitv (e 5) 5)))) (.int .u64 (u (bitv (e 6) 6)))) (.int .u64 (u (((((((bitv (e 0) 0) + (bitv (e 1) 1)) + (bitv (e 2) 2)) + (bitv (e 3) 3)) + (bitv (e 4) 4)) + (bitv (e 5) 5)) + (bitv (e 6) 6)))) (by kernel_rfl) (by kernel_rfl) (fun w => by go_simp) ?_
  refine Canon.pure (.pointer (some ⟨W.heap.size, 7, none⟩)) (by kernel_rfl) (fun w => by kernel_rfl) ?_
  refine Canon.readsS (Canon.ldS 4 (.pointer (some ⟨W.heap.size, 7, none⟩))) (.bool (e 7)) (by kernel_rfl) (by kernel_rfl) (fun w hw => ei_flag hw 7 (by omega)) ?_
  refine Canon.call (.int .u64 (u (bitv (e 7) 7))) 48 #[.bool (e 7), .int .u64 7] (by kernel_rfl) (fun w => by kernel_rfl) (fun w hw => (bit_c (e 7) 7 w).mono fun r w1 ⟨he, hb⟩ => ⟨he, ei_drawn hw hb⟩) ?_
  refine Canon.pureS (Canon.opS .add 22 (.tmp 30) (.tmp 33) (.int .u64 (u (((((((bitv (e 0) 0) + (bitv (e 1) 1)) + (bitv (e 2) 2)) + (bitv (e 3) 3)) + (bitv (e 4) 4)) + (bitv (e 5) 5)) + (bitv (e 6) 6)))) (.int .u64 (u (bitv (e 7) 7)))) (.int .u64 (u ((((((((bitv (e 0) 0) + (bitv (e 1) 1)) + (bitv (e 2) 2)) + (bitv (e 3) 3)) + (bitv (e 4) 4)) + (bitv (e 5) 5)) + (bitv (e 6) 6)) + (bitv (e 7) 7)))) (by kernel_rfl) (by kernel_rfl) (fun w => by go_simp) ?_
  refine Canon.pure (.int .u64 (u ((((((((bitv (e 0) 0) + (bitv (e 1) 1)) + (bitv (e 2) 2)) + (bitv (e 3) 3)) + (bitv (e 4) 4)) + (bitv (e 5) 5)) + (bitv (e 6) 6)) + (bitv (e 7) 7)))) (by kernel_rfl) (fun w => by kernel_rfl) ?_
  refine Canon.fin fun wb hI => ?_
  go_wp2_with fail
  refine Canon.region_canon (I := EI W 51 e f) (by kernel_rfl) (by decide +kernel) ⟨hI.1, hI.2.drew⟩ ?_
  refine Canon.pure (.int .u64 (u ((((((((bitv (e 0) 0) + (bitv (e 1) 1)) + (bitv (e 2) 2)) + (bitv (e 3) 3)) + (bitv (e 4) 4)) + (bitv (e 5) 5)) + (bitv (e 6) 6)) + (bitv (e 7) 7)))) (by kernel_rfl) (fun w => by kernel_rfl) ?_
  refine Canon.pure (.pointer (some ⟨W.heap.size, 8, none⟩)) (by kernel_rfl) (fun w => by kernel_rfl) ?_
  refine Canon.readsS (Canon.ldS 4 (.pointer (some ⟨W.heap.size, 8, none⟩))) (.bool (e 8)) (by kernel_rfl) (by kernel_rfl) (fun w hw => ei_flag hw 8 (by omega)) ?_
  refine Canon.call (.int .u64 (u (bitv (e 8) 58))) 48 #[.bool (e 8), .int .u64 58] (by kernel_rfl) (fun w => by kernel_rfl) (fun w hw => (bit_c (e 8) 58 w).mono fun r w1 ⟨he, hb⟩ => ⟨he, ei_drawn hw hb⟩) ?_
  refine Canon.pureS (Canon.opS .add 22 (.tmp 35) (.tmp 38) (.int .u64 (u ((((((((bitv (e 0) 0) + (bitv (e 1) 1)) + (bitv (e 2) 2)) + (bitv (e 3) 3)) + (bitv (e 4) 4)) + (bitv (e 5) 5)) + (bitv (e 6) 6)) + (bitv (e 7) 7)))) (.int .u64 (u (bitv (e 8) 58)))) (.int .u64 (u (((((((((bitv (e 0) 0) + (bitv (e 1) 1)) + (bitv (e 2) 2)) + (bitv (e 3) 3)) + (bitv (e 4) 4)) + (bitv (e 5) 5)) + (bitv (e 6) 6)) + (bitv (e 7) 7)) + (bitv (e 8) 58)))) (by kernel_rfl) (by kernel_rfl) (fun w => by go_simp) ?_
  refine Canon.pure (.pointer (some ⟨W.heap.size, 9, none⟩)) (by kernel_rfl) (fun w => by kernel_rfl) ?_
  refine Canon.readsS (Canon.ldS 4 (.pointer (some ⟨W.heap.size, 9, none⟩))) (.bool (e 9)) (by kernel_rfl) (by kernel_rfl) (fun w hw => ei_flag hw 9 (by omega)) ?_
  refine Canon.call (.int .u64 (u (bitv (e 9) 59))) 48 #[.bool (e 9), .int .u64 59] (by kernel_rfl) (fun w => by kernel_rfl) (fun w hw => (bit_c (e 9) 59 w).mono fun r w1 ⟨he, hb⟩ => ⟨he, ei_drawn hw hb⟩) ?_
  refine Canon.pureS (Canon.opS .add 22 (.tmp 39) (.tmp 42) (.int .u64 (u (((((((((bitv (e 0) 0) + (bitv (e 1) 1)) + (bitv (e 2) 2)) + (bitv (e 3) 3)) + (bitv (e 4) 4)) + (bitv (e 5) 5)) + (bitv (e 6) 6)) + (bitv (e 7) 7)) + (bitv (e 8) 58)))) (.int .u64 (u (bitv (e 9) 59)))) (.int .u64 (u ((((((((((bitv (e 0) 0) + (bitv (e 1) 1)) + (bitv (e 2) 2)) + (bitv (e 3) 3)) + (bitv (e 4) 4)) + (bitv (e 5) 5)) + (bitv (e 6) 6)) + (bitv (e 7) 7)) + (bitv (e 8) 58)) + (bitv (e 9) 59)))) (by kernel_rfl) (by kernel_rfl) (fun w => by go_simp) ?_
  refine Canon.pure (.pointer (some ⟨W.heap.size, 10, none⟩)) (by kernel_rfl) (fun w => by kernel_rfl) ?_
  refine Canon.readsS (Canon.ldS 4 (.pointer (some ⟨W.heap.size, 10, none⟩))) (.bool (e 10)) (by kernel_rfl) (by kernel_rfl) (fun w hw => ei_flag hw 10 (by omega)) ?_
  refine Canon.call (.int .u64 (u (bitv (e 10) 60))) 48 #[.bool (e 10), .int .u64 60] (by kernel_rfl) (fun w => by kernel_rfl) (fun w hw => (bit_c (e 10) 60 w).mono fun r w1 ⟨he, hb⟩ => ⟨he, ei_drawn hw hb⟩) ?_
  refine Canon.pureS (Canon.opS .add 22 (.tmp 43) (.tmp 46) (.int .u64 (u ((((((((((bitv (e 0) 0) + (bitv (e 1) 1)) + (bitv (e 2) 2)) + (bitv (e 3) 3)) + (bitv (e 4) 4)) + (bitv (e 5) 5)) + (bitv (e 6) 6)) + (bitv (e 7) 7)) + (bitv (e 8) 58)) + (bitv (e 9) 59)))) (.int .u64 (u (bitv (e 10) 60)))) (.int .u64 (u (((((((((((bitv (e 0) 0) + (bitv (e 1) 1)) + (bitv (e 2) 2)) + (bitv (e 3) 3)) + (bitv (e 4) 4)) + (bitv (e 5) 5)) + (bitv (e 6) 6)) + (bitv (e 7) 7)) + (bitv (e 8) 58)) + (bitv (e 9) 59)) + (bitv (e 10) 60)))) (by kernel_rfl) (by kernel_rfl) (fun w => by go_simp) ?_
  refine Canon.pure (.pointer (some ⟨W.heap.size, 11, none⟩)) (by kernel_rfl) (fun w => by kernel_rfl) ?_
  refine Canon.readsS (Canon.ldS 4 (.pointer (some ⟨W.heap.size, 11, none⟩))) (.bool (e 11)) (by kernel_rfl) (by kernel_rfl) (fun w hw => ei_flag hw 11 (by omega)) ?_
  refine Canon.call (.int .u64 (u (bitv (e 11) 61))) 48 #[.bool (e 11), .int .u64 61] (by kernel_rfl) (fun w => by kernel_rfl) (fun w hw => (bit_c (e 11) 61 w).mono fun r w1 ⟨he, hb⟩ => ⟨he, ei_drawn hw hb⟩) ?_
  refine Canon.pureS (Canon.opS .add 22 (.tmp 47) (.tmp 50) (.int .u64 (u (((((((((((bitv (e 0) 0) + (bitv (e 1) 1)) + (bitv (e 2) 2)) + (bitv (e 3) 3)) + (bitv (e 4) 4)) + (bitv (e 5) 5)) + (bitv (e 6) 6)) + (bitv (e 7) 7)) + (bitv (e 8) 58)) + (bitv (e 9) 59)) + (bitv (e 10) 60)))) (.int .u64 (u (bitv (e 11) 61)))) (.int .u64 (u ((((((((((((bitv (e 0) 0) + (bitv (e 1) 1)) + (bitv (e 2) 2)) + (bitv (e 3) 3)) + (bitv (e 4) 4)) + (bitv (e 5) 5)) + (bitv (e 6) 6)) + (bitv (e 7) 7)) + (bitv (e 8) 58)) + (bitv (e 9) 59)) + (bitv (e 10) 60)) + (bitv (e 11) 61)))) (by kernel_rfl) (by kernel_rfl) (fun w => by go_simp) ?_
  refine Canon.pure (.pointer (some ⟨W.heap.size, 12, none⟩)) (by kernel_rfl) (fun w => by kernel_rfl) ?_
  refine Canon.readsS (Canon.ldS 22 (.pointer (some ⟨W.heap.size, 12, none⟩))) (.int .u64 (u f)) (by kernel_rfl) (by kernel_rfl) (fun w hw => ei_frame hw) ?_
  refine Canon.pureS (Canon.opS .rem 22 (.tmp 53) (.const (.int .u64 17592186044416)) (.int .u64 (u f)) (.int .u64 17592186044416)) (.int .u64 (u (f &&& mask 44))) (by kernel_rfl) (by kernel_rfl) (fun w => by go_simp) ?_
  refine Canon.pureS (Canon.opS .shl 22 (.tmp 54) (.const (.int .u64 10)) (.int .u64 (u (f &&& mask 44))) (.int .u64 10)) (.int .u64 (u ((f &&& mask 44) <<< 10))) (by kernel_rfl) (by kernel_rfl) (fun w => by go_simp) ?_
  refine Canon.pureS (Canon.opS .add 22 (.tmp 51) (.tmp 55) (.int .u64 (u ((((((((((((bitv (e 0) 0) + (bitv (e 1) 1)) + (bitv (e 2) 2)) + (bitv (e 3) 3)) + (bitv (e 4) 4)) + (bitv (e 5) 5)) + (bitv (e 6) 6)) + (bitv (e 7) 7)) + (bitv (e 8) 58)) + (bitv (e 9) 59)) + (bitv (e 10) 60)) + (bitv (e 11) 61)))) (.int .u64 (u ((f &&& mask 44) <<< 10)))) (.int .u64 (u (((((((((((((bitv (e 0) 0) + (bitv (e 1) 1)) + (bitv (e 2) 2)) + (bitv (e 3) 3)) + (bitv (e 4) 4)) + (bitv (e 5) 5)) + (bitv (e 6) 6)) + (bitv (e 7) 7)) + (bitv (e 8) 58)) + (bitv (e 9) 59)) + (bitv (e 10) 60)) + (bitv (e 11) 61)) + ((f &&& mask 44) <<< 10)))) (by kernel_rfl) (by kernel_rfl) (fun w => by go_simp) ?_
  refine Canon.pure (.int .u64 (u (((((((((((((bitv (e 0) 0) + (bitv (e 1) 1)) + (bitv (e 2) 2)) + (bitv (e 3) 3)) + (bitv (e 4) 4)) + (bitv (e 5) 5)) + (bitv (e 6) 6)) + (bitv (e 7) 7)) + (bitv (e 8) 58)) + (bitv (e 9) 59)) + (bitv (e 10) 60)) + (bitv (e 11) 61)) + ((f &&& mask 44) <<< 10)))) (by kernel_rfl) (fun w => by kernel_rfl) ?_
  refine Canon.fin fun wc hw => ?_
  go_wp2_with fail
  exact bodyPost_ret (v := .int .u64 (u (rword e f))) (by kernel_rfl) (by kernel_rfl) ⟨rfl, hw.2⟩
end Go.Proofs.Ytfhigpmpngfkbaa.Pte
