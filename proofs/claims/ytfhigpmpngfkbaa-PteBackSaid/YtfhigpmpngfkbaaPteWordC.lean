/- The number of a page table's entry: what the program's function answers. No condition. -/
import Derived.Test.YtfhigpmpngfkbaaPteFlags
namespace Go.Proofs.Ytfhigpmpngfkbaa.Pte
open Go.RowKit Go.Proofs.YtfhigpmpngfkbaaW.PrintWords Go.Proofs.YtfhigpmpngfkbaaW.PrintLast Go.Proofs.YtfhigpmpngfkbaaW.PrintMore Go.Proofs.Ytfhigpmpngfkbaa.Bits Go.Proofs.Ytfhigpmpngfkbaa.FC
/-- The place of a flag. -/
def pl (k : Nat) : Nat := if k < 8 then k else k + 50
def upTo (e : Nat → Bool) : Nat → BitVec 64 → BitVec 64
  | 0, y => y
  | k + 1, y => upTo e k y ||| (if e k then 1#64 <<< pl k else 0#64)
def wordB (e : Nat → Bool) (f : BitVec 64) : BitVec 64 := upTo e 12 (putI 0#64 10 44 f)
def cellsB (e : Nat → Bool) (f : BitVec 64) : Array Value := #[.bool (e 0), .bool (e 1), .bool (e 2), .bool (e 3), .bool (e 4), .bool (e 5), .bool (e 6), .bool (e 7), .bool (e 8), .bool (e 9), .bool (e 10), .bool (e 11), .int .u64 (u f)]
theorem index_places (k : Nat) (hk : k < 12) (w : World) : (Instr.index 69 (.agg places) (.int .i64 (k : Int))).run Try.prog w = .ok (.int .i64 (pl k : Nat)) w := by
  have h : k = 0 ∨ k = 1 ∨ k = 2 ∨ k = 3 ∨ k = 4 ∨ k = 5 ∨ k = 6 ∨ k = 7 ∨ k = 8 ∨ k = 9 ∨ k = 10 ∨ k = 11 := by omega
  rcases h with rfl | rfl | rfl | rfl | rfl | rfl | rfl | rfl | rfl | rfl | rfl | rfl <;> rfl
theorem put_0 (a w : Int) (v : BitVec 64) (W : World) : Calls Try.prog 13 #[.int .u64 0, .int .i64 a, .int .i64 w, .int .u64 (u v)] W fun e W' => e = .returned (.int .u64 (u (putI 0#64 a w v))) ∧ Drawn0 W W' :=
  put_c 0#64 a w v W
theorem ptrs_get (b : Nat) (k : Nat) (hk : k < 12) : (ptrs b 0)[k]? = some (.pointer (some ⟨b, k, none⟩)) := by
  match k, hk with
  | 0, _ => simp [ptrs]
  | 1, _ => simp [ptrs]
  | 2, _ => simp [ptrs]
  | 3, _ => simp [ptrs]
  | 4, _ => simp [ptrs]
  | 5, _ => simp [ptrs]
  | 6, _ => simp [ptrs]
  | 7, _ => simp [ptrs]
  | 8, _ => simp [ptrs]
  | 9, _ => simp [ptrs]
  | 10, _ => simp [ptrs]
  | 11, _ => simp [ptrs]
theorem cells_get (e : Nat → Bool) (f : BitVec 64) (k : Nat) (hk : k < 12) : (cellsB e f)[k]? = some (.bool (e k)) := by
  match k, hk with
  | 0, _ => rfl
  | 1, _ => rfl
  | 2, _ => rfl
  | 3, _ => rfl
  | 4, _ => rfl
  | 5, _ => rfl
  | 6, _ => rfl
  | 7, _ => rfl
  | 8, _ => rfl
  | 9, _ => rfl
  | 10, _ => rfl
  | 11, _ => rfl
set_option maxRecDepth 100000 in
set_option maxHeartbeats 300000 in
theorem word_c (e : Nat → Bool) (f : BitVec 64) (W : World) :
   Calls Try.prog 31 #[.agg (cellsB e f)] W fun r W' => r = .returned (.int .u64 (u (wordB e f))) ∧ Below W.heap.size W W' := by
  have hbox : ∀ k, k < 12 → (W.alloc (.cells (cellsB e f) 46)).cell? ⟨W.heap.size, k, none⟩ = some (.bool (e k)) := fun k hk => by rw [World.cell?_alloc_new, cells_get e f k hk]
  have HB := Lib.hid hbox
  clear hbox
  unfold cellsB
  go_enter Try.func31, Try.ntmps31
  go_wp2_with (first | (go_at_call 13; (with_reducible refine (put_0 _ _ _ _).mono ?_); rintro e w' ⟨rfl, ⟨nd, rfl⟩⟩))
  (go_at_call 46; (with_reducible refine (flags_c _ _ _).mono ?_))
  rintro r w1 ⟨rfl, hb1⟩
  unfold ptrs
  go_wp2_with fail
  (go_at_call 47; (with_reducible refine (places_c _).mono ?_))
  rintro r w2 ⟨rfl, hb2⟩
  have hs1 := hb1.size
  simp at hs1
  have hc1 : ∀ k, k < 12 → w2.cell? ⟨w1.heap.size, k, none⟩ = some (.pointer (some ⟨W.heap.size, k, none⟩)) := fun k hk => by
    rw [hb2.cell (p := ⟨w1.heap.size, k, none⟩) (by simp), World.cell?_alloc_new]; exact ptrs_get _ k hk
  have hc2 : ∀ k, k < 12 → w2.cell? ⟨W.heap.size, k, none⟩ = some (.bool (e k)) := fun k hk => by
    rw [hb2.cell (p := ⟨W.heap.size, k, none⟩) (by simp; omega), World.cell?_alloc_lt _ _ _ (by simp; omega), hb1.cell (p := ⟨W.heap.size, k, none⟩) (by simp)]
    exact HB.out k hk
  have H1 := Lib.hid hc1
  have H2 := Lib.hid hc2
  clear hc1 hc2
  go_wp2_with fail
  go_loop [3, 12] (fun v i => ∃ k : Nat, k ≤ 12 ∧ i = .int .i64 k ∧ v = .int .u64 (u (upTo e k (putI 0#64 10 44 f)))) (fun _ i => 12 - (intOf i).toNat)
  case atStart => exact ⟨0, by omega, rfl, rfl⟩
  case round =>
    obtain ⟨k, hk, rfl, rfl⟩ := hrel
    by_cases hlt : k < 12
    · have hc1 := H1.out k hlt
      have hc2 := H2.out k hlt
      have hi := index_places k hlt
      have hp1 : (0 : Int) ≤ (pl k : Int) := by omega
      have hp2 : (pl k : Int) ≤ 64 := by unfold pl; split <;> omega
      have hor := bits_or
      have hsh : IntKind.u64.wrap (2 ^ (pl k)) = u (1#64 <<< pl k) := by
        have := shl_u 1#64 (pl k : Int)
        unfold shl at this
        rw [Int.toNat_natCast, Nat.min_eq_left (show pl k ≤ IntKind.u64.bits by show pl k ≤ 64; omega)] at this
        rw [← this]; congr 1; unfold u; simp
      have hd : decide ((k : Int) < 12) = true := decide_eq_true (by omega)
      cases he : e k
      · go_wp2_with fail
        go_round
        case rel => exact ⟨k + 1, by omega, by go_num, by simp [upTo, he]⟩
        case measure => simp [intOf]; omega
      · go_wp2_with fail
        go_round
        case rel => exact ⟨k + 1, by omega, by go_num, by simp [upTo, he]⟩
        case measure => simp [intOf]; omega
    · have hd : decide ((k : Int) < 12) = false := decide_eq_false (by omega)
      obtain rfl : k = 12 := by omega
      go_wp2_with fail
      go_ret
      exact ⟨rfl, ((below_drewN ((Below.refl _ _).alloc (Nat.le_refl _) _) _).trans (hb1.mono (by simp))).trans (Below.trans ((Below.refl _ _).alloc (by omega) _) (hb2.mono (by simp; omega)))⟩
end Go.Proofs.Ytfhigpmpngfkbaa.Pte
