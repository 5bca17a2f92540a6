/- The entry of an entry's number is it, with its frame as it is kept; an address that may be is told by its indices and its offset: the statement's function answers true. No condition but that the arguments are of their types. -/
import Derived.Test.YtfhigpmpngfkbaaPteRefW
import Derived.Test.YtfhigpmpngfkbaaPurePteParts
import Derived.Test.YtfhigpmpngfkbaaPteRefR
namespace Go.Proofs.Ytfhigpmpngfkbaa.PteBackW
open Go.RowKit Go.Proofs.YtfhigpmpngfkbaaW.PrintWords Go.Proofs.YtfhigpmpngfkbaaW.PrintLast Go.Proofs.YtfhigpmpngfkbaaW.PrintMore Go.Proofs.Ytfhigpmpngfkbaa.Bits Go.Proofs.Ytfhigpmpngfkbaa.FC Go.Proofs.Ytfhigpmpngfkbaa.Opens Go.Proofs.Ytfhigpmpngfkbaa.Pte
def nb (n : Nat) : BitVec 64 := BitVec.ofNat 64 n
theorem u_nb (n : Nat) (h : n < 18446744073709551616) : u (nb n) = (n : Int) := by
  unfold u nb; rw [BitVec.toNat_ofNat]; omega
theorem index_n (n : Nat) (hn : n < 274877906944) (l : Nat) (h : l < 3) (W : World) : Calls Try.prog 20 #[.int .u64 (n : Int), .int .i64 (l : Int)] W fun r W' => r = .returned (.int .i64 ((n / 4096 / 512 ^ l % 512 : Nat) : Int)) ∧ Drawn0 W W' := by
  have h1 := Pure.index_is (nb n) l h
  rw [u_nb n (by omega)] at h1
  have h2 : (nb n).toNat = n := by unfold nb; rw [BitVec.toNat_ofNat]; omega
  rw [h2] at h1
  exact PPteParts.pte_Index.calls _ _ _ W h1
theorem number_n (n : Nat) (hn : n < 274877906944) (W : World) : Calls Try.prog 22 #[.int .u64 (n : Int)] W fun r W' => r = .returned (.int .u64 ((n / 4096 : Nat) : Int)) ∧ Drawn0 W W' := by
  refine PPteParts.pte_Number.calls _ _ W ?_
  unfold PPteParts.pte_Number.f
  rw [Int.tdiv_eq_ediv_of_nonneg (by omega), wrap_u64]
  exact congrArg some (by omega)
theorem address_n (n : Nat) (hn : n < 274877906944) (W : World) : Calls Try.prog 24 #[.int .u64 (n : Int)] W fun r W' => r = .returned (.int .u64 ((n * 4096 : Nat) : Int)) ∧ Drawn0 W W' := by
  refine PPteParts.pte_Address.calls _ _ W ?_
  unfold PPteParts.pte_Address.f
  rw [wrap_u64]
  exact congrArg some (by omega)
theorem offset_n (n : Nat) (W : World) : Calls Try.prog 23 #[.int .u64 (n : Int)] W fun r W' => r = .returned (.int .u64 ((n % 4096 : Nat) : Int)) ∧ Drawn0 W W' := by
  refine PPteParts.pte_Offset.calls _ _ W ?_
  unfold PPteParts.pte_Offset.f
  rw [Int.tmod_eq_emod_of_nonneg (by omega)]
  exact congrArg some (by omega)
theorem may_n (n : Nat) (hn : n < 274877906944) (W : World) : Calls Try.prog 25 #[.int .u64 (n : Int)] W fun r W' => r = .returned (.bool true) ∧ Drawn0 W W' := by
  refine PPteParts.pte_May.calls _ _ W ?_
  unfold PPteParts.pte_May.f
  exact congrArg some (decide_eq_true (by omega))
theorem add_n (n : Nat) (hn : n < 274877906944) (w : World) (a b : Operand) : (Canon.opS .add 22 a b (.int .u64 ((n / 4096 * 4096 : Nat) : Int)) (.int .u64 ((n % 4096 : Nat) : Int))).run Try.prog w = .ok (.value (.int .u64 ((n : Nat) : Int))) w := by
  have h : IntKind.u64.wrap (((n / 4096 * 4096 : Nat) : Int) + ((n % 4096 : Nat) : Int)) = ((n : Nat) : Int) := by rw [wrap_u64]; omega
  generalize ((n / 4096 * 4096 : Nat) : Int) = p at h
  generalize ((n % 4096 : Nat) : Int) = q at h
  unfold Canon.opS
  go_simp
theorem told_step (n k : Nat) : n % (4096 * 512 ^ k) + (n / 4096 / 512 ^ k % 512) * 2 ^ (12 + 9 * k) = n % (4096 * 512 ^ (k + 1)) := by
  have e : 2 ^ (12 + 9 * k) = 4096 * 512 ^ k := by rw [Nat.pow_add, show (512 : Nat) = 2 ^ 9 from rfl, ← Nat.pow_mul]
  have h := Nat.mod_mul (a := 4096 * 512 ^ k) (b := 512) (x := n)
  rw [e, Nat.pow_succ, ← Nat.mul_assoc 4096, h, Nat.div_div_eq_div_mul, Nat.mul_comm (n / (4096 * 512 ^ k) % 512)]
/-- An address's index, and what of it is told by the indices met so far. -/
def ix (n k : Nat) : Int := ((n / 4096 / 512 ^ k % 512 : Nat) : Int)
def tk (n k : Nat) : Int := ((n % (4096 * 512 ^ k) : Nat) : Int)
theorem ix_in (n k : Nat) : 0 ≤ ix n k ∧ ix n k ≤ 511 := by unfold ix; omega
theorem tk_in (n k : Nat) (h : n < 274877906944) : 0 ≤ tk n k ∧ tk n k ≤ 274877906943 := by
  unfold tk
  have := Nat.mod_le n (4096 * 512 ^ k)
  generalize n % (4096 * 512 ^ k) = q at *
  omega
theorem tk_step (n k : Nat) : tk n k + ix n k * ((2 ^ (12 + 9 * k) : Nat) : Int) = tk n (k + 1) := by
  unfold tk ix
  rw [← told_step n k]
  generalize n % (4096 * 512 ^ k) = p
  generalize n / 4096 / 512 ^ k % 512 = q
  generalize 2 ^ (12 + 9 * k) = r
  simp
theorem tk_3 (n : Nat) (h : n < 274877906944) : tk n 3 = (n : Int) := by unfold tk; rw [Nat.mod_eq_of_lt (by omega)]
theorem index_z (n : Nat) (hn : n < 274877906944) (i : Int) (l : Nat) (h : l < 3) (hi : i = l) (W : World) : Calls Try.prog 20 #[.int .u64 (n : Int), .int .i64 i] W fun r W' => r = .returned (.int .i64 (ix n l)) ∧ Drawn0 W W' := by
  subst hi; exact index_n n hn l h W
theorem offset_z (n : Nat) (W : World) : Calls Try.prog 23 #[.int .u64 (n : Int)] W fun r W' => r = .returned (.int .u64 (tk n 0)) ∧ Drawn0 W W' := by
  have : tk n 0 = ((n % 4096 : Nat) : Int) := by unfold tk; simp
  rw [this]; exact offset_n n W
def ec (b0 b1 b2 b3 b4 b5 b6 b7 b8 b9 b10 b11 : Bool) (g : BitVec 64) : Array Value := #[.bool b0, .bool b1, .bool b2, .bool b3, .bool b4, .bool b5, .bool b6, .bool b7, .bool b8, .bool b9, .bool b10, .bool b11, .int .u64 (u g)]
def ofL (l : List Bool) (i : Nat) : Bool := l.getD i false
theorem word_t (b0 b1 b2 b3 b4 b5 b6 b7 b8 b9 b10 b11 : Bool) (g : BitVec 64) (X : BitVec 64) (h : wordB (ofL [b0, b1, b2, b3, b4, b5, b6, b7, b8, b9, b10, b11]) g = X) (W : World) : Calls Try.prog 31 #[.agg (ec b0 b1 b2 b3 b4 b5 b6 b7 b8 b9 b10 b11 g)] W fun r W' => r = .returned (.int .u64 (u X)) ∧ Below W.heap.size W W' := by
  refine (word_c (ofL [b0, b1, b2, b3, b4, b5, b6, b7, b8, b9, b10, b11]) g W).mono fun r w' ⟨he, hb⟩ => ⟨?_, hb⟩
  rw [he, h]
theorem word_x (b0 b1 b2 b3 b4 b5 b6 b7 b8 b9 b10 b11 : Bool) (g : BitVec 64) (X : BitVec 64) (h : wordB (ofL [b0, b1, b2, b3, b4, b5, b6, b7, b8, b9, b10, b11]) g = X) (W : World) : Calls Try.prog 31 #[.agg #[.bool b0, .bool b1, .bool b2, .bool b3, .bool b4, .bool b5, .bool b6, .bool b7, .bool b8, .bool b9, .bool b10, .bool b11, .int .u64 (u g)]] W fun r W' => r = .returned (.int .u64 (u X)) ∧ Below W.heap.size W W' :=
  word_t b0 b1 b2 b3 b4 b5 b6 b7 b8 b9 b10 b11 g X h W
theorem of_x (b0 b1 b2 b3 b4 b5 b6 b7 b8 b9 b10 b11 : Bool) (g : BitVec 64) (X : BitVec 64) (h : cellsB (fun i => decide (i < 12) && bitsOf X i) (getI X 10 44) = ec b0 b1 b2 b3 b4 b5 b6 b7 b8 b9 b10 b11 g) (W : World) : Calls Try.prog 30 #[.int .u64 (u X)] W fun r W' => r = .returned (.agg #[.bool b0, .bool b1, .bool b2, .bool b3, .bool b4, .bool b5, .bool b6, .bool b7, .bool b8, .bool b9, .bool b10, .bool b11, .int .u64 (u g)]) ∧ Below W.heap.size W W' := by
  refine (of_c X W).mono fun r w' ⟨he, hb⟩ => ⟨?_, hb⟩
  rw [he, h]; rfl
def cells61 : Array Value := #[.bool false, .bool false, .bool false, .bool false, .bool false, .bool false, .bool false, .bool false, .bool false, .bool false, .bool false, .bool true, .int .u64 0]
theorem word_61 (W : World) : Calls Try.prog 31 #[.agg cells61] W fun r W' => r = .returned (.int .u64 2305843009213693952) ∧ Below W.heap.size W W' := by
  refine (word_c (fun i => decide (i = 11)) 0#64 W).mono fun r w' ⟨he, hb⟩ => ⟨?_, hb⟩
  rw [he]
  have : u (wordB (fun i => decide (i = 11)) 0#64) = 2305843009213693952 := by decide +kernel
  rw [this]
/-- The world from the loop on: the two entries lie in their blocks, and what was there stands. -/
def BI (W : World) (B1 : Nat) (cs : Array Value) (w : World) : Prop := w.heap[W.heap.size]? = some (.cells cs 46 (0, 0)) ∧ w.heap[B1]? = some (.cells cs 46 (0, 0)) ∧ Below W.heap.size W w
theorem bi_call {W w w2 : World} {B1 : Nat} {cs : Array Value} (h : BI W B1 cs w) (hb : Below w.heap.size w w2) : BI W B1 cs w2 :=
  ⟨(hb.block _ (lt_of_block h.1)).trans h.1, (hb.block _ (lt_of_block h.2.1)).trans h.2.1, h.2.2.trans (hb.mono h.2.2.size)⟩
theorem bi_drawn {W w w2 : World} {B1 : Nat} {cs : Array Value} (h : BI W B1 cs w) (hb : Drawn0 w w2) : BI W B1 cs w2 := by
  obtain ⟨n, rfl⟩ := hb
  exact bi_call h (below_drewN (Below.refl _ _) n)
theorem load_of {w : World} {B : Nat} {b0 b1 b2 b3 b4 b5 b6 b7 b8 b9 b10 b11 : Bool} {g : BitVec 64} (h : w.heap[B]? = some (.cells (ec b0 b1 b2 b3 b4 b5 b6 b7 b8 b9 b10 b11 g) 46 (0, 0))) : (Canon.ldS 46 (.pointer (some ⟨B, 0, none⟩))).run Try.prog w = .ok (.value (.agg (ec b0 b1 b2 b3 b4 b5 b6 b7 b8 b9 b10 b11 g))) w := by
  have h1 := run_loadVar_row (P := Try.prog) w B 46 46 (ec b0 b1 b2 b3 b4 b5 b6 b7 b8 b9 b10 b11 g) (0, 0) _ h Try.underlying46 rfl (by kernel_rfl)
  unfold Canon.ldS
  simp only [Instr.loadAt, Instr.sureAddr, Sem.run_bind, Sem.run_pure, Result.andThen_ok, h1]
theorem bi_load0 {W w : World} {B1 : Nat} {b0 b1 b2 b3 b4 b5 b6 b7 b8 b9 b10 b11 : Bool} {g : BitVec 64} (h : BI W B1 (ec b0 b1 b2 b3 b4 b5 b6 b7 b8 b9 b10 b11 g) w) : (Canon.ldS 46 (.pointer (some ⟨W.heap.size, 0, none⟩))).run Try.prog w = .ok (.value (.agg (ec b0 b1 b2 b3 b4 b5 b6 b7 b8 b9 b10 b11 g))) w := load_of h.1
theorem bi_load1 {W w : World} {B1 : Nat} {b0 b1 b2 b3 b4 b5 b6 b7 b8 b9 b10 b11 : Bool} {g : BitVec 64} (h : BI W B1 (ec b0 b1 b2 b3 b4 b5 b6 b7 b8 b9 b10 b11 g) w) : (Canon.ldS 46 (.pointer (some ⟨B1, 0, none⟩))).run Try.prog w = .ok (.value (.agg (ec b0 b1 b2 b3 b4 b5 b6 b7 b8 b9 b10 b11 g))) w := load_of h.2.1
theorem eq_ec {b0 b1 b2 b3 b4 b5 b6 b7 b8 b9 b10 b11 : Bool} {g : BitVec 64} (w : World) (a b : Operand) : (Canon.opS .eql 46 a b (.agg (ec b0 b1 b2 b3 b4 b5 b6 b7 b8 b9 b10 b11 g)) (.agg (ec b0 b1 b2 b3 b4 b5 b6 b7 b8 b9 b10 b11 g))).run Try.prog w = .ok (.value (.bool true)) w := by
  have h2 : ∀ b : Bool, (b == b) = true := fun b => by cases b <;> rfl
  have h3 : ∀ b : Int, (b == b) = true := fun b => by simp
  unfold Canon.opS ec
  go_simp
set_option maxRecDepth 100000 in
set_option maxHeartbeats 2000000 in
theorem steps (b0 b1 b2 b3 b4 b5 b6 b7 b8 b9 b10 b11 : Bool) (f g X x : BitVec 64) (n : Nat) (hn : n < 274877906944) (hX1 : wordB (ofL [b0, b1, b2, b3, b4, b5, b6, b7, b8, b9, b10, b11]) f = X) (hX2 : wordB (ofL [b0, b1, b2, b3, b4, b5, b6, b7, b8, b9, b10, b11]) g = X)
   (hO : cellsB (fun i => decide (i < 12) && bitsOf X i) (getI X 10 44) = ec b0 b1 b2 b3 b4 b5 b6 b7 b8 b9 b10 b11 g) (hrem : (u f).tmod 17592186044416 = u g) (hva : (u x).tmod 274877906944 = (n : Int)) (W : World) :
   Calls Try.prog 9 #[.agg #[.bool b0, .bool b1, .bool b2, .bool b3, .bool b4, .bool b5, .bool b6, .bool b7, .bool b8, .bool b9, .bool b10, .bool b11, .int .u64 (u f)], .int .u64 (u x)] W fun r W' => r = .returned (.bool true) ∧ Below W.heap.size W W' := by
  replace hX1 := Lib.hid hX1
  have HX2 := Lib.hid hX2
  clear hX2
  replace hO := Lib.hid hO
  go_enter Try.func9, Try.ntmps9
  go_wp2_with fail
  (go_at_call 31; (with_reducible refine (word_x _ _ _ _ _ _ _ _ _ _ _ _ _ X hX1.out _).mono ?_))
  rintro e w1 ⟨rfl, hb1⟩
  obtain ⟨k1, f1⟩ := kept hb1
  have z1 := hb1.size
  simp at z1
  go_wp2_with fail
  (go_at_call 30; (with_reducible refine (of_x b0 b1 b2 b3 b4 b5 b6 b7 b8 b9 b10 b11 g X hO.out _).mono ?_))
  rintro e w2 ⟨rfl, hb2⟩
  obtain ⟨k2, f2⟩ := kept hb2
  have z2 := hb2.size
  have q2 : W.heap.size < w2.heap.size := by omega
  have hE : w2.heap[W.heap.size]? = some (.cells #[.bool b0, .bool b1, .bool b2, .bool b3, .bool b4, .bool b5, .bool b6, .bool b7, .bool b8, .bool b9, .bool b10, .bool b11, .int .u64 (u f)] 46 (0, 0)) := by
    rw [hb2.block _ (by omega), hb1.block _ (by simp)]; exact Array.getElem?_push_size
  have hB : Below W.heap.size W w2 := (((Below.refl _ _).alloc (Nat.le_refl _) _).trans (hb1.mono (by simp))).trans (hb2.mono (by omega))
  clear k1 f1 k2 f2 hb1 hb2 z1 z2
  have c12 : w2.cell? ⟨W.heap.size, 12, none⟩ = some (.int .u64 (u f)) := by rw [block_cell hE]; rfl
  have f12 : w2.frozen? ⟨W.heap.size, 12, none⟩ = false := block_free hE
  replace hE := Lib.hid hE
  go_wp2_with fail
  (go_at_call 23; (with_reducible refine (offset_z n _).mono ?_))
  rintro e w3 ⟨rfl, ⟨nd, rfl⟩⟩
  go_wp2_with fail
  have hR : BI W w2.heap.size (ec b0 b1 b2 b3 b4 b5 b6 b7 b8 b9 b10 b11 g) (((w2.setCell ⟨W.heap.size, 12, none⟩ (.int .u64 (u g))).alloc (Obj.cells #[.bool b0, .bool b1, .bool b2, .bool b3, .bool b4, .bool b5, .bool b6, .bool b7, .bool b8, .bool b9, .bool b10, .bool b11, .int .u64 (u g)] 46)).drewN nd) := by
    refine bi_drawn ⟨?_, ?_, (hB.setCell (Nat.le_refl _) _).alloc (by simp; omega) _⟩ ⟨nd, rfl⟩
    · rw [Below.heap_alloc _ _ _ (by simp; omega)]; exact block_set hE.out _
    · have : w2.heap.size = (w2.setCell ⟨W.heap.size, 12, none⟩ (.int .u64 (u g))).heap.size := by simp
      rw [this]; exact Array.getElem?_push_size
  generalize w2.heap.size = B1 at hR ⊢
  clear hE c12 f12 hB
  go_loopw [6, 7] (fun t i wr => ∃ k : Nat, k ≤ 3 ∧ i = .int .i64 k ∧ t = .int .u64 (tk n k) ∧ BI W B1 (ec b0 b1 b2 b3 b4 b5 b6 b7 b8 b9 b10 b11 g) wr) (fun _ i _ => 3 - (intOf i).toNat)
  case atStart => exact ⟨0, by omega, rfl, rfl, hR⟩
  case round =>
    obtain ⟨k, hk, rfl, rfl, hR'⟩ := hrel
    clear hR
    replace hR' := Lib.hid hR'
    have h3 : k = 0 ∨ k = 1 ∨ k = 2 ∨ k = 3 := by omega
    have t0 := tk_in n 0 hn
    have t1 := tk_in n 1 hn
    have t2 := tk_in n 2 hn
    have i0 := ix_in n 0
    have i1 := ix_in n 1
    have i2 := ix_in n 2
    have s0 := Lib.hid (tk_step n 0)
    have s1 := Lib.hid (tk_step n 1)
    have s2 := Lib.hid (tk_step n 2)
    rcases h3 with rfl | rfl | rfl | rfl
    · go_wp2_with (first | (go_at_call 20; (with_reducible refine (index_z n hn 0 0 (by omega) rfl _).mono ?_); rintro e w' ⟨rfl, ⟨nd, rfl⟩⟩))
      go_roundw
      case rel => exact ⟨1, by omega, rfl, by rw [← s0.out]; simp, bi_drawn hR'.out ⟨_, rfl⟩⟩
      case measure => simp [intOf]
    · go_wp2_with (first | (go_at_call 20; (with_reducible refine (index_z n hn 1 1 (by omega) rfl _).mono ?_); rintro e w' ⟨rfl, ⟨nd, rfl⟩⟩))
      go_roundw
      case rel => exact ⟨2, by omega, rfl, by rw [← s1.out]; simp, bi_drawn hR'.out ⟨_, rfl⟩⟩
      case measure => simp [intOf]
    · go_wp2_with (first | (go_at_call 20; (with_reducible refine (index_z n hn 2 2 (by omega) rfl _).mono ?_); rintro e w' ⟨rfl, ⟨nd, rfl⟩⟩))
      go_roundw
      case rel => exact ⟨3, by omega, rfl, by rw [← s2.out]; simp, bi_drawn hR'.out ⟨_, rfl⟩⟩
      case measure => simp [intOf]
    · go_wp2_with fail
      rw [tk_3 n hn]
      refine Canon.region_canon (I := BI W B1 (ec b0 b1 b2 b3 b4 b5 b6 b7 b8 b9 b10 b11 g)) (by kernel_rfl) (by decide +kernel) ⟨hR'.out.1, hR'.out.2.1, hR'.out.2.2.drew⟩ ?_
      refine Canon.readsS (Canon.ldS 46 (.pointer (some ⟨B1, 0, none⟩))) (.agg (ec b0 b1 b2 b3 b4 b5 b6 b7 b8 b9 b10 b11 g)) (by kernel_rfl) (by kernel_rfl) (fun w hw => bi_load1 hw) ?_
      refine Canon.readsS (Canon.ldS 46 (.pointer (some ⟨W.heap.size, 0, none⟩))) (.agg (ec b0 b1 b2 b3 b4 b5 b6 b7 b8 b9 b10 b11 g)) (by kernel_rfl) (by kernel_rfl) (fun w hw => bi_load0 hw) ?_
      refine Canon.pureS (Canon.opS .eql 46 (.tmp 34) (.tmp 35) (.agg (ec b0 b1 b2 b3 b4 b5 b6 b7 b8 b9 b10 b11 g)) (.agg (ec b0 b1 b2 b3 b4 b5 b6 b7 b8 b9 b10 b11 g))) (.bool true) (by kernel_rfl) (by kernel_rfl) (fun w => by exact eq_ec w _ _) ?_
      refine Canon.pure (.bool true) (by kernel_rfl) (fun w => by kernel_rfl) ?_
      refine Canon.readsS (Canon.ldS 46 (.pointer (some ⟨B1, 0, none⟩))) (.agg (ec b0 b1 b2 b3 b4 b5 b6 b7 b8 b9 b10 b11 g)) (by kernel_rfl) (by kernel_rfl) (fun w hw => bi_load1 hw) ?_
      refine Canon.call (.int .u64 (u X)) 31 #[.agg (ec b0 b1 b2 b3 b4 b5 b6 b7 b8 b9 b10 b11 g)] (by kernel_rfl) (fun w => by kernel_rfl) (fun w hw => (word_t b0 b1 b2 b3 b4 b5 b6 b7 b8 b9 b10 b11 g X HX2.out w).mono fun r w1 ⟨he, hb⟩ => ⟨he, bi_call hw hb⟩) ?_
      refine Canon.readsS (Canon.ldS 46 (.pointer (some ⟨W.heap.size, 0, none⟩))) (.agg (ec b0 b1 b2 b3 b4 b5 b6 b7 b8 b9 b10 b11 g)) (by kernel_rfl) (by kernel_rfl) (fun w hw => bi_load0 hw) ?_
      refine Canon.call (.int .u64 (u X)) 31 #[.agg (ec b0 b1 b2 b3 b4 b5 b6 b7 b8 b9 b10 b11 g)] (by kernel_rfl) (fun w => by kernel_rfl) (fun w hw => (word_t b0 b1 b2 b3 b4 b5 b6 b7 b8 b9 b10 b11 g X HX2.out w).mono fun r w1 ⟨he, hb⟩ => ⟨he, bi_call hw hb⟩) ?_
      refine Canon.pureS (Canon.opS .eql 22 (.tmp 39) (.tmp 41) (.int .u64 (u X)) (.int .u64 (u X))) (.bool true) (by kernel_rfl) (by kernel_rfl) (fun w => by go_simp) ?_
      refine Canon.pure (.bool true) (by kernel_rfl) (fun w => by kernel_rfl) ?_
      refine Canon.pure (.bool true) (by kernel_rfl) (fun w => by kernel_rfl) ?_
      refine Canon.pure (.int .u64 ((n : Nat) : Int)) (by kernel_rfl) (fun w => by kernel_rfl) ?_
      refine Canon.pure (.int .u64 ((n : Nat) : Int)) (by kernel_rfl) (fun w => by kernel_rfl) ?_
      refine Canon.pureS (Canon.opS .eql 22 (.tmp 45) (.tmp 46) (.int .u64 ((n : Nat) : Int)) (.int .u64 ((n : Nat) : Int))) (.bool true) (by kernel_rfl) (by kernel_rfl) (fun w => by go_simp) ?_
      refine Canon.pure (.bool true) (by kernel_rfl) (fun w => by kernel_rfl) ?_
      refine Canon.pure (.bool true) (by kernel_rfl) (fun w => by kernel_rfl) ?_
      refine Canon.pure (.int .u64 ((n : Nat) : Int)) (by kernel_rfl) (fun w => by kernel_rfl) ?_
      refine Canon.call (.int .u64 ((n / 4096 : Nat) : Int)) 22 #[.int .u64 ((n : Nat) : Int)] (by kernel_rfl) (fun w => by kernel_rfl) (fun w hw => (number_n n hn w).mono fun r w1 ⟨he, hb⟩ => ⟨he, bi_drawn hw hb⟩) ?_
      refine Canon.call (.int .u64 ((n / 4096 * 4096 : Nat) : Int)) 24 #[.int .u64 ((n / 4096 : Nat) : Int)] (by kernel_rfl) (fun w => by kernel_rfl) (fun w hw => (address_n _ (by omega) w).mono fun r w1 ⟨he, hb⟩ => ⟨he, bi_drawn hw hb⟩) ?_
      refine Canon.pure (.int .u64 ((n : Nat) : Int)) (by kernel_rfl) (fun w => by kernel_rfl) ?_
      refine Canon.call (.int .u64 ((n % 4096 : Nat) : Int)) 23 #[.int .u64 ((n : Nat) : Int)] (by kernel_rfl) (fun w => by kernel_rfl) (fun w hw => (offset_n n w).mono fun r w1 ⟨he, hb⟩ => ⟨he, bi_drawn hw hb⟩) ?_
      refine Canon.pureS (Canon.opS .add 22 (.tmp 52) (.tmp 54) (.int .u64 ((n / 4096 * 4096 : Nat) : Int)) (.int .u64 ((n % 4096 : Nat) : Int))) (.int .u64 ((n : Nat) : Int)) (by kernel_rfl) (by kernel_rfl) (fun w => by exact add_n n hn w _ _) ?_
      refine Canon.pure (.int .u64 ((n : Nat) : Int)) (by kernel_rfl) (fun w => by kernel_rfl) ?_
      refine Canon.pureS (Canon.opS .eql 22 (.tmp 55) (.tmp 56) (.int .u64 ((n : Nat) : Int)) (.int .u64 ((n : Nat) : Int))) (.bool true) (by kernel_rfl) (by kernel_rfl) (fun w => by go_simp) ?_
      refine Canon.pure (.bool true) (by kernel_rfl) (fun w => by kernel_rfl) ?_
      refine Canon.pure (.bool true) (by kernel_rfl) (fun w => by kernel_rfl) ?_
      refine Canon.pure (.int .u64 ((n : Nat) : Int)) (by kernel_rfl) (fun w => by kernel_rfl) ?_
      refine Canon.call (.bool true) 25 #[.int .u64 ((n : Nat) : Int)] (by kernel_rfl) (fun w => by kernel_rfl) (fun w hw => (may_n n hn w).mono fun r w1 ⟨he, hb⟩ => ⟨he, bi_drawn hw hb⟩) ?_
      refine Canon.pure (.bool true) (by kernel_rfl) (fun w => by kernel_rfl) ?_
      refine Canon.pure (.bool true) (by kernel_rfl) (fun w => by kernel_rfl) ?_
      refine Canon.pure (.agg cells61) (by kernel_rfl) (fun w => by kernel_rfl) ?_
      refine Canon.call (.int .u64 2305843009213693952) 31 #[.agg cells61] (by kernel_rfl) (fun w => by kernel_rfl) (fun w hw => (word_61 w).mono fun r w1 ⟨he, hb⟩ => ⟨he, bi_call hw hb⟩) ?_
      refine Canon.pureS (Canon.opS .eql 22 (.tmp 65) (.const (.int .u64 2305843009213693952)) (.int .u64 2305843009213693952) (.int .u64 2305843009213693952)) (.bool true) (by kernel_rfl) (by kernel_rfl) (fun w => by go_simp) ?_
      refine Canon.pure (.bool true) (by kernel_rfl) (fun w => by kernel_rfl) ?_
      refine Canon.pure (.bool true) (by kernel_rfl) (fun w => by kernel_rfl) ?_
      refine Canon.fin fun wc hw => ?_
      go_wp2_with fail
      exact bodyPost_ret (v := .bool true) (by kernel_rfl) (by kernel_rfl) ⟨rfl, hw.2.2⟩
theorem main (e : Nat → Bool) (f x : BitVec 64) (W : World) : Calls Try.prog 9 #[.agg (cellsB e f), .int .u64 (u x)] W fun r W' => r = .returned (.bool true) ∧ Below W.heap.size W W' := by
  have he : ∀ j, j < 12 → ofL [e 0, e 1, e 2, e 3, e 4, e 5, e 6, e 7, e 8, e 9, e 10, e 11] j = e j := by
    intro j hj
    have h : j = 0 ∨ j = 1 ∨ j = 2 ∨ j = 3 ∨ j = 4 ∨ j = 5 ∨ j = 6 ∨ j = 7 ∨ j = 8 ∨ j = 9 ∨ j = 10 ∨ j = 11 := by omega
    rcases h with rfl | rfl | rfl | rfl | rfl | rfl | rfl | rfl | rfl | rfl | rfl | rfl <;> rfl
  have hm : (f &&& mask 44) &&& mask 44 = f &&& mask 44 := by rw [BitVec.and_assoc, BitVec.and_self]
  have hw : wordB (ofL [e 0, e 1, e 2, e 3, e 4, e 5, e 6, e 7, e 8, e 9, e 10, e 11]) f = wordB e f := word_congr he rfl
  have hw2 : wordB (ofL [e 0, e 1, e 2, e 3, e 4, e 5, e 6, e 7, e 8, e 9, e 10, e 11]) (f &&& mask 44) = wordB e f := word_congr he hm
  have h := steps (e 0) (e 1) (e 2) (e 3) (e 4) (e 5) (e 6) (e 7) (e 8) (e 9) (e 10) (e 11) f (f &&& mask 44) (wordB e f) x (x.toNat % 274877906944) (by omega) hw hw2 (of_word e f) (rem_44 f)
    (by rw [Int.tmod_eq_emod_of_nonneg (u_lt x).1]; unfold u; omega) W
  exact h
theorem walk (W : World) (base : Nat) (v0 v1 : Value) (o0 : Value.okWide Try.prog W .any base 46 v0) (o1 : Value.okWide Try.prog W .any base 22 v1) :
    Calls Try.prog 9 #[v0, v1] W fun e W' => e = .returned (.bool true) ∧ Below W.heap.size W W' := by
  obtain ⟨e, f, rfl⟩ := val_entry o0
  obtain ⟨x, rfl⟩ := val_u64 Try.underlying22 o1
  exact main e f x W
end Go.Proofs.Ytfhigpmpngfkbaa.PteBackW
