/- The entry of a number: what the program's function answers. No condition. -/
import Derived.Test.YtfhigpmpngfkbaaPteWordC
namespace Go.Proofs.Ytfhigpmpngfkbaa.Pte
open Go.RowKit Go.Proofs.YtfhigpmpngfkbaaW.PrintWords Go.Proofs.YtfhigpmpngfkbaaW.PrintLast Go.Proofs.YtfhigpmpngfkbaaW.PrintMore Go.Proofs.Ytfhigpmpngfkbaa.Bits Go.Proofs.Ytfhigpmpngfkbaa.FC
def upd (e : Nat → Bool) (k : Nat) (b : Bool) : Nat → Bool := fun i => if i = k then b else e i
theorem cells_set (e : Nat → Bool) (f : BitVec 64) (k : Nat) (hk : k < 12) (b : Bool) : (cellsB e f).setIfInBounds k (.bool b) = cellsB (upd e k b) f := by
  have h : k = 0 ∨ k = 1 ∨ k = 2 ∨ k = 3 ∨ k = 4 ∨ k = 5 ∨ k = 6 ∨ k = 7 ∨ k = 8 ∨ k = 9 ∨ k = 10 ∨ k = 11 := by omega
  rcases h with rfl | rfl | rfl | rfl | rfl | rfl | rfl | rfl | rfl | rfl | rfl | rfl <;> rfl
/-- A cell of a block that is known whole is written. -/
theorem block_set {w : World} {b k : Nat} {cs : Array Value} {t : TypeId} {fr : Nat × Nat} (h : w.heap[b]? = some (.cells cs t fr)) (v : Value) : (w.setCell ⟨b, k, none⟩ v).heap[b]? = some (.cells (cs.setIfInBounds k v) t fr) := by
  have hlt := lt_of_block h
  have h' : w.heap[b] = .cells cs t fr := by simpa [Array.getElem?_eq_getElem hlt] using h
  show (w.heap.modify b _)[b]? = _
  rw [Array.getElem?_eq_getElem (by simpa using hlt), Array.getElem_modify_self, h']
  rfl
theorem block_cell {w : World} {b k : Nat} {cs : Array Value} {t : TypeId} {fr : Nat × Nat} (h : w.heap[b]? = some (.cells cs t fr)) : w.cell? ⟨b, k, none⟩ = cs[k]? := by simp [World.cell?, h]
theorem block_free {w : World} {b k : Nat} {cs : Array Value} {t : TypeId} (h : w.heap[b]? = some (.cells cs t (0, 0))) : w.frozen? ⟨b, k, none⟩ = false := by simp [World.frozen?, h]
theorem bit_is (x : BitVec 64) (n : Nat) : (u (x >>> n &&& 1#64) != 0) = x.getLsbD n := by
  have h : (x >>> n &&& 1#64) = if x.getLsbD n then 1#64 else 0#64 := by
    apply Bits.ext; intro i hi
    rw [BitVec.getLsbD_and, BitVec.getLsbD_ushiftRight, BitVec.getLsbD_one]
    by_cases h0 : i = 0
    · subst h0; cases h : x.getLsbD n <;> simp_all
    · cases h : x.getLsbD n <;> simp [h0]
  rw [h]; cases x.getLsbD n <;> rfl
theorem upd_skip (e : Nat → Bool) (k : Nat) : upd (fun i => decide (i < k) && e i) k (e k) = fun i => decide (i < k + 1) && e i := by
  funext i; unfold upd
  by_cases h : i = k
  · subst h; simp
  · rw [if_neg h]; by_cases h2 : i < k
    · have : i < k + 1 := by omega
      simp [h2, this]
    · have : ¬ i < k + 1 := by omega
      simp [h2, this]
theorem two_second (W : World) (o1 o2 : Obj) (n : Nat) : (((W.alloc o1).drewN n).alloc o2).heap[W.heap.size + 1]? = some o2 := by
  show ((W.heap.push o1).push o2)[W.heap.size + 1]? = some o2
  have h : (W.heap.push o1).size = W.heap.size + 1 := by simp
  rw [← h]; simp only [Array.getElem?_push_size]
theorem two_first (W : World) (o1 o2 : Obj) (n : Nat) : (((W.alloc o1).drewN n).alloc o2).heap[W.heap.size]? = some o1 := by
  show ((W.heap.push o1).push o2)[W.heap.size]? = some o1
  rw [Array.getElem?_push, if_neg (by simp), Array.getElem?_push_size]
theorem below_at {B : Nat} {a w : World} (h : Below B a w) (j : Nat) (v : Value) : Below B a (w.setCell ⟨B, j, none⟩ v) := h.setCell (Nat.le_refl _) _
def bitsOf (x : BitVec 64) (i : Nat) : Bool := x.getLsbD (pl i)
set_option maxRecDepth 100000 in
set_option maxHeartbeats 1000000 in
theorem of_c (x : BitVec 64) (W : World) :
   Calls Try.prog 30 #[.int .u64 (u x)] W fun r W' => r = .returned (.agg (cellsB (fun i => decide (i < 12) && bitsOf x i) (getI x 10 44))) ∧ Below W.heap.size W W' := by
  go_enter Try.func30, Try.ntmps30
  go_wp2_with (first | (go_at_call 14; (with_reducible refine (get_c _ _ _ _).mono ?_); rintro e w' ⟨rfl, ⟨nd, rfl⟩⟩))
  (go_at_call 46; (with_reducible refine (flags_c _ _ _).mono ?_))
  rintro r w1 ⟨rfl, hb1⟩
  unfold ptrs
  go_wp2_with fail
  (go_at_call 47; (with_reducible refine (places_c _).mono ?_))
  rintro r w2 ⟨rfl, hb2⟩
  have hs1 := hb1.size
  simp at hs1
  have hs2 := hb2.size
  simp at hs2
  have hc1 : ∀ k, k < 12 → w2.cell? ⟨w1.heap.size, k, none⟩ = some (.pointer (some ⟨W.heap.size + 1, k, none⟩)) := fun k hk => by
    rw [hb2.cell (p := ⟨w1.heap.size, k, none⟩) (by simp), World.cell?_alloc_new]; exact ptrs_get _ k hk
  have hE : w2.heap[W.heap.size + 1]? = some (.cells (cellsB (fun i => decide (i < 0) && bitsOf x i) (getI x 10 44)) 46 (0, 0)) := by
    rw [hb2.block _ (by simp; omega), Below.heap_alloc _ _ _ (by omega), hb1.block _ (by simp)]
    exact two_second W _ _ nd
  have hR : w2.heap[W.heap.size]? = some (.cells (cellsB (fun _ => false) 0#64) 46 (0, 0)) := by
    rw [hb2.block _ (by simp; omega), Below.heap_alloc _ _ _ (by omega), hb1.block _ (by simp; omega)]
    exact two_first W _ _ nd
  have hbel : Below W.heap.size W w2 := (((below_drewN ((Below.refl _ _).alloc (Nat.le_refl _) _) _).alloc (by simp) _).trans (hb1.mono (by simp; omega))).trans (Below.trans ((Below.refl _ _).alloc (by omega) _) (hb2.mono (by simp; omega)))
  clear hb1 hb2
  go_wp2_with fail
  go_loopw [12] (fun i wr => ∃ k : Nat, k ≤ 12 ∧ i = .int .i64 k ∧ wr.heap[W.heap.size + 1]? = some (.cells (cellsB (fun i => decide (i < k) && bitsOf x i) (getI x 10 44)) 46 (0, 0)) ∧
      wr.heap[W.heap.size]? = some (.cells (cellsB (fun _ => false) 0#64) 46 (0, 0)) ∧ (∀ k, k < 12 → wr.cell? ⟨w1.heap.size, k, none⟩ = some (.pointer (some ⟨W.heap.size + 1, k, none⟩))) ∧ Below W.heap.size W wr) (fun i _ => 12 - (intOf i).toNat)
  case atStart => exact ⟨0, by omega, rfl, hE, hR, hc1, hbel⟩
  case round =>
    obtain ⟨k, hk, rfl, hE', hR', hc', hbel'⟩ := hrel
    have HE := Lib.hid hE'
    have HR := Lib.hid hR'
    have HC := Lib.hid hc'
    clear hE' hR' hc' hE hR hc1 hbel
    by_cases hlt : k < 12
    · have hc1 := HC.out k hlt
      have hc2 : wr.cell? ⟨W.heap.size + 1, k, none⟩ = some (.bool (decide (k < k) && bitsOf x k)) := by rw [block_cell HE.out, cells_get _ _ _ hlt]
      have hf : wr.frozen? ⟨W.heap.size + 1, k, none⟩ = false := block_free HE.out
      have hi := index_places k hlt
      have hd : decide ((k : Int) < 12) = true := decide_eq_true (by omega)
      have hand : ∀ y, Go.bits .and .u64 (u y) 1 = u (y &&& 1#64) := fun y => bits_and y 1#64
      have hsh : u x / 2 ^ pl k = u (x >>> pl k) := by
        unfold u; rw [BitVec.toNat_ushiftRight, Nat.shiftRight_eq_div_pow]; simp
      have hb : (u (x >>> pl k &&& 1#64) != 0) = bitsOf x k := bit_is x (pl k)
      have hp : (pl k : Int) ≤ 64 := by unfold pl; split <;> omega
      go_wp2_with fail
      have hi0 : (0 : Int) ≤ (k : Int) := by omega
      have hi1 : (k : Int) < 12 := by omega
      have hp0 : (0 : Int) ≤ (pl k : Int) := by omega
      go_still_tail 9, (by kernel_rfl)
      change wpList _ _ _ _ _ wr.drew
      go_wp2_with fail
      go_roundw
      case rel =>
        have hE2 : wr.drew.heap[W.heap.size + 1]? = some (.cells (cellsB (fun i => decide (i < k) && bitsOf x i) (getI x 10 44)) 46 (0, 0)) := HE.out
        refine ⟨k + 1, by omega, by go_num, ?_, ?_, ?_, ?_⟩
        · rw [← upd_skip, ← cells_set _ _ _ hlt]; exact block_set hE2 _
        · exact (Below.heap_setCell wr _ _ _ (by simp)).trans HR.out
        · intro j hj
          exact (World.cell?_setCell_other wr _ _ _ (by intro h; injection h with h1; omega)).trans (HC.out j hj)
        · exact (hbel'.setCell (by simp) _).drew
      case measure => simp [intOf]; omega
    · have hd : decide ((k : Int) < 12) = false := decide_eq_false (by omega)
      obtain rfl : k = 12 := by omega
      generalize hev : (fun i => decide (i < 12) && bitsOf x i) = ev at HE ⊢
      have c0 : wr.cell? ⟨W.heap.size + 1, 0, none⟩ = some (.bool (ev 0)) := block_cell HE.out
      have c1 : wr.cell? ⟨W.heap.size + 1, 1, none⟩ = some (.bool (ev 1)) := block_cell HE.out
      have c2 : wr.cell? ⟨W.heap.size + 1, 2, none⟩ = some (.bool (ev 2)) := block_cell HE.out
      have c3 : wr.cell? ⟨W.heap.size + 1, 3, none⟩ = some (.bool (ev 3)) := block_cell HE.out
      have c4 : wr.cell? ⟨W.heap.size + 1, 4, none⟩ = some (.bool (ev 4)) := block_cell HE.out
      have c5 : wr.cell? ⟨W.heap.size + 1, 5, none⟩ = some (.bool (ev 5)) := block_cell HE.out
      have c6 : wr.cell? ⟨W.heap.size + 1, 6, none⟩ = some (.bool (ev 6)) := block_cell HE.out
      have c7 : wr.cell? ⟨W.heap.size + 1, 7, none⟩ = some (.bool (ev 7)) := block_cell HE.out
      have c8 : wr.cell? ⟨W.heap.size + 1, 8, none⟩ = some (.bool (ev 8)) := block_cell HE.out
      have c9 : wr.cell? ⟨W.heap.size + 1, 9, none⟩ = some (.bool (ev 9)) := block_cell HE.out
      have c10 : wr.cell? ⟨W.heap.size + 1, 10, none⟩ = some (.bool (ev 10)) := block_cell HE.out
      have c11 : wr.cell? ⟨W.heap.size + 1, 11, none⟩ = some (.bool (ev 11)) := block_cell HE.out
      have c12 : wr.cell? ⟨W.heap.size + 1, 12, none⟩ = some (.int .u64 (u (getI x 10 44))) := block_cell HE.out
      have d0 : wr.cell? ⟨W.heap.size, 0, none⟩ = some (.bool false) := block_cell HR.out
      have d1 : wr.cell? ⟨W.heap.size, 1, none⟩ = some (.bool false) := block_cell HR.out
      have d2 : wr.cell? ⟨W.heap.size, 2, none⟩ = some (.bool false) := block_cell HR.out
      have d3 : wr.cell? ⟨W.heap.size, 3, none⟩ = some (.bool false) := block_cell HR.out
      have d4 : wr.cell? ⟨W.heap.size, 4, none⟩ = some (.bool false) := block_cell HR.out
      have d5 : wr.cell? ⟨W.heap.size, 5, none⟩ = some (.bool false) := block_cell HR.out
      have d6 : wr.cell? ⟨W.heap.size, 6, none⟩ = some (.bool false) := block_cell HR.out
      have d7 : wr.cell? ⟨W.heap.size, 7, none⟩ = some (.bool false) := block_cell HR.out
      have d8 : wr.cell? ⟨W.heap.size, 8, none⟩ = some (.bool false) := block_cell HR.out
      have d9 : wr.cell? ⟨W.heap.size, 9, none⟩ = some (.bool false) := block_cell HR.out
      have d10 : wr.cell? ⟨W.heap.size, 10, none⟩ = some (.bool false) := block_cell HR.out
      have d11 : wr.cell? ⟨W.heap.size, 11, none⟩ = some (.bool false) := block_cell HR.out
      have d12 : wr.cell? ⟨W.heap.size, 12, none⟩ = some (.int .u64 0) := block_cell HR.out
      have hfr : ∀ j, wr.frozen? ⟨W.heap.size, j, none⟩ = false := fun j => block_free HR.out
      go_wp2_with fail
      refine bodyPost_ret (v := .agg (cellsB ev (getI x 10 44))) ?_ rfl ?_
      · clear hev
        simp [results, Try.results30, go_sem, cellsB, d0, d1, d2, d3, d4, d5, d6, d7, d8, d9, d10, d11, d12]
      · refine ⟨by rw [hev], ?_⟩
        iterate 13 refine below_at ?_ _ _
        exact hbel'
end Go.Proofs.Ytfhigpmpngfkbaa.Pte
