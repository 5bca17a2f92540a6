/- Fields laid into a word one behind the other: what the program's function answers. The fields lie in a slice of at most 100. -/
import Derived.Test.YtfhigpmpngfkbaaFieldCalls
import Derived.OneCell
import Derived.Lib.Hide
import Derived.WalkSmall
namespace Go.Proofs.Ytfhigpmpngfkbaa.LayC
open Go.RowKit Go.Proofs.YtfhigpmpngfkbaaW.PrintWords Go.Proofs.YtfhigpmpngfkbaaW.PrintLast Go.Proofs.YtfhigpmpngfkbaaW.PrintMore Go.Proofs.Ytfhigpmpngfkbaa.Bits Go.Proofs.Ytfhigpmpngfkbaa.FC
set_option maxRecDepth 100000 in
/-- The closure: a field is put into the word that it captured. -/
theorem lay1 (a k : Int) (v y : BitVec 64) (B : Nat) (W : World) (hB : W.heap[B]? = some (.cells #[.int .u64 (u y)] 22 (0, 0))) :
   Calls Try.prog 45 #[.agg #[.int .i64 a, .int .i64 k, .int .u64 (u v)], .pointer (some ⟨B, 0, none⟩)] W fun e W' => e = .returned (.tuple #[]) ∧ W'.heap[B]? = some (.cells #[.int .u64 (u (putI y a k v))] 22 (0, 0)) ∧ Below B W W' := by
  have hlt := lt_of_block hB
  have hc := cell_of_one hB
  have hf : ∀ o, (W.alloc o).frozen? ⟨B, 0, none⟩ = false := fun o => (World.frozen?_alloc_past (w := W) o B 0 hlt).trans (free_of_one hB)
  have HB := Lib.hid hB
  clear hB
  go_enter Try.func45, Try.ntmps45
  go_wp2_with (first | (go_at_call 13; (with_reducible refine (put_c _ _ _ _ _).mono ?_); rintro e w' ⟨rfl, ⟨nd, rfl⟩⟩))
  go_end0
  refine ⟨rfl, ?_, ?_⟩
  · have h1 : ((W.alloc (.cells #[.int .i64 a, .int .i64 k, .int .u64 (u v)] 30)).drewN nd).heap[B]? = some (.cells #[.int .u64 (u y)] 22 (0, 0)) := (Below.heap_alloc W _ B hlt).trans HB.out
    exact one_setCell h1
  · exact Below.setCell (below_drewN ((Below.refl _ _).alloc (Nat.le_of_lt hlt) _) _) (Nat.le_refl _) _

def layAll : List (Int × Int × BitVec 64) → BitVec 64 → BitVec 64
  | [], y => y
  | p :: l, y => layAll l (putI y p.1 p.2.1 p.2.2)
/-- A slice's cells are the fields of a list. -/
def PartsAt (W : World) (A : Option Addr) (ps : List (Int × Int × BitVec 64)) : Prop :=
  0 < ps.length → ∃ b off, A = some ⟨b, off, none⟩ ∧ b < W.heap.size ∧
    ∀ i, i < ps.length → W.cell? ⟨b, off + i * 3, none⟩ = some (.int .i64 (ps.getD i (0, 0, 0#64)).1) ∧ W.cell? ⟨b, off + i * 3 + 1, none⟩ = some (.int .i64 (ps.getD i (0, 0, 0#64)).2.1) ∧ W.cell? ⟨b, off + i * 3 + 2, none⟩ = some (.int .u64 (u (ps.getD i (0, 0, 0#64)).2.2))
theorem PartsAt.below {W W' : World} {A : Option Addr} {ps : List (Int × Int × BitVec 64)} (h : PartsAt W A ps) (hb : Below W.heap.size W W') : PartsAt W' A ps := by
  intro hl
  obtain ⟨b, off, hA, hlt, hc⟩ := h hl
  refine ⟨b, off, hA, Nat.lt_of_lt_of_le hlt hb.size, fun i hi => ?_⟩
  have h := hc i hi
  exact ⟨(hb.cell (p := ⟨b, off + i * 3, none⟩) hlt).trans h.1, (hb.cell (p := ⟨b, off + i * 3 + 1, none⟩) hlt).trans h.2.1, (hb.cell (p := ⟨b, off + i * 3 + 2, none⟩) hlt).trans h.2.2⟩
set_option maxRecDepth 100000 in
theorem lay (ps : List (Int × Int × BitVec 64)) (A : Option Addr) (cap : Nat) (W : World)  (hlen : ps.length ≤ 100) (hc : PartsAt W A ps) (n : Nat) (hn : n = ps.length) :
   Calls Try.prog 17 #[.slice A n cap] W fun e W' => e = .returned (.int .u64 (u (layAll ps 0#64))) ∧ Below W.heap.size W W' := by
  subst hn
  have HC := Lib.hid hc
  clear hc
  have hmf : ∀ (fn : Fn) (first cap : Array Value) (w : World), (Instr.makeFunc fn first cap).run Try.prog w = .ok (.func fn first cap) w := fun _ _ _ _ => rfl
  go_enter Try.func17, Try.ntmps17
  go_wp2_with fail
  go_loopw [10] (fun i wr => ∃ k : Nat, k ≤ ps.length ∧ i = .int .i64 k ∧ ∃ y, layAll (ps.drop k) y = layAll ps 0#64 ∧ wr.heap[W.heap.size]? = some (.cells #[.int .u64 (u y)] 22 (0, 0)) ∧ Below W.heap.size W wr) (fun i _ => ps.length - (intOf i).toNat)
  case atStart => exact ⟨0, Nat.zero_le _, rfl, 0#64, rfl, heap_alloc_new _ _, (Below.refl _ _).alloc (Nat.le_refl _) _⟩
  case round =>
    obtain ⟨k, hk, rfl, y, hy, hB, hbel⟩ := hrel
    have HY := Lib.hid hy
    clear hy
    have hlb := lt_of_block hB
    by_cases hlt : k < ps.length
    · obtain ⟨b, off, rfl, hb, hcs⟩ := HC.out (by omega)
      have hc := hcs k hlt
      have hc1 := (hbel.cell (p := ⟨b, off + k * 3, none⟩) hb).trans hc.1
      have hc2 := (hbel.cell (p := ⟨b, off + k * 3 + 1, none⟩) hb).trans hc.2.1
      have hc3 := (hbel.cell (p := ⟨b, off + k * 3 + 2, none⟩) hb).trans hc.2.2
      clear hc hcs
      have HB := Lib.hid hB
      clear hB
      go_wp2_with fail
      (go_at_call 45; (with_reducible refine (lay1 _ _ _ y _ _ ?_).mono ?_))
      · exact (Below.heap_alloc wr _ _ hlb).trans HB.out
      rintro e w' ⟨rfl, hB', hb'⟩
      have HB' := Lib.hid hB'
      clear hB' HB hc1 hc2 hc3
      go_wp2_with fail
      go_roundw
      case rel =>
        refine ⟨k + 1, by omega, by go_num, _, ?_, HB'.out, hbel.trans (((Below.refl _ _).alloc (by omega) _).trans hb')⟩
        have e : ps.drop k = ps[k] :: ps.drop (k + 1) := by rw [List.drop_eq_getElem_cons hlt]
        have h := HY.out
        rw [e] at h; exact h
      case measure => simp [intOf]; omega
    · have hc0 := cell_of_one hB
      have HB := Lib.hid hB
      clear hB
      go_wp2_with fail
      go_ret
      have e : ps.drop k = [] := List.drop_eq_nil_of_le (by omega)
      have h := HY.out
      rw [e] at h
      exact ⟨by rw [← h]; rfl, hbel⟩
end Go.Proofs.Ytfhigpmpngfkbaa.LayC
