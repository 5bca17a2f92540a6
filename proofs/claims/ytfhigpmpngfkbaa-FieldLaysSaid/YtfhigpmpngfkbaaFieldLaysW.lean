/- Any fields are laid into a word one behind the other: the statement's function answers true. No condition but that the argument is of its type. -/
import Derived.Test.YtfhigpmpngfkbaaLayC
import Derived.Test.YtfhigpmpngfkbaaFieldRefP
import Derived.Test.YtfhigpmpngfkbaaSlices
namespace Go.Proofs.Ytfhigpmpngfkbaa.FieldLaysW
open Go.RowKit Go.Proofs.YtfhigpmpngfkbaaW.PrintWords Go.Proofs.YtfhigpmpngfkbaaW.PrintLast Go.Proofs.YtfhigpmpngfkbaaW.PrintMore Go.Proofs.Ytfhigpmpngfkbaa.Bits Go.Proofs.Ytfhigpmpngfkbaa.FC Go.Proofs.Ytfhigpmpngfkbaa.LayC Go.Proofs.Ytfhigpmpngfkbaa.Opens
theorem rput_c (x : BitVec 64) (a w : Int) (v : BitVec 64) (W : World) : Calls Try.prog 16 #[.int .u64 (u x), .int .i64 a, .int .i64 w, .int .u64 (u v)] W fun e W' => e = .returned (.int .u64 (u (putI x a w v))) ∧ Drawn0 W W' :=
  PFieldTells.mintmarkref01_Put.calls 65 _ a w _ _ W (PFieldTells.mintmarkref01_Put.eq x a w v)
theorem parts_one (a w : Int) (v : BitVec 64) (W : World) (n : Nat) (hn : n = W.heap.size) : PartsAt (W.alloc (.cells #[.int .i64 a, .int .i64 w, .int .u64 (u v)] 30)) (some ⟨n, 0, none⟩) [(a, w, v)] := by
  subst hn
  intro _
  refine ⟨_, _, rfl, by show _ < (W.heap.push _).size; simp, fun i hi => ?_⟩
  obtain rfl : i = 0 := by simpa using hi
  refine ⟨?_, ?_, ?_⟩ <;> rw [World.cell?_alloc_new] <;> rfl
theorem ten : (u (layAll [(4, 4, 10#64)] 0#64) == 160) = true := by decide
set_option maxRecDepth 100000 in
set_option maxHeartbeats 1000000 in
/-- The loop over at most 40 fields, and what stands behind it. -/
theorem few (ps : List (Int × Int × BitVec 64)) (A : Option Addr) (cap n : Nat) (W : World) (hl : ps.length ≤ 40) (hn : n ≤ cap) (hcap : cap ≤ maxLen) (hps : n ≤ 40 ∧ n = ps.length ∨ 40 < n ∧ ps.length = 40) (hc : PartsAt W A ps) :
    Calls Try.prog 4 #[.slice A n cap] W fun e W' => e = .returned (.bool true) ∧ Below W.heap.size W W' := by
  have HC := Lib.hid hc
  clear hc
  unfold maxLen at hcap
  have h10 := ten
  rcases hps with ⟨h1, rfl⟩ | ⟨h1, h2⟩
  · have t0 : decide (40 < (ps.length : Int)) = false := decide_eq_false (by omega)
    go_enter Try.func4, Try.ntmps4
    go_wp2_with fail
    go_loopw [3, 4] (fun v i wr => ∃ k y, k ≤ ps.length ∧ i = .int .i64 (k : Nat) ∧ v = .int .u64 (u y) ∧ layAll (ps.drop k) y = layAll ps 0#64 ∧ Below W.heap.size W wr) (fun _ i _ => ps.length - (intOf i).toNat)
    case atStart => exact ⟨0, 0#64, Nat.zero_le _, rfl, rfl, rfl, Below.refl _ _⟩
    case round =>
      obtain ⟨k, y, hk, rfl, rfl, hy, hbel⟩ := hrel
      by_cases hlt : k < ps.length
      · obtain ⟨b, off, rfl, hb, hcs⟩ := HC.out (by omega)
        have hc := hcs k hlt
        have hc1 := (hbel.cell (p := ⟨b, off + k * 3, none⟩) hb).trans hc.1
        have hc2 := (hbel.cell (p := ⟨b, off + k * 3 + 1, none⟩) hb).trans hc.2.1
        have hc3 := (hbel.cell (p := ⟨b, off + k * 3 + 2, none⟩) hb).trans hc.2.2
        have HY := Lib.hid hy
        clear hc hcs hy
        have hi0 : (0 : Int) ≤ (k : Int) := by omega
        have hi1 : (k : Int) < (ps.length : Int) := by omega
        go_wp2_with fail
        go_quiet (first | (go_at_call 16; (with_reducible refine (rput_c _ _ _ _ _).mono ?_); rintro e w' ⟨rfl, ⟨nd, rfl⟩⟩; (try first | exact ⟨rfl, _, World.drewN_drewN _ _ _⟩ | exact ⟨rfl, _, Eq.trans (World.drewN_drewN _ _ _) (congrArg (World.drewN _) (Nat.add_assoc _ _ _))⟩)))
        go_wp2_with fail
        go_roundw
        case rel =>
          refine ⟨k + 1, _, by omega, by go_num, rfl, ?_, below_drewN hbel _⟩
          have e : ps.drop k = ps[k] :: ps.drop (k + 1) := by rw [List.drop_eq_getElem_cons hlt]
          have h := HY.out
          rw [e] at h
          rw [← h]
          simp only [layAll]
        case measure => simp [intOf]; omega
      · have e : ps.drop k = [] := List.drop_eq_nil_of_le (by omega)
        rw [e] at hy
        obtain rfl : y = layAll ps 0#64 := hy
        have hi2 : ¬ ((k : Int) < (ps.length : Int)) := by omega
        have HP := Lib.hid (HC.out.below hbel)
        go_wp2_with fail
        (go_at_call 17; (with_reducible refine (lay ps A cap _ (by omega) HP.out _ rfl).mono ?_))
        rintro e w' ⟨rfl, hb⟩
        go_wp2_with fail
        (go_at_call 17; (with_reducible refine (lay [(4, 4, 10#64)] _ _ _ (by simp) ?hp 1 rfl).mono ?_))
        case hp => exact parts_one 4 4 10#64 _ _ rfl
        rintro e w2 ⟨rfl, hb2⟩
        go_wp2_with fail
        go_ret
        refine ⟨rfl, (hbel.trans (hb.mono (by have := hbel.size; omega))).trans (Below.trans ((Below.refl _ _).alloc (by have := hbel.size; have := hb.size; omega) _) (hb2.mono (by have := hbel.size; have := hb.size; simp; omega)))⟩
  · have t0 : decide (40 < (n : Int)) = true := decide_eq_true (by omega)
    have t1 : (40 : Int) ≤ (cap : Int) := by omega
    have H2 := Lib.hid h2
    clear h2
    go_enter Try.func4, Try.ntmps4
    go_wp2_with fail
    go_loopw [3, 4] (fun v i wr => ∃ k y, k ≤ 40 ∧ i = .int .i64 (k : Nat) ∧ v = .int .u64 (u y) ∧ layAll (ps.drop k) y = layAll ps 0#64 ∧ Below W.heap.size W wr) (fun _ i _ => 40 - (intOf i).toNat)
    case atStart => exact ⟨0, 0#64, Nat.zero_le _, rfl, rfl, rfl, Below.refl _ _⟩
    case round =>
      obtain ⟨k, y, hk, rfl, rfl, hy, hbel⟩ := hrel
      by_cases hlt : k < 40
      · have hlt' : k < ps.length := by have := H2.out; omega
        obtain ⟨b, off, rfl, hb, hcs⟩ := HC.out (by have := H2.out; omega)
        have hc := hcs k hlt'
        have hc1 := (hbel.cell (p := ⟨b, off + k * 3, none⟩) hb).trans hc.1
        have hc2 := (hbel.cell (p := ⟨b, off + k * 3 + 1, none⟩) hb).trans hc.2.1
        have hc3 := (hbel.cell (p := ⟨b, off + k * 3 + 2, none⟩) hb).trans hc.2.2
        have HY := Lib.hid hy
        clear hc hcs hy
        have hi0 : (0 : Int) ≤ (k : Int) := by omega
        have hi1 : (k : Int) < (40 : Int) := by omega
        go_wp2_with fail
        go_quiet (first | (go_at_call 16; (with_reducible refine (rput_c _ _ _ _ _).mono ?_); rintro e w' ⟨rfl, ⟨nd, rfl⟩⟩; (try first | exact ⟨rfl, _, World.drewN_drewN _ _ _⟩ | exact ⟨rfl, _, Eq.trans (World.drewN_drewN _ _ _) (congrArg (World.drewN _) (Nat.add_assoc _ _ _))⟩)))
        go_wp2_with fail
        go_roundw
        case rel =>
          refine ⟨k + 1, _, by omega, by go_num, rfl, ?_, below_drewN hbel _⟩
          have e : ps.drop k = ps[k] :: ps.drop (k + 1) := by rw [List.drop_eq_getElem_cons hlt']
          have h := HY.out
          rw [e] at h
          rw [← h]
          simp only [layAll]
        case measure => simp [intOf]; omega
      · have e : ps.drop k = [] := List.drop_eq_nil_of_le (by have := H2.out; omega)
        rw [e] at hy
        obtain rfl : y = layAll ps 0#64 := hy
        have hi2 : ¬ ((k : Int) < (40 : Int)) := by omega
        have HP := Lib.hid (HC.out.below hbel)
        go_wp2_with fail
        (go_at_call 17; (with_reducible refine (lay ps A cap _ (by have := H2.out; omega) HP.out 40 H2.out.symm).mono ?_))
        rintro e w' ⟨rfl, hb⟩
        go_wp2_with fail
        (go_at_call 17; (with_reducible refine (lay [(4, 4, 10#64)] _ _ _ (by simp) ?hp 1 rfl).mono ?_))
        case hp => exact parts_one 4 4 10#64 _ _ rfl
        rintro e w2 ⟨rfl, hb2⟩
        go_wp2_with fail
        go_ret
        refine ⟨rfl, (hbel.trans (hb.mono (by have := hbel.size; omega))).trans (Below.trans ((Below.refl _ _).alloc (by have := hbel.size; have := hb.size; omega) _) (hb2.mono (by have := hbel.size; have := hb.size; simp; omega)))⟩
theorem walk (W : World) (base : Nat) (v0 : Value) (o0 : Value.okWide Try.prog W .any base 28 v0) (t0 : Readable Try.prog W 28 v0) :
    Calls Try.prog 4 #[v0] W fun e W' => e = .returned (.bool true) ∧ Below W.heap.size W W' := by
  have flat : Flat Try.prog 30 [.i64, .i64, .u64] := by
    refine ⟨by kernel_rfl, .inr ⟨_, Try.underlying30, fun j k hk => ?_⟩⟩
    match j, hk with
    | 0, hk => cases hk; exact ⟨_, rfl, rfl, Try.underlying3, by kernel_rfl⟩
    | 1, hk => cases hk; exact ⟨_, rfl, rfl, Try.underlying3, by kernel_rfl⟩
    | 2, hk => cases hk; exact ⟨_, rfl, rfl, Try.underlying22, by kernel_rfl⟩
    | j + 3, hk => simp at hk
  obtain ⟨A, n, cap, rfl, hn, hcap, z, hz, hc⟩ := open_cells Try.underlying28 flat (by decide) o0 t0
  obtain ⟨x, hx⟩ : ∃ x : Nat → BitVec 64, ∀ i, i < n → z i 2 = u (x i) := by
    refine ⟨fun i => BitVec.ofInt 64 (z i 2), fun i hi => ?_⟩
    obtain ⟨y, hy⟩ := u_of (hz i 2 .u64 hi rfl)
    show z i 2 = u (BitVec.ofInt 64 (z i 2))
    rw [hy, ofInt_u]
  have parts : ∀ m, m ≤ n → PartsAt W A ((List.range m).map fun i => (z i 0, z i 1, x i)) := by
    intro m hm hl
    obtain ⟨b, off, hA, hb, hcell⟩ := hc (by simp at hl; omega)
    refine ⟨b, off, hA, hb, fun i hi => ?_⟩
    have hi' : i < m := by simpa using hi
    have e : (((List.range m).map fun i => (z i 0, z i 1, x i)).getD i (0, 0, 0#64)) = (z i 0, z i 1, x i) := by
      rw [List.getD_eq_getElem?_getD, List.getElem?_map, List.getElem?_range hi']; rfl
    rw [e]
    refine ⟨hcell i 0 (by omega) (by decide), hcell i 1 (by omega) (by decide), ?_⟩
    have h2 : W.cell? ⟨b, off + i * 3 + 2, none⟩ = some (.int .u64 (z i 2)) := hcell i 2 (by omega) (by decide)
    rw [hx i (by omega)] at h2; exact h2
  by_cases h : n ≤ 40
  · exact few _ A cap n W (by simp; omega) hn hcap (.inl ⟨h, by simp⟩) (parts n (Nat.le_refl _))
  · exact few _ A cap n W (by simp) hn hcap (.inr ⟨by omega, by simp⟩) (parts 40 (by omega))
end Go.Proofs.Ytfhigpmpngfkbaa.FieldLaysW
