/- An entry that is not valid is right; one with fewer rights than one of a page that is right is right; and what a table's entry has is told by its number: the statement's function answers true. No condition but that the argument is of its type. -/
import Derived.Test.YtfhigpmpngfkbaaPteRightC
import Derived.Test.YtfhigpmpngfkbaaFieldLaws
import Derived.Test.YtfhigpmpngfkbaaOpen
import Derived.Deep.RegionHeld3
import Derived.Test.YtfhigpmpngfkbaaCanon
namespace Go.Proofs.Ytfhigpmpngfkbaa.PteRightW
open Go.RowKit Go.Proofs.YtfhigpmpngfkbaaW.PrintWords Go.Proofs.YtfhigpmpngfkbaaW.PrintLast Go.Proofs.YtfhigpmpngfkbaaW.PrintMore Go.Proofs.Ytfhigpmpngfkbaa.Bits Go.Proofs.Ytfhigpmpngfkbaa.FC Go.Proofs.Ytfhigpmpngfkbaa.Opens Go.Proofs.Ytfhigpmpngfkbaa.Pte
/-- Flags out of a list. -/
def ofL (l : List Bool) (i : Nat) : Bool := l.getD i false
theorem right_x (b0 b1 b2 b3 b4 b5 b6 b7 b8 b9 b10 b11 : Bool) (f : BitVec 64) (W : World) : Calls Try.prog 36 #[.agg #[.bool b0, .bool b1, .bool b2, .bool b3, .bool b4, .bool b5, .bool b6, .bool b7, .bool b8, .bool b9, .bool b10, .bool b11, .int .u64 (u f)]] W
    fun r W' => r = .returned (.bool (rightB (ofL [b0, b1, b2, b3, b4, b5, b6, b7, b8, b9, b10, b11]) f)) ∧ Below W.heap.size W W' :=
  right_c (ofL [b0, b1, b2, b3, b4, b5, b6, b7, b8, b9, b10, b11]) f W
theorem leaf_x (b0 b1 b2 b3 b4 b5 b6 b7 b8 b9 b10 b11 : Bool) (f : BitVec 64) (W : World) : Calls Try.prog 34 #[.agg #[.bool b0, .bool b1, .bool b2, .bool b3, .bool b4, .bool b5, .bool b6, .bool b7, .bool b8, .bool b9, .bool b10, .bool b11, .int .u64 (u f)]] W
    fun r W' => r = .returned (.bool (leafB (ofL [b0, b1, b2, b3, b4, b5, b6, b7, b8, b9, b10, b11]))) ∧ Below W.heap.size W W' :=
  leaf_c (ofL [b0, b1, b2, b3, b4, b5, b6, b7, b8, b9, b10, b11]) f W
theorem word_x (b0 b1 b2 b3 b4 b5 b6 b7 b8 b9 b10 b11 : Bool) (f : BitVec 64) (W : World) : Calls Try.prog 31 #[.agg #[.bool b0, .bool b1, .bool b2, .bool b3, .bool b4, .bool b5, .bool b6, .bool b7, .bool b8, .bool b9, .bool b10, .bool b11, .int .u64 (u f)]] W
    fun r W' => r = .returned (.int .u64 (u (wordB (ofL [b0, b1, b2, b3, b4, b5, b6, b7, b8, b9, b10, b11]) f))) ∧ Below W.heap.size W W' :=
  word_c (ofL [b0, b1, b2, b3, b4, b5, b6, b7, b8, b9, b10, b11]) f W
theorem kept {W w1 : World} (hb : Below W.heap.size W w1) : (∀ b o, b < W.heap.size → w1.cell? ⟨b, o, none⟩ = W.cell? ⟨b, o, none⟩) ∧ (∀ b o, b < W.heap.size → w1.frozen? ⟨b, o, none⟩ = W.frozen? ⟨b, o, none⟩) :=
  ⟨fun b o h => hb.cell (p := ⟨b, o, none⟩) h, fun b o h => hb.frozen (p := ⟨b, o, none⟩) h⟩
def tcells (g : BitVec 64) : Array Value := #[.bool true, .bool false, .bool false, .bool false, .bool false, .bool false, .bool false, .bool false, .bool false, .bool false, .bool false, .bool false, .int .u64 (u g)]
/-- The world behind an operation of the last statement: the entry lies in its block, and what was there stands. -/
def TI (W : World) (T : Nat) (g : BitVec 64) (w : World) : Prop := w.heap[T]? = some (.cells (tcells g) 46 (0, 0)) ∧ Below W.heap.size W w
theorem ti_call {W w w2 : World} {T : Nat} {g : BitVec 64} (h : TI W T g w) (hb : Below w.heap.size w w2) : TI W T g w2 := by
  have hlt : T < w.heap.size := by
    rcases Nat.lt_or_ge T w.heap.size with h1 | h1
    · exact h1
    · have := h.1; rw [Array.getElem?_eq_none h1] at this; cases this
  exact ⟨(hb.block T hlt).trans h.1, h.2.trans (hb.mono h.2.size)⟩
theorem ti_load {W w : World} {T : Nat} {g : BitVec 64} (h : TI W T g w) : (do pure (.value (← Instr.loadAt 46 (.pointer (some ⟨T, 0, none⟩)))) : Sem Next).run Try.prog w = .ok (.value (.agg (tcells g))) w := by
  have h1 := run_loadVar_row (P := Try.prog) w T 46 46 (tcells g) (0, 0) _ h.1 Try.underlying46 rfl (by kernel_rfl)
  simp only [Instr.loadAt, Instr.sureAddr, Sem.run_bind, Sem.run_pure, Result.andThen_ok, h1]
theorem ti_frame {W w : World} {T : Nat} {g : BitVec 64} (h : TI W T g w) : (do pure (.value (← Instr.loadAt 22 (.pointer (some ⟨T, 12, none⟩)))) : Sem Next).run Try.prog w = .ok (.value (.int .u64 (u g))) w := by
  have hc : w.cell? ⟨T, 12, none⟩ = some (.int .u64 (u g)) := by rw [block_cell h.1]; rfl
  go_simp
theorem right_t (g : BitVec 64) (h : rightB (ofL [true, false, false, false, false, false, false, false, false, false, false, false]) g = true) (W : World) : Calls Try.prog 36 #[.agg #[.bool true, .bool false, .bool false, .bool false, .bool false, .bool false, .bool false, .bool false, .bool false, .bool false, .bool false, .bool false, .int .u64 (u g)]] W fun r W' => r = .returned (.bool true) ∧ Below W.heap.size W W' := by
  refine (right_x true false false false false false false false false false false false g W).mono fun r w' ⟨he, hb⟩ => ⟨?_, hb⟩
  rw [he, h]
theorem leaf_t (g : BitVec 64) (W : World) : Calls Try.prog 34 #[.agg #[.bool true, .bool false, .bool false, .bool false, .bool false, .bool false, .bool false, .bool false, .bool false, .bool false, .bool false, .bool false, .int .u64 (u g)]] W fun r W' => r = .returned (.bool false) ∧ Below W.heap.size W W' :=
  leaf_x true false false false false false false false false false false false g W
theorem word_t (g : BitVec 64) (x : BitVec 64) (h : wordB (ofL [true, false, false, false, false, false, false, false, false, false, false, false]) g = x) (W : World) : Calls Try.prog 31 #[.agg #[.bool true, .bool false, .bool false, .bool false, .bool false, .bool false, .bool false, .bool false, .bool false, .bool false, .bool false, .bool false, .int .u64 (u g)]] W fun r W' => r = .returned (.int .u64 (u x)) ∧ Below W.heap.size W W' := by
  refine (word_x true false false false false false false false false false false false g W).mono fun r w' ⟨he, hb⟩ => ⟨?_, hb⟩
  rw [he, h]
theorem of_t (g : BitVec 64) (x : BitVec 64) (h : cellsB (fun i => decide (i < 12) && bitsOf x i) (getI x 10 44) = #[.bool true, .bool false, .bool false, .bool false, .bool false, .bool false, .bool false, .bool false, .bool false, .bool false, .bool false, .bool false, .int .u64 (u g)]) (W : World) : Calls Try.prog 30 #[.int .u64 (u x)] W fun r W' => r = .returned (.agg #[.bool true, .bool false, .bool false, .bool false, .bool false, .bool false, .bool false, .bool false, .bool false, .bool false, .bool false, .bool false, .int .u64 (u g)]) ∧ Below W.heap.size W W' := by
  refine (of_c x W).mono fun r w' ⟨he, hb⟩ => ⟨?_, hb⟩
  rw [he, h]
set_option maxRecDepth 100000 in
set_option maxHeartbeats 2000000 in
theorem steps (b0 b1 b2 b3 b4 b5 b6 b7 b8 b9 b10 b11 : Bool) (f : BitVec 64) (rE lE : Bool)
   (h1 : rightB (ofL [false, b1, b2, b3, b4, b5, b6, b7, b8, b9, b10, b11]) f = true) (h2 : leafB (ofL [false, b1, b2, b3, b4, b5, b6, b7, b8, b9, b10, b11]) = false)
   (h3 : rightB (ofL [b0, b1, b2, b3, b4, b5, b6, b7, b8, b9, b10, b11]) f = rE) (h4 : leafB (ofL [b0, b1, b2, b3, b4, b5, b6, b7, b8, b9, b10, b11]) = lE)
   (hX : rE = true → lE = true → (b1 || b3) = true → rightB (ofL [b0, b1, false, b3, b4, b5, b6, b7, false, b9, b10, b11]) f = true ∧ leafB (ofL [b0, b1, false, b3, b4, b5, b6, b7, false, b9, b10, b11]) = true)
   (hY : rE = true → lE = true → rightB (ofL [b0, b1, b2, b3, b4, b5, b6, b7, false, false, b10, b11]) f = true)
   (hZ : rE = true → lE = true → rightB (ofL [b0, b1, b2, b3, false, b5, false, false, b8, b9, false, false]) f = true)
   (hR : ∀ g, g = f &&& 65535#64 → rightB (ofL [true, false, false, false, false, false, false, false, false, false, false, false]) g = true) (x : BitVec 64) (hx : ∀ g, g = f &&& 65535#64 → wordB (ofL [true, false, false, false, false, false, false, false, false, false, false, false]) g = x) (ho : ∀ g, g = f &&& 65535#64 → cellsB (fun i => decide (i < 12) && bitsOf x i) (getI x 10 44) = #[.bool true, .bool false, .bool false, .bool false, .bool false, .bool false, .bool false, .bool false, .bool false, .bool false, .bool false, .bool false, .int .u64 (u g)])
   (hs : ∀ g, g = f &&& 65535#64 → IntKind.u64.wrap (u g * (1024 : Int)) = u (g <<< 10) ∧ IntKind.u64.wrap ((1 : Int) + u (g <<< 10)) = u x)
   (W : World) : Calls Try.prog 11 #[.agg #[.bool b0, .bool b1, .bool b2, .bool b3, .bool b4, .bool b5, .bool b6, .bool b7, .bool b8, .bool b9, .bool b10, .bool b11, .int .u64 (u f)]] W fun e W' => e = .returned (.bool true) ∧ Below W.heap.size W W' := by
    replace hX := Lib.hid hX
    replace hY := Lib.hid hY
    replace hZ := Lib.hid hZ
    replace hR := Lib.hid hR
    replace hx := Lib.hid hx
    replace ho := Lib.hid ho
    replace hs := Lib.hid hs
    go_enter Try.func11, Try.ntmps11
    go_wp2_with fail
    (go_at_call 36; (with_reducible refine (right_x _ _ _ _ _ _ _ _ _ _ _ _ _ _).mono ?_))
    rintro e w1 ⟨rfl, hb1⟩
    obtain ⟨k1, f1⟩ := kept hb1
    have z1 := hb1.size
    simp at z1
    go_wp2_with fail
    (go_at_call 34; (with_reducible refine (leaf_x _ _ _ _ _ _ _ _ _ _ _ _ _ _).mono ?_))
    rintro e w2 ⟨rfl, hb2⟩
    obtain ⟨k2, f2⟩ := kept hb2
    have z2 := hb2.size
    go_upto_region 5 with fail
    have e2 : ∀ j : Nat, w2.cell? ⟨W.heap.size, j, none⟩ = (#[.bool b0, .bool b1, .bool b2, .bool b3, .bool b4, .bool b5, .bool b6, .bool b7, .bool b8, .bool b9, .bool b10, .bool b11, .int .u64 (u f)] : Array Value)[j]? := by
      intro j
      rw [k2 _ _ (by omega), k1 _ _ (by simp; omega)]
      go_simp
    have s2 : W.heap.size < w2.heap.size := by omega
    have B2 : Below W.heap.size W w2 := by
      have q : Below W.heap.size _ w1 := hb1.mono (by simp; omega)
      exact Below.trans (((Below.refl _ W).alloc (Nat.le_refl _) _).alloc (by simp) _) (q.trans (hb2.mono (by omega)))
    clear k1 f1 k2 f2 z1 z2
    go_cut [22] from 17 to 22 (fun c wc => c = .bool (rE && lE) ∧ (∀ j : Nat, wc.cell? ⟨W.heap.size, j, none⟩ = (#[.bool b0, .bool b1, .bool b2, .bool b3, .bool b4, .bool b5, .bool b6, .bool b7, .bool b8, .bool b9, .bool b10, .bool b11, .int .u64 (u f)] : Array Value)[j]?) ∧ W.heap.size < wc.heap.size ∧ Below W.heap.size W wc)
    case first =>
      cases rE
      · go_wp2_with fail
        (go_at_call 36; (with_reducible refine (right_x _ _ _ _ _ _ _ _ _ _ _ _ _ _).mono ?_))
        rintro e w3 ⟨rfl, hb3⟩
        obtain ⟨k3, f3⟩ := kept hb3
        have z3 := hb3.size
        go_wp2_with fail
        go_meet
        exact ⟨rfl, fun j => (k3 _ _ s2).trans (e2 j), by omega, B2.trans (hb3.mono (by omega))⟩
      · go_wp2_with fail
        (go_at_call 36; (with_reducible refine (right_x _ _ _ _ _ _ _ _ _ _ _ _ _ _).mono ?_))
        rintro e w3 ⟨rfl, hb3⟩
        obtain ⟨k3, f3⟩ := kept hb3
        have z3 := hb3.size
        have s3 : W.heap.size < w3.heap.size := by omega
        go_wp2_with fail
        (go_at_call 34; (with_reducible refine (leaf_x _ _ _ _ _ _ _ _ _ _ _ _ _ _).mono ?_))
        rintro e w4 ⟨rfl, hb4⟩
        obtain ⟨k4, f4⟩ := kept hb4
        have z4 := hb4.size
        go_wp2_with fail
        go_meet
        exact ⟨rfl, fun j => (k4 _ _ s3).trans ((k3 _ _ s2).trans (e2 j)), by omega, (B2.trans (hb3.mono (by omega))).trans (hb4.mono (by omega))⟩
    case rest =>
      obtain ⟨rfl, e3, s3, B3⟩ := hcut
      clear e2 s2 B2 hb1 hb2
      go_upto_if 22 with fail
      go_cut [] from 17 to 60 (fun wd => (∀ j : Nat, wd.cell? ⟨W.heap.size, j, none⟩ = (#[.bool b0, .bool b1, .bool b2, .bool b3, .bool b4, .bool b5, .bool b6, .bool b7, .bool b8, .bool b9, .bool b10, .bool b11, .int .u64 (u f)] : Array Value)[j]?) ∧ W.heap.size < wd.heap.size ∧ Below W.heap.size W wd)
      case first =>
        cases hc : (rE && lE)
        · go_wp2_with fail
          go_meet
          exact ⟨e3, s3, B3⟩
        · have hrl : rE = true ∧ lE = true := by simpa using hc
          have hx0 := hX.out hrl.1 hrl.2
          have hy0 := hY.out hrl.1 hrl.2
          have hz0 := hZ.out hrl.1 hrl.2
          clear hrl hc
          cases b1
          · cases b3
            · clear hx0
              go_wp2_with fail
              (go_at_call 36; (with_reducible refine (right_x _ _ _ _ _ _ _ _ _ _ _ _ _ _).mono ?_))
              rintro e w3 ⟨rfl, hb3⟩
              obtain ⟨k3, f3⟩ := kept hb3
              have z3 := hb3.size
              simp at z3
              have g3a : wc.heap.size < w3.heap.size := by omega
              have g3b : wc.heap.size + 1 < w3.heap.size := by omega
              have g3c : wc.heap.size + 1 + 1 < w3.heap.size := by omega
              go_wp2_with fail
              (go_at_call 36; (with_reducible refine (right_x _ _ _ _ _ _ _ _ _ _ _ _ _ _).mono ?_))
              rintro e w4 ⟨rfl, hb4⟩
              obtain ⟨k4, f4⟩ := kept hb4
              have z4 := hb4.size
              have g4a : wc.heap.size < w4.heap.size := by omega
              have g4b : wc.heap.size + 1 < w4.heap.size := by omega
              have g4c : wc.heap.size + 1 + 1 < w4.heap.size := by omega
              go_wp2_with fail
              go_meet
              have q3 : Below W.heap.size _ w3 := hb3.mono (by simp; omega)
              have p3 : Below W.heap.size W w3 := Below.trans (((B3.alloc (Nat.le_of_lt s3) _).alloc (by simp; omega) _).alloc (by simp; omega) _) q3
              have c3 : ∀ j : Nat, w3.cell? ⟨W.heap.size, j, none⟩ = wc.cell? ⟨W.heap.size, j, none⟩ := by
                intro j
                rw [k3 _ _ (by simp; omega)]
                rw [World.cell?_alloc_past _ _ _ (by simp; omega), World.cell?_alloc_past _ _ _ (by simp; omega), World.cell?_alloc_past _ _ _ s3]
              exact ⟨fun j => (k4 _ _ (by omega)).trans ((c3 j).trans (e3 j)), by omega, (p3).trans (hb4.mono (by omega))⟩
            · obtain ⟨hx1, hx2⟩ := hx0 rfl
              clear hx0
              go_wp2_with fail
              (go_at_call 36; (with_reducible refine (right_x _ _ _ _ _ _ _ _ _ _ _ _ _ _).mono ?_))
              rintro e w3 ⟨rfl, hb3⟩
              obtain ⟨k3, f3⟩ := kept hb3
              have z3 := hb3.size
              simp at z3
              have g3a : wc.heap.size < w3.heap.size := by omega
              have g3b : wc.heap.size + 1 < w3.heap.size := by omega
              have g3c : wc.heap.size + 1 + 1 < w3.heap.size := by omega
              go_wp2_with fail
              (go_at_call 34; (with_reducible refine (leaf_x _ _ _ _ _ _ _ _ _ _ _ _ _ _).mono ?_))
              rintro e w4 ⟨rfl, hb4⟩
              obtain ⟨k4, f4⟩ := kept hb4
              have z4 := hb4.size
              have g4a : wc.heap.size < w4.heap.size := by omega
              have g4b : wc.heap.size + 1 < w4.heap.size := by omega
              have g4c : wc.heap.size + 1 + 1 < w4.heap.size := by omega
              go_wp2_with fail
              (go_at_call 36; (with_reducible refine (right_x _ _ _ _ _ _ _ _ _ _ _ _ _ _).mono ?_))
              rintro e w5 ⟨rfl, hb5⟩
              obtain ⟨k5, f5⟩ := kept hb5
              have z5 := hb5.size
              have g5a : wc.heap.size < w5.heap.size := by omega
              have g5b : wc.heap.size + 1 < w5.heap.size := by omega
              have g5c : wc.heap.size + 1 + 1 < w5.heap.size := by omega
              go_wp2_with fail
              (go_at_call 36; (with_reducible refine (right_x _ _ _ _ _ _ _ _ _ _ _ _ _ _).mono ?_))
              rintro e w6 ⟨rfl, hb6⟩
              obtain ⟨k6, f6⟩ := kept hb6
              have z6 := hb6.size
              have g6a : wc.heap.size < w6.heap.size := by omega
              have g6b : wc.heap.size + 1 < w6.heap.size := by omega
              have g6c : wc.heap.size + 1 + 1 < w6.heap.size := by omega
              go_wp2_with fail
              go_meet
              have q3 : Below W.heap.size _ w3 := hb3.mono (by simp; omega)
              have p3 : Below W.heap.size W w3 := Below.trans (((B3.alloc (Nat.le_of_lt s3) _).alloc (by simp; omega) _).alloc (by simp; omega) _) q3
              have c3 : ∀ j : Nat, w3.cell? ⟨W.heap.size, j, none⟩ = wc.cell? ⟨W.heap.size, j, none⟩ := by
                intro j
                rw [k3 _ _ (by simp; omega)]
                rw [World.cell?_alloc_past _ _ _ (by simp; omega), World.cell?_alloc_past _ _ _ (by simp; omega), World.cell?_alloc_past _ _ _ s3]
              exact ⟨fun j => (k6 _ _ (by omega)).trans ((k5 _ _ (by omega)).trans ((k4 _ _ (by omega)).trans ((c3 j).trans (e3 j)))), by omega, (((p3).trans (hb4.mono (by omega))).trans (hb5.mono (by omega))).trans (hb6.mono (by omega))⟩
          · obtain ⟨hx1, hx2⟩ := hx0 rfl
            clear hx0
            go_wp2_with fail
            (go_at_call 36; (with_reducible refine (right_x _ _ _ _ _ _ _ _ _ _ _ _ _ _).mono ?_))
            rintro e w3 ⟨rfl, hb3⟩
            obtain ⟨k3, f3⟩ := kept hb3
            have z3 := hb3.size
            simp at z3
            have g3a : wc.heap.size < w3.heap.size := by omega
            have g3b : wc.heap.size + 1 < w3.heap.size := by omega
            have g3c : wc.heap.size + 1 + 1 < w3.heap.size := by omega
            go_wp2_with fail
            (go_at_call 34; (with_reducible refine (leaf_x _ _ _ _ _ _ _ _ _ _ _ _ _ _).mono ?_))
            rintro e w4 ⟨rfl, hb4⟩
            obtain ⟨k4, f4⟩ := kept hb4
            have z4 := hb4.size
            have g4a : wc.heap.size < w4.heap.size := by omega
            have g4b : wc.heap.size + 1 < w4.heap.size := by omega
            have g4c : wc.heap.size + 1 + 1 < w4.heap.size := by omega
            go_wp2_with fail
            (go_at_call 36; (with_reducible refine (right_x _ _ _ _ _ _ _ _ _ _ _ _ _ _).mono ?_))
            rintro e w5 ⟨rfl, hb5⟩
            obtain ⟨k5, f5⟩ := kept hb5
            have z5 := hb5.size
            have g5a : wc.heap.size < w5.heap.size := by omega
            have g5b : wc.heap.size + 1 < w5.heap.size := by omega
            have g5c : wc.heap.size + 1 + 1 < w5.heap.size := by omega
            go_wp2_with fail
            (go_at_call 36; (with_reducible refine (right_x _ _ _ _ _ _ _ _ _ _ _ _ _ _).mono ?_))
            rintro e w6 ⟨rfl, hb6⟩
            obtain ⟨k6, f6⟩ := kept hb6
            have z6 := hb6.size
            have g6a : wc.heap.size < w6.heap.size := by omega
            have g6b : wc.heap.size + 1 < w6.heap.size := by omega
            have g6c : wc.heap.size + 1 + 1 < w6.heap.size := by omega
            go_wp2_with fail
            go_meet
            have q3 : Below W.heap.size _ w3 := hb3.mono (by simp; omega)
            have p3 : Below W.heap.size W w3 := Below.trans (((B3.alloc (Nat.le_of_lt s3) _).alloc (by simp; omega) _).alloc (by simp; omega) _) q3
            have c3 : ∀ j : Nat, w3.cell? ⟨W.heap.size, j, none⟩ = wc.cell? ⟨W.heap.size, j, none⟩ := by
              intro j
              rw [k3 _ _ (by simp; omega)]
              rw [World.cell?_alloc_past _ _ _ (by simp; omega), World.cell?_alloc_past _ _ _ (by simp; omega), World.cell?_alloc_past _ _ _ s3]
            exact ⟨fun j => (k6 _ _ (by omega)).trans ((k5 _ _ (by omega)).trans ((k4 _ _ (by omega)).trans ((c3 j).trans (e3 j)))), by omega, (((p3).trans (hb4.mono (by omega))).trans (hb5.mono (by omega))).trans (hb6.mono (by omega))⟩
      case rest =>
        obtain ⟨e4, s4, B4⟩ := hcut
        clear e3 s3 B3 hX hY hZ h1 h2 h3 h4
        obtain ⟨g, hg⟩ : ∃ g : BitVec 64, g = f &&& 65535#64 := ⟨_, rfl⟩
        have hgr : Go.bits .and .u64 (u f) 65535 = u g := by rw [hg]; exact bits_and f 65535#64
        have HR := Lib.hid (hR.out g hg)
        have HX := Lib.hid (hx.out g hg)
        have HO := Lib.hid (ho.out g hg)
        obtain ⟨hs1, hs2⟩ := hs.out g hg
        clear hg hR hx ho hs
        go_upto_region 15 with fail
        have hI : TI W wc.heap.size g (wc.alloc (Obj.cells #[.bool true, .bool false, .bool false, .bool false, .bool false, .bool false, .bool false, .bool false, .bool false, .bool false, .bool false, .bool false, .int .u64 (u g)] 46)) := ⟨Array.getElem?_push_size, B4.alloc (by omega) _⟩
        refine Canon.region_canon (I := TI W wc.heap.size g) (by kernel_rfl) (by decide +kernel) ⟨hI.1, hI.2.drew⟩ ?_
        refine Canon.readsS (Canon.ldS 46 (.pointer (some ⟨wc.heap.size, 0, none⟩))) (.agg (tcells g)) (by kernel_rfl) (by kernel_rfl) (fun w hw => ti_load hw) ?_
        refine Canon.call (.bool true) 36 #[.agg (tcells g)] (by kernel_rfl) (fun w => by kernel_rfl) (fun w hw => (right_t g HR.out w).mono fun e w' ⟨he, hb⟩ => ⟨he, ti_call hw hb⟩) ?_
        refine Canon.pure (.bool true) (by kernel_rfl) (fun w => by kernel_rfl) ?_
        refine Canon.readsS (Canon.ldS 46 (.pointer (some ⟨wc.heap.size, 0, none⟩))) (.agg (tcells g)) (by kernel_rfl) (by kernel_rfl) (fun w hw => ti_load hw) ?_
        refine Canon.call (.bool false) 34 #[.agg (tcells g)] (by kernel_rfl) (fun w => by kernel_rfl) (fun w hw => (leaf_t g w).mono fun e w' ⟨he, hb⟩ => ⟨he, ti_call hw hb⟩) ?_
        refine Canon.pure (.bool true) (by kernel_rfl) (fun w => by kernel_rfl) ?_
        refine Canon.pure (.bool true) (by kernel_rfl) (fun w => by kernel_rfl) ?_
        refine Canon.pure (.bool true) (by kernel_rfl) (fun w => by kernel_rfl) ?_
        refine Canon.readsS (Canon.ldS 46 (.pointer (some ⟨wc.heap.size, 0, none⟩))) (.agg (tcells g)) (by kernel_rfl) (by kernel_rfl) (fun w hw => ti_load hw) ?_
        refine Canon.call (.int .u64 (u x)) 31 #[.agg (tcells g)] (by kernel_rfl) (fun w => by kernel_rfl) (fun w hw => (word_t g x HX.out w).mono fun e w' ⟨he, hb⟩ => ⟨he, ti_call hw hb⟩) ?_
        refine Canon.pure (.pointer (some ⟨wc.heap.size, 12, none⟩)) (by kernel_rfl) (fun w => by kernel_rfl) ?_
        refine Canon.readsS (Canon.ldS 22 (.pointer (some ⟨wc.heap.size, 12, none⟩))) (.int .u64 (u g)) (by kernel_rfl) (by kernel_rfl) (fun w hw => ti_frame hw) ?_
        refine Canon.pureS (Canon.opS .shl 22 (.tmp 76) (.const (.int .u64 10)) (.int .u64 (u g)) (.int .u64 10)) (.int .u64 (u (g <<< 10))) (by kernel_rfl) (by kernel_rfl) (fun w => by go_simp) ?_
        refine Canon.pureS (Canon.opS .add 22 (.const (.int .u64 1)) (.tmp 77) (.int .u64 1) (.int .u64 (u (g <<< 10)))) (.int .u64 (u x)) (by kernel_rfl) (by kernel_rfl) (fun w => by go_simp) ?_
        refine Canon.pureS (Canon.opS .eql 22 (.tmp 74) (.tmp 78) (.int .u64 (u x)) (.int .u64 (u x))) (.bool true) (by kernel_rfl) (by kernel_rfl) (fun w => by go_simp) ?_
        refine Canon.pure (.bool true) (by kernel_rfl) (fun w => by kernel_rfl) ?_
        refine Canon.pure (.bool true) (by kernel_rfl) (fun w => by kernel_rfl) ?_
        refine Canon.readsS (Canon.ldS 46 (.pointer (some ⟨wc.heap.size, 0, none⟩))) (.agg (tcells g)) (by kernel_rfl) (by kernel_rfl) (fun w hw => ti_load hw) ?_
        refine Canon.call (.int .u64 (u x)) 31 #[.agg (tcells g)] (by kernel_rfl) (fun w => by kernel_rfl) (fun w hw => (word_t g x HX.out w).mono fun e w' ⟨he, hb⟩ => ⟨he, ti_call hw hb⟩) ?_
        refine Canon.call (.agg (tcells g)) 30 #[.int .u64 (u x)] (by kernel_rfl) (fun w => by kernel_rfl) (fun w hw => (of_t g x HO.out w).mono fun e w' ⟨he, hb⟩ => ⟨he, ti_call hw hb⟩) ?_
        refine Canon.readsS (Canon.ldS 46 (.pointer (some ⟨wc.heap.size, 0, none⟩))) (.agg (tcells g)) (by kernel_rfl) (by kernel_rfl) (fun w hw => ti_load hw) ?_
        refine Canon.pureS (Canon.opS .eql 46 (.tmp 84) (.tmp 85) (.agg (tcells g)) (.agg (tcells g))) (.bool true) (by kernel_rfl) (by kernel_rfl) (fun w => by unfold tcells; go_simp) ?_
        refine Canon.pure (.bool true) (by kernel_rfl) (fun w => by kernel_rfl) ?_
        refine Canon.pure (.bool true) (by kernel_rfl) (fun w => by kernel_rfl) ?_
        refine Canon.fin fun w hw => ?_
        go_wp2_with fail
        exact bodyPost_ret (v := .bool true) (by kernel_rfl) (by kernel_rfl) ⟨rfl, hw.2⟩
end Go.Proofs.Ytfhigpmpngfkbaa.PteRightW
