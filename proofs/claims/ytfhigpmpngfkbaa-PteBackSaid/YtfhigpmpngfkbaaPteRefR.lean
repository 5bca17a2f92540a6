/- Whether an entry may be, as the reference tells it. No condition. -/
import Derived.Test.YtfhigpmpngfkbaaPteRefQc
import Derived.Test.YtfhigpmpngfkbaaPteLaws
import Derived.BigQuiet
namespace Go.Proofs.Ytfhigpmpngfkbaa.Pte
open Go.RowKit Go.Proofs.YtfhigpmpngfkbaaW.PrintWords Go.Proofs.YtfhigpmpngfkbaaW.PrintLast Go.Proofs.YtfhigpmpngfkbaaW.PrintMore Go.Proofs.Ytfhigpmpngfkbaa.Bits Go.Proofs.Ytfhigpmpngfkbaa.FC
theorem rleaf_c (e : Nat → Bool) (f : BitVec 64) (W : World) : Calls Try.prog 35 #[.agg (cellsB e f)] W fun r W' => r = .returned (.bool (leafB e)) ∧ Below W.heap.size W W' := by
  refine PteRefQ.mintmarkref09_Leaf.calls _ _ _ _ _ _ _ _ _ _ _ _ _ _ W ?_
  unfold PteRefQ.mintmarkref09_Leaf.f leafB
  cases e 0 <;> cases e 1 <;> cases e 2 <;> cases e 3 <;> rfl
theorem rleaf_x (b0 b1 b2 b3 b4 b5 b6 b7 b8 b9 b10 b11 : Bool) (f : BitVec 64) (W : World) : Calls Try.prog 35 #[.agg #[.bool b0, .bool b1, .bool b2, .bool b3, .bool b4, .bool b5, .bool b6, .bool b7, .bool b8, .bool b9, .bool b10, .bool b11, .int .u64 (u f)]] W
    fun r W' => r = .returned (.bool (b0 && (b1 || (b2 || b3)))) ∧ Below W.heap.size W W' :=
  rleaf_c (fun i => [b0, b1, b2, b3, b4, b5, b6, b7, b8, b9, b10, b11].getD i false) f W
def rr (b1 b2 b3 b4 b6 b7 b8 b9 b10 b11 c : Bool) : Bool := !((b2 && !b1) || ((b8 && !b2) || ((b9 && !b1) || c))) && ((b1 || (b2 || b3)) || (!b4 && (!b6 && (!b7 && (!b8 && (!b9 && (!b10 && !b11)))))))
theorem kept {W w1 : World} (hb : Below W.heap.size W w1) : (∀ b o, b < W.heap.size → w1.cell? ⟨b, o, none⟩ = W.cell? ⟨b, o, none⟩) ∧ (∀ b o, b < W.heap.size → w1.frozen? ⟨b, o, none⟩ = W.frozen? ⟨b, o, none⟩) :=
  ⟨fun b o h => hb.cell (p := ⟨b, o, none⟩) h, fun b o h => hb.frozen (p := ⟨b, o, none⟩) h⟩
set_option maxRecDepth 100000 in
set_option maxHeartbeats 4000000 in
theorem rr1 (b3 b4 b5 b6 b7 b8 b9 b10 b11 : Bool) (f : BitVec 64) (W : World) (c : Bool) (hc : decide ((17592186044416 : Int) ≤ u f) = c) : Calls Try.prog 37 #[.agg #[.bool true, .bool true, .bool true, .bool b3, .bool b4, .bool b5, .bool b6, .bool b7, .bool b8, .bool b9, .bool b10, .bool b11, .int .u64 (u f)]] W fun r W' => r = .returned (.bool (rr true true b3 b4 b6 b7 b8 b9 b10 b11 c)) ∧ Below W.heap.size W W' := by
  cases b8 <;> cases b9 <;> cases c
  all_goals
    go_enter Try.func37, Try.ntmps37
    go_wp2_with (first | (go_at_call 35; (with_reducible refine (rleaf_x _ _ _ _ _ _ _ _ _ _ _ _ _ _).mono ?_); rintro e w' ⟨rfl, hb⟩))
    go_ret
    exact ⟨rfl, by repeat (with_reducible (first | assumption | exact Below.refl _ _ | refine Below.drew ?_ | refine below_drewN ?_ _ | refine Below.alloc ?_ (Nat.le_refl _) _ | (refine Below.trans ((Below.refl _ _).alloc (Nat.le_refl _) _) (Below.mono (by assumption) (by simp)))))⟩
set_option maxRecDepth 100000 in
set_option maxHeartbeats 4000000 in
theorem rr2 (b3 b4 b5 b6 b7 b8 b9 b10 b11 : Bool) (f : BitVec 64) (W : World) (c : Bool) (hc : decide ((17592186044416 : Int) ≤ u f) = c) : Calls Try.prog 37 #[.agg #[.bool true, .bool true, .bool false, .bool b3, .bool b4, .bool b5, .bool b6, .bool b7, .bool b8, .bool b9, .bool b10, .bool b11, .int .u64 (u f)]] W fun r W' => r = .returned (.bool (rr true false b3 b4 b6 b7 b8 b9 b10 b11 c)) ∧ Below W.heap.size W W' := by
  cases b8 <;> cases b9 <;> cases c
  all_goals
    go_enter Try.func37, Try.ntmps37
    go_wp2_with (first | (go_at_call 35; (with_reducible refine (rleaf_x _ _ _ _ _ _ _ _ _ _ _ _ _ _).mono ?_); rintro e w' ⟨rfl, hb⟩))
    go_ret
    exact ⟨rfl, by repeat (with_reducible (first | assumption | exact Below.refl _ _ | refine Below.drew ?_ | refine below_drewN ?_ _ | refine Below.alloc ?_ (Nat.le_refl _) _ | (refine Below.trans ((Below.refl _ _).alloc (Nat.le_refl _) _) (Below.mono (by assumption) (by simp)))))⟩
set_option maxRecDepth 100000 in
set_option maxHeartbeats 4000000 in
theorem rr3 (b3 b4 b5 b6 b7 b8 b9 b10 b11 : Bool) (f : BitVec 64) (W : World) (c : Bool) (_hc : decide ((17592186044416 : Int) ≤ u f) = c) : Calls Try.prog 37 #[.agg #[.bool true, .bool false, .bool true, .bool b3, .bool b4, .bool b5, .bool b6, .bool b7, .bool b8, .bool b9, .bool b10, .bool b11, .int .u64 (u f)]] W fun r W' => r = .returned (.bool (rr false true b3 b4 b6 b7 b8 b9 b10 b11 c)) ∧ Below W.heap.size W W' := by
  all_goals
    go_enter Try.func37, Try.ntmps37
    go_wp2_with (first | (go_at_call 35; (with_reducible refine (rleaf_x _ _ _ _ _ _ _ _ _ _ _ _ _ _).mono ?_); rintro e w' ⟨rfl, hb⟩))
    go_ret
    exact ⟨rfl, by repeat (with_reducible (first | assumption | exact Below.refl _ _ | refine Below.drew ?_ | refine below_drewN ?_ _ | refine Below.alloc ?_ (Nat.le_refl _) _ | (refine Below.trans ((Below.refl _ _).alloc (Nat.le_refl _) _) (Below.mono (by assumption) (by simp)))))⟩
set_option maxRecDepth 100000 in
set_option maxHeartbeats 4000000 in
theorem rr4 (b3 b4 b5 b6 b7 b9 b10 b11 : Bool) (f : BitVec 64) (W : World) (c : Bool) (_hc : decide ((17592186044416 : Int) ≤ u f) = c) : Calls Try.prog 37 #[.agg #[.bool true, .bool false, .bool false, .bool b3, .bool b4, .bool b5, .bool b6, .bool b7, .bool true, .bool b9, .bool b10, .bool b11, .int .u64 (u f)]] W fun r W' => r = .returned (.bool (rr false false b3 b4 b6 b7 true b9 b10 b11 c)) ∧ Below W.heap.size W W' := by
  all_goals
    go_enter Try.func37, Try.ntmps37
    go_wp2_with (first | (go_at_call 35; (with_reducible refine (rleaf_x _ _ _ _ _ _ _ _ _ _ _ _ _ _).mono ?_); rintro e w' ⟨rfl, hb⟩))
    go_ret
    exact ⟨rfl, by repeat (with_reducible (first | assumption | exact Below.refl _ _ | refine Below.drew ?_ | refine below_drewN ?_ _ | refine Below.alloc ?_ (Nat.le_refl _) _ | (refine Below.trans ((Below.refl _ _).alloc (Nat.le_refl _) _) (Below.mono (by assumption) (by simp)))))⟩
set_option maxRecDepth 100000 in
set_option maxHeartbeats 4000000 in
theorem rr5 (b3 b4 b5 b6 b7 b10 b11 : Bool) (f : BitVec 64) (W : World) (c : Bool) (_hc : decide ((17592186044416 : Int) ≤ u f) = c) : Calls Try.prog 37 #[.agg #[.bool true, .bool false, .bool false, .bool b3, .bool b4, .bool b5, .bool b6, .bool b7, .bool false, .bool true, .bool b10, .bool b11, .int .u64 (u f)]] W fun r W' => r = .returned (.bool (rr false false b3 b4 b6 b7 false true b10 b11 c)) ∧ Below W.heap.size W W' := by
  all_goals
    go_enter Try.func37, Try.ntmps37
    go_wp2_with (first | (go_at_call 35; (with_reducible refine (rleaf_x _ _ _ _ _ _ _ _ _ _ _ _ _ _).mono ?_); rintro e w' ⟨rfl, hb⟩))
    go_ret
    exact ⟨rfl, by repeat (with_reducible (first | assumption | exact Below.refl _ _ | refine Below.drew ?_ | refine below_drewN ?_ _ | refine Below.alloc ?_ (Nat.le_refl _) _ | (refine Below.trans ((Below.refl _ _).alloc (Nat.le_refl _) _) (Below.mono (by assumption) (by simp)))))⟩
set_option maxRecDepth 100000 in
set_option maxHeartbeats 4000000 in
theorem rr6 (b3 b4 b5 b6 b7 b10 b11 : Bool) (f : BitVec 64) (W : World) (hc : decide ((17592186044416 : Int) ≤ u f) = true) : Calls Try.prog 37 #[.agg #[.bool true, .bool false, .bool false, .bool b3, .bool b4, .bool b5, .bool b6, .bool b7, .bool false, .bool false, .bool b10, .bool b11, .int .u64 (u f)]] W fun r W' => r = .returned (.bool (rr false false b3 b4 b6 b7 false false b10 b11 true)) ∧ Below W.heap.size W W' := by
  all_goals
    go_enter Try.func37, Try.ntmps37
    go_wp2_with (first | (go_at_call 35; (with_reducible refine (rleaf_x _ _ _ _ _ _ _ _ _ _ _ _ _ _).mono ?_); rintro e w' ⟨rfl, hb⟩))
    go_ret
    exact ⟨rfl, by repeat (with_reducible (first | assumption | exact Below.refl _ _ | refine Below.drew ?_ | refine below_drewN ?_ _ | refine Below.alloc ?_ (Nat.le_refl _) _ | (refine Below.trans ((Below.refl _ _).alloc (Nat.le_refl _) _) (Below.mono (by assumption) (by simp)))))⟩
set_option maxRecDepth 100000 in
set_option maxHeartbeats 4000000 in
theorem rr7 (b4 b5 b6 b7 b10 b11 : Bool) (f : BitVec 64) (W : World) (hc : decide ((17592186044416 : Int) ≤ u f) = false) : Calls Try.prog 37 #[.agg #[.bool true, .bool false, .bool false, .bool true, .bool b4, .bool b5, .bool b6, .bool b7, .bool false, .bool false, .bool b10, .bool b11, .int .u64 (u f)]] W fun r W' => r = .returned (.bool (rr false false true b4 b6 b7 false false b10 b11 false)) ∧ Below W.heap.size W W' := by
  all_goals
    go_enter Try.func37, Try.ntmps37
    go_wp2_with (first | (go_at_call 35; (with_reducible refine (rleaf_x _ _ _ _ _ _ _ _ _ _ _ _ _ _).mono ?_); rintro e w' ⟨rfl, hb⟩))
    go_ret
    exact ⟨rfl, by repeat (with_reducible (first | assumption | exact Below.refl _ _ | refine Below.drew ?_ | refine below_drewN ?_ _ | refine Below.alloc ?_ (Nat.le_refl _) _ | (refine Below.trans ((Below.refl _ _).alloc (Nat.le_refl _) _) (Below.mono (by assumption) (by simp)))))⟩
set_option maxRecDepth 100000 in
set_option maxHeartbeats 4000000 in
theorem rr8 (b5 b6 b7 b10 b11 : Bool) (f : BitVec 64) (W : World) (hc : decide ((17592186044416 : Int) ≤ u f) = false) : Calls Try.prog 37 #[.agg #[.bool true, .bool false, .bool false, .bool false, .bool true, .bool b5, .bool b6, .bool b7, .bool false, .bool false, .bool b10, .bool b11, .int .u64 (u f)]] W fun r W' => r = .returned (.bool (rr false false false true b6 b7 false false b10 b11 false)) ∧ Below W.heap.size W W' := by
  all_goals
    go_enter Try.func37, Try.ntmps37
    go_wp2_with fail
    (go_at_call 35; (with_reducible refine (rleaf_x _ _ _ _ _ _ _ _ _ _ _ _ _ _).mono ?_))
    rintro e w1 ⟨rfl, hb⟩
    obtain ⟨k1, f1⟩ := kept hb
    have z1 := hb.size
    simp at z1
    go_wp2_with fail
    go_ret
    exact ⟨rfl, by repeat (with_reducible (first | assumption | exact Below.refl _ _ | refine Below.drew ?_ | refine below_drewN ?_ _ | refine Below.alloc ?_ (Nat.le_refl _) _ | (refine Below.trans ((Below.refl _ _).alloc (Nat.le_refl _) _) (Below.mono (by assumption) (by simp)))))⟩
set_option maxRecDepth 100000 in
set_option maxHeartbeats 4000000 in
theorem rr9 (b5 b7 b10 b11 : Bool) (f : BitVec 64) (W : World) (hc : decide ((17592186044416 : Int) ≤ u f) = false) : Calls Try.prog 37 #[.agg #[.bool true, .bool false, .bool false, .bool false, .bool false, .bool b5, .bool true, .bool b7, .bool false, .bool false, .bool b10, .bool b11, .int .u64 (u f)]] W fun r W' => r = .returned (.bool (rr false false false false true b7 false false b10 b11 false)) ∧ Below W.heap.size W W' := by
  all_goals
    go_enter Try.func37, Try.ntmps37
    go_wp2_with fail
    (go_at_call 35; (with_reducible refine (rleaf_x _ _ _ _ _ _ _ _ _ _ _ _ _ _).mono ?_))
    rintro e w1 ⟨rfl, hb⟩
    obtain ⟨k1, f1⟩ := kept hb
    have z1 := hb.size
    simp at z1
    go_wp2_with fail
    go_ret
    exact ⟨rfl, by repeat (with_reducible (first | assumption | exact Below.refl _ _ | refine Below.drew ?_ | refine below_drewN ?_ _ | refine Below.alloc ?_ (Nat.le_refl _) _ | (refine Below.trans ((Below.refl _ _).alloc (Nat.le_refl _) _) (Below.mono (by assumption) (by simp)))))⟩
set_option maxRecDepth 100000 in
set_option maxHeartbeats 4000000 in
theorem rr10 (b5 b10 b11 : Bool) (f : BitVec 64) (W : World) (hc : decide ((17592186044416 : Int) ≤ u f) = false) : Calls Try.prog 37 #[.agg #[.bool true, .bool false, .bool false, .bool false, .bool false, .bool b5, .bool false, .bool true, .bool false, .bool false, .bool b10, .bool b11, .int .u64 (u f)]] W fun r W' => r = .returned (.bool (rr false false false false false true false false b10 b11 false)) ∧ Below W.heap.size W W' := by
  all_goals
    go_enter Try.func37, Try.ntmps37
    go_wp2_with fail
    (go_at_call 35; (with_reducible refine (rleaf_x _ _ _ _ _ _ _ _ _ _ _ _ _ _).mono ?_))
    rintro e w1 ⟨rfl, hb⟩
    obtain ⟨k1, f1⟩ := kept hb
    have z1 := hb.size
    simp at z1
    go_wp2_with fail
    go_ret
    exact ⟨rfl, by repeat (with_reducible (first | assumption | exact Below.refl _ _ | refine Below.drew ?_ | refine below_drewN ?_ _ | refine Below.alloc ?_ (Nat.le_refl _) _ | (refine Below.trans ((Below.refl _ _).alloc (Nat.le_refl _) _) (Below.mono (by assumption) (by simp)))))⟩
set_option maxRecDepth 100000 in
set_option maxHeartbeats 4000000 in
theorem rr11 (b5 b11 : Bool) (f : BitVec 64) (W : World) (hc : decide ((17592186044416 : Int) ≤ u f) = false) : Calls Try.prog 37 #[.agg #[.bool true, .bool false, .bool false, .bool false, .bool false, .bool b5, .bool false, .bool false, .bool false, .bool false, .bool true, .bool b11, .int .u64 (u f)]] W fun r W' => r = .returned (.bool (rr false false false false false false false false true b11 false)) ∧ Below W.heap.size W W' := by
  all_goals
    go_enter Try.func37, Try.ntmps37
    go_wp2_with fail
    (go_at_call 35; (with_reducible refine (rleaf_x _ _ _ _ _ _ _ _ _ _ _ _ _ _).mono ?_))
    rintro e w1 ⟨rfl, hb⟩
    obtain ⟨k1, f1⟩ := kept hb
    have z1 := hb.size
    simp at z1
    go_wp2_with fail
    go_ret
    exact ⟨rfl, by repeat (with_reducible (first | assumption | exact Below.refl _ _ | refine Below.drew ?_ | refine below_drewN ?_ _ | refine Below.alloc ?_ (Nat.le_refl _) _ | (refine Below.trans ((Below.refl _ _).alloc (Nat.le_refl _) _) (Below.mono (by assumption) (by simp)))))⟩
set_option maxRecDepth 100000 in
set_option maxHeartbeats 4000000 in
theorem rr12 (b5 : Bool) (f : BitVec 64) (W : World) (hc : decide ((17592186044416 : Int) ≤ u f) = false) : Calls Try.prog 37 #[.agg #[.bool true, .bool false, .bool false, .bool false, .bool false, .bool b5, .bool false, .bool false, .bool false, .bool false, .bool false, .bool true, .int .u64 (u f)]] W fun r W' => r = .returned (.bool (rr false false false false false false false false false true false)) ∧ Below W.heap.size W W' := by
  all_goals
    go_enter Try.func37, Try.ntmps37
    go_wp2_with fail
    (go_at_call 35; (with_reducible refine (rleaf_x _ _ _ _ _ _ _ _ _ _ _ _ _ _).mono ?_))
    rintro e w1 ⟨rfl, hb⟩
    obtain ⟨k1, f1⟩ := kept hb
    have z1 := hb.size
    simp at z1
    go_wp2_with fail
    go_ret
    exact ⟨rfl, by repeat (with_reducible (first | assumption | exact Below.refl _ _ | refine Below.drew ?_ | refine below_drewN ?_ _ | refine Below.alloc ?_ (Nat.le_refl _) _ | (refine Below.trans ((Below.refl _ _).alloc (Nat.le_refl _) _) (Below.mono (by assumption) (by simp)))))⟩
set_option maxRecDepth 100000 in
set_option maxHeartbeats 4000000 in
theorem rr13 (b5 : Bool) (f : BitVec 64) (W : World) (hc : decide ((17592186044416 : Int) ≤ u f) = false) : Calls Try.prog 37 #[.agg #[.bool true, .bool false, .bool false, .bool false, .bool false, .bool b5, .bool false, .bool false, .bool false, .bool false, .bool false, .bool false, .int .u64 (u f)]] W fun r W' => r = .returned (.bool (rr false false false false false false false false false false false)) ∧ Below W.heap.size W W' := by
  all_goals
    go_enter Try.func37, Try.ntmps37
    go_wp2_with fail
    (go_at_call 35; (with_reducible refine (rleaf_x _ _ _ _ _ _ _ _ _ _ _ _ _ _).mono ?_))
    rintro e w1 ⟨rfl, hb⟩
    obtain ⟨k1, f1⟩ := kept hb
    have z1 := hb.size
    simp at z1
    go_wp2_with fail
    go_ret
    exact ⟨rfl, by repeat (with_reducible (first | assumption | exact Below.refl _ _ | refine Below.drew ?_ | refine below_drewN ?_ _ | refine Below.alloc ?_ (Nat.le_refl _) _ | (refine Below.trans ((Below.refl _ _).alloc (Nat.le_refl _) _) (Below.mono (by assumption) (by simp)))))⟩
set_option maxRecDepth 100000 in
set_option maxHeartbeats 4000000 in
theorem rr0 (b1 b2 b3 b4 b5 b6 b7 b8 b9 b10 b11 : Bool) (f : BitVec 64) (W : World) (c : Bool) (_hc : decide ((17592186044416 : Int) ≤ u f) = c) : Calls Try.prog 37 #[.agg #[.bool false, .bool b1, .bool b2, .bool b3, .bool b4, .bool b5, .bool b6, .bool b7, .bool b8, .bool b9, .bool b10, .bool b11, .int .u64 (u f)]] W fun r W' => r = .returned (.bool true) ∧ Below W.heap.size W W' := by
  all_goals
    go_enter Try.func37, Try.ntmps37
    go_wp2_with (first | (go_at_call 35; (with_reducible refine (rleaf_x _ _ _ _ _ _ _ _ _ _ _ _ _ _).mono ?_); rintro e w' ⟨rfl, hb⟩))
    go_ret
    exact ⟨rfl, by repeat (with_reducible (first | assumption | exact Below.refl _ _ | refine Below.drew ?_ | refine below_drewN ?_ _ | refine Below.alloc ?_ (Nat.le_refl _) _ | (refine Below.trans ((Below.refl _ _).alloc (Nat.le_refl _) _) (Below.mono (by assumption) (by simp)))))⟩
theorem rright_x (b1 b2 b3 b4 b5 b6 b7 b8 b9 b10 b11 : Bool) (f : BitVec 64) (W : World) (c : Bool) (hc : decide ((17592186044416 : Int) ≤ u f) = c) : Calls Try.prog 37 #[.agg #[.bool true, .bool b1, .bool b2, .bool b3, .bool b4, .bool b5, .bool b6, .bool b7, .bool b8, .bool b9, .bool b10, .bool b11, .int .u64 (u f)]] W fun r W' => r = .returned (.bool (rr b1 b2 b3 b4 b6 b7 b8 b9 b10 b11 c)) ∧ Below W.heap.size W W' := by
  cases b1
  · cases b2
    · cases b8
      · cases b9
        · cases c
          · cases b3
            · cases b4
              · cases b6
                · cases b7
                  · cases b10
                    · cases b11
                      · exact rr13 _ f W hc
                      · exact rr12 _ f W hc
                    · exact rr11 _ _ f W hc
                  · exact rr10 _ _ _ f W hc
                · exact rr9 _ _ _ _ f W hc
              · exact rr8 _ _ _ _ _ f W hc
            · exact rr7 _ _ _ _ _ _ f W hc
          · exact rr6 _ _ _ _ _ _ _ f W hc
        · exact rr5 _ _ _ _ _ _ _ f W c hc
      · exact rr4 _ _ _ _ _ _ _ _ f W c hc
    · exact rr3 _ _ _ _ _ _ _ _ _ f W c hc
  · cases b2
    · exact rr2 _ _ _ _ _ _ _ _ _ f W c hc
    · exact rr1 _ _ _ _ _ _ _ _ _ f W c hc
theorem rright_c (e : Nat → Bool) (f : BitVec 64) (W : World) : Calls Try.prog 37 #[.agg (cellsB e f)] W fun r W' => r = .returned (.bool (rightB e f)) ∧ Below W.heap.size W W' := by
  have hm : decide (u (maskI 44) < u f) = decide ((17592186044416 : Int) ≤ u f) := by
    have : u (maskI 44) = 17592186044415 := by decide
    rw [this]; exact decide_eq_decide.2 (by omega)
  unfold cellsB
  cases h0 : e 0
  · refine (rr0 _ _ _ _ _ _ _ _ _ _ _ f W _ rfl).mono fun r w' ⟨he, hb⟩ => ⟨?_, hb⟩
    rw [he]; simp [rightB, h0]
  · refine (rright_x _ _ _ _ _ _ _ _ _ _ _ f W _ rfl).mono fun r w' ⟨he, hb⟩ => ⟨?_, hb⟩
    rw [he]
    unfold rightB wrongB leafB bareB rr
    rw [h0, hm]
    generalize decide ((17592186044416 : Int) ≤ u f) = c
    cases e 1 <;> cases e 2 <;> cases e 3 <;> cases e 8 <;> cases e 9 <;> cases c <;> simp
end Go.Proofs.Ytfhigpmpngfkbaa.Pte
