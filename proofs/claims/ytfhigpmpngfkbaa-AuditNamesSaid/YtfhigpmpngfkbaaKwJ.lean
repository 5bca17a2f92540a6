/- Steps of a walk: where ways come together. No program in sight. -/
import Derived.Test.YtfhigpmpngfkbaaHeld
namespace Go.Proofs.Ytfhigpmpngfkbaa.KwJ
open Go Go.RowKit
section
variable {P : Program} {Q : Exit → Act → World → Prop} {a : Act} {w : World}
/-- The slots of a list, and a frame that has them as they are. -/
def ys (a : Act) (l : List Nat) : Nat → Value := fun j => a.tmps.getD (l.getD j 0) undef
def Fr (l : List Nat) (F : (Nat → Value) → Act) (a : Act) : Prop := a = F (ys a l)
theorem mkFr {l : List Nat} {F : (Nat → Value) → Act} {a : Act} (h : a = F (ys a l)) : Fr l F a := h
theorem fr {l : List Nat} {F : (Nat → Value) → Act} {a : Act} (h : Fr l F a) : ∃ y, a = F y := ⟨_, h⟩
theorem cutS {c : Code} {next : Act → World → Prop} (I : Act → World → Prop) (h : c.wp P (Exit.then I Q) a w) (h2 : ∀ a w, I a w → next a w) : c.wp P (Exit.then next Q) a w :=
  wp_mono h fun e a w h => by cases e <;> first | exact h2 _ _ h | exact h
theorem beq_of {x a c : Int} {r : Bool} (h : (x == a) = true) (hc : (a == c) = r) : (x == c) = r := by rw [eq_of_beq h]; exact hc
theorem bne_of {x a : Int} {r : Bool} (h : (x == a) = r) : (x != a) = !r := by rw [bne, h]
end
end Go.Proofs.Ytfhigpmpngfkbaa.KwJ
