/- A slice of whole numbers, or of structs of whole numbers, that came in: its cells, one by one. No condition. -/
import Derived.Test.YtfhigpmpngfkbaaKOpen
import Derived.Deep.Slices
import Derived.Deep.Fields
import Derived.ChangeSame
import Derived.ChangeOld
namespace Go.Proofs.Ytfhigpmpngfkbaa.Opens
open Go.ChangeShapes Go.WideShapes Go.Deep Go.Proofs.Ytfhigpmpngfkbaa.Bits

/-- A value reads as data. -/
def Readable (P : Program) (W : World) (t : TypeId) (v : Value) : Prop :=
  ∃ (H : Type) (enc : TypeId × Value → H) (d : DataW H) (p : List MemPlace), DataW.Trod enc P W 0 (fun _ => true) true t v d p
/-- The kinds of the cells of an element: a whole number, or a struct of whole numbers. -/
def Flat (P : Program) (e : TypeId) (ks : List IntKind) : Prop :=
  P.cellsOf e = ks.length ∧ ((∃ k, ks = [k] ∧ P.underlying e = some (.int k)) ∨
    ∃ fs, P.underlying e = some (.struct fs) ∧ ∀ j k, ks[j]? = some k → ∃ f : Field, fs[j]? = some f ∧ f.offset = j ∧ P.underlying f.type = some (.int k) ∧ P.cellsOf f.type = 1)
theorem flat_cells {P : Program} {W : World} {e : TypeId} {ks : List IntKind} (hf : Flat P e ks) {H : Type} {enc : TypeId × Value → H} {base fuel : Nat} {spare : Nat → Bool} {held : Bool} {cs : List Value} {x : DataW H × List MemPlace}
    (h : DataW.trod enc P W base spare held fuel e cs = some x) (j : Nat) (k : IntKind) (hj : ks[j]? = some k) : ∃ z, cs[j]? = some (.int k z) ∧ (Lit.int k z).wf = true := by
  obtain ⟨hc, hf | hf⟩ := hf
  · obtain ⟨k', rfl, hu⟩ := hf
    obtain ⟨n, rfl, _, hw⟩ := DataW.trod_int hu h
    match j, hj with
    | 0, hj => cases hj; exact ⟨n, rfl, hw⟩
    | j + 1, hj => simp at hj
  · obtain ⟨fs, hu, hfs⟩ := hf
    obtain ⟨f, h1, h2, h3, h4⟩ := hfs j k hj
    obtain ⟨xs, n, _, _, hl, hxl, hat⟩ := DataW.trod_struct hu h
    have hjl : j < cs.length := by rw [hl, hc]; exact (List.getElem?_eq_some_iff.1 hj).1
    have hg := hat j f h1
    rw [h2, h4, List.drop_eq_getElem_cons hjl] at hg
    have hjx : j < xs.length := by rw [hxl]; exact (Array.getElem?_eq_some_iff.1 h1).1
    rw [List.getElem?_eq_getElem hjx] at hg
    obtain ⟨z, hz, _, hw⟩ := DataW.trod_int h3 hg
    refine ⟨z, ?_, hw⟩
    rw [List.getElem?_eq_getElem hjl]
    simp only [List.take_succ_cons, List.take_zero, List.cons.injEq, and_true] at hz
    rw [hz]
/-- What a slice's cells are. -/
def CellsAt (W : World) (A : Option Addr) (n sz : Nat) (c : Nat → Nat → Value) : Prop :=
  0 < n → ∃ b off, A = some ⟨b, off, none⟩ ∧ b < W.heap.size ∧ ∀ i j, i < n → j < sz → W.cell? ⟨b, off + (i * sz + j), none⟩ = some (c i j)
theorem open_cells {P : Program} {W : World} {t e : TypeId} {ks : List IntKind} {v : Value} (ht : P.underlying t = some (.slice e)) (hf : Flat P e ks) (hz : 0 < ks.length) {r : Reach} {b0 : Nat} (ho : Value.okWide P W r b0 t v) (h : Readable P W t v) :
    ∃ A n cap, v = .slice A n cap ∧ n ≤ cap ∧ cap ≤ maxLen ∧
      ∃ z : Nat → Nat → Int, (∀ i j k, i < n → ks[j]? = some k → (Lit.int k (z i j)).wf = true) ∧
        CellsAt W A n ks.length fun i j => .int (ks.getD j .i64) (z i j) := by
  obtain ⟨H, enc, d, p, hT⟩ := h
  obtain ⟨fuel, hF⟩ := hT
  obtain ⟨A0, n0, c0, rfl⟩ := okWide_slice ht ho
  rcases open_slice ht hF with ⟨hcs, _⟩ | ⟨a, len, cap, m, n, D, Pl, hcs, _, hl, hm, hmm, _, hall⟩
  · simp [Value.cells] at hcs
    obtain ⟨rfl, rfl, rfl⟩ := hcs
    exact ⟨none, 0, 0, rfl, Nat.le_refl _, Nat.zero_le _, fun _ _ => 0, fun i _ _ hi => absurd hi (by omega), fun h => absurd h (by omega)⟩
  · simp [Value.cells] at hcs
    obtain ⟨rfl, rfl, rfl⟩ := hcs
    have hmc : m = c0 := by simpa using hmm
    have hcell : ∀ i j, i < n0 → j < ks.length → ∃ z, (Lit.int (ks.getD j .i64) z).wf = true ∧ W.cell? (a.add (i * ks.length + j)) = some (.int (ks.getD j .i64) z) := by
      intro i j hi hj
      obtain ⟨cs', hc, ht'⟩ := hall i (by omega)
      rw [hf.1] at hc
      obtain ⟨_, hcl, hat⟩ := World.cells?_some hc
      have hk : ks[j]? = some (ks.getD j .i64) := by rw [List.getD_eq_getElem?_getD, List.getElem?_eq_getElem hj]; rfl
      obtain ⟨z, hz, hw⟩ := flat_cells hf ht' j _ hk
      refine ⟨z, hw, ?_⟩
      rw [← Go.Deep.add_add, hat j hj, hz]
    have hch : ∀ i j, ∃ z, i < n0 → j < ks.length → (Lit.int (ks.getD j .i64) z).wf = true ∧ W.cell? (a.add (i * ks.length + j)) = some (.int (ks.getD j .i64) z) := by
      intro i j
      by_cases h : i < n0 ∧ j < ks.length
      · obtain ⟨z, hz⟩ := hcell i j h.1 h.2; exact ⟨z, fun _ _ => hz⟩
      · exact ⟨0, fun h1 h2 => absurd ⟨h1, h2⟩ h⟩
    obtain ⟨z, hzz⟩ : ∃ z : Nat → Nat → Int, ∀ i j, i < n0 → j < ks.length → (Lit.int (ks.getD j .i64) (z i j)).wf = true ∧ W.cell? (a.add (i * ks.length + j)) = some (.int (ks.getD j .i64) (z i j)) :=
      ⟨fun i j => Classical.choose (hch i j), fun i j => Classical.choose_spec (hch i j)⟩
    refine ⟨some a, n0, c0, rfl, hl, hm, z, fun i j k hi hk => ?_, fun hn => ?_⟩
    · have hj : j < ks.length := (List.getElem?_eq_some_iff.1 hk).1
      obtain rfl : ks.getD j .i64 = k := by rw [List.getD_eq_getElem?_getD, hk]; rfl
      exact (hzz i j hi hj).1
    · have h0 := (hzz 0 0 hn hz).2
      have e0 : a.add (0 * ks.length + 0) = a := by simp [Addr.add]
      rw [e0] at h0
      have hlt : a.block < W.heap.size := World.block_lt_of_cell? W _ h0
      have hspot : a.spot = none := World.cell?_spot h0
      obtain ⟨b, off, spot⟩ := a
      subst hspot
      refine ⟨b, off, rfl, hlt, fun i j hi hj => ?_⟩
      have := (hzz i j hi hj).2
      rwa [Go.WideShapes.add_plain] at this
end Go.Proofs.Ytfhigpmpngfkbaa.Opens
