/- A drawn region whose reads are taken first and whose other operations come one at a time. No program in sight. -/
import Derived.Test.YtfhigpmpngfkbaaKw
import Derived.OrdersHeld
namespace Go.Proofs.Ytfhigpmpngfkbaa.Held
open Go Go.RowKit Go.Proofs.Ytfhigpmpngfkbaa.Kw
section
variable {P : Program} {ops : Array Oper} {Q : Exit → Act → World → Prop} {S : World → Prop} {a : Act} {w : World} {fuel : Nat} {listed : Array Bool} {oi : Oper}
theorem start {id : Nat} (S : World → Prop) (hm : P.follows .mixedOrders = true) (h : wpAnyH P .any ops (NoPanic Q) S ops.size (Array.replicate ops.size false) a w.drew) : (Code.region id ops true).wp P Q a w :=
  wp_region_noPanic (wp_region_held hm h)
theorem take (i : Nat) (s : Sem Next) (v : Value) (hi : ops[i]? = some oi) (hs : Region.noSelect ops = true) (hf : Region.free .any ops listed i = true) (hr : (Region.ready .any ops listed).contains i = true)
    (hg : Region.wanted oi (yielded ops a.tmps) = true) (hx : execOp a.eval oi = s) (h : ∀ w, S w → s.run P w = .ok (.value v) w) (hS : S w)
    (hk : wpAnyH P .any ops (NoPanic Q) S fuel (listed.setIfInBounds i true) (a.put oi.dst v) w) : wpAnyH P .any ops (NoPanic Q) S (fuel + 1) listed a w :=
  wpAnyH_take hi hs hf hr (fun _ _ _ h => h) (.inl ⟨hg, fun w hw => by rw [hx]; exact h w hw⟩) hS hk
theorem takeP (i : Nat) (v : Value) (hi : ops[i]? = some oi) (hs : Region.noSelect ops = true) (hf : Region.free .any ops listed i = true) (hr : (Region.ready .any ops listed).contains i = true)
    (hg : Region.wanted oi (yielded ops a.tmps) = true) (h : ∀ w, (execOp a.eval oi).run P w = .ok (.value v) w) (hS : S w)
    (hk : wpAnyH P .any ops (NoPanic Q) S fuel (listed.setIfInBounds i true) (a.put oi.dst v) w) : wpAnyH P .any ops (NoPanic Q) S (fuel + 1) listed a w :=
  wpAnyH_take hi hs hf hr (fun _ _ _ h => h) (.inl ⟨hg, fun w _ => h w⟩) hS hk
theorem takeS (i : Nat) (hi : ops[i]? = some oi) (hs : Region.noSelect ops = true) (hf : Region.free .any ops listed i = true) (hr : (Region.ready .any ops listed).contains i = true)
    (hg : Region.wanted oi (yielded ops a.tmps) = false) (hS : S w)
    (hk : wpAnyH P .any ops (NoPanic Q) S fuel (listed.setIfInBounds i true) (a.put oi.dst undef) w) : wpAnyH P .any ops (NoPanic Q) S (fuel + 1) listed a w :=
  wpAnyH_take hi hs hf hr (fun _ _ _ h => h) (.inr ⟨hg, rfl⟩) hS hk
theorem one (i : Nat) (hi : ops[i]? = some oi) (hr : Region.ready .any ops listed = [i]) (hg : Region.wanted oi (yielded ops a.tmps) = true)
    (h : ∀ K : Act → World → Prop, (∀ a' w', S w' ∧ wpAnyH P .any ops (NoPanic Q) S fuel (listed.setIfInBounds i true) a' w' → K a' w') → oi.wp P a w K (NoPanic Q)) : wpAnyH P .any ops (NoPanic Q) S (fuel + 1) listed a w :=
  wpAnyH_all hr (by simp) fun j hj => by
    obtain rfl := List.mem_singleton.1 hj
    unfold wpOp
    rw [hi]
    simp only [hg, if_true]
    exact .inl (h _ fun a' w' h' => h')
theorem oneVal (i : Nat) (s : Sem Next) (v : Value) (w' : World) (hi : ops[i]? = some oi) (hr : Region.ready .any ops listed = [i]) (hg : Region.wanted oi (yielded ops a.tmps) = true) (hx : execOp a.eval oi = s) (h : s.run P w = .ok (.value v) w')
    (hS : S w') (hk : wpAnyH P .any ops (NoPanic Q) S fuel (listed.setIfInBounds i true) (a.put oi.dst v) w') : wpAnyH P .any ops (NoPanic Q) S (fuel + 1) listed a w :=
  one i hi hr hg fun K hK => by unfold Oper.wp; rw [hx, h]; exact hK _ _ ⟨hS, hk⟩
theorem oneCall {ι : Type} (i : Nat) (v : ι → Value) (f : FuncId) (args : Array Value) {R : ι → World → Prop} (hi : ops[i]? = some oi) (hr : Region.ready .any ops listed = [i]) (hg : Region.wanted oi (yielded ops a.tmps) = true) (h : (execOp a.eval oi).run P w = .ok (.enter f args) w)
    (hc : Calls P f args w fun e w' => ∃ x, e = .returned (v x) ∧ R x w')
    (hk : ∀ x w', R x w' → S w' ∧ wpAnyH P .any ops (NoPanic Q) S fuel (listed.setIfInBounds i true) (a.put oi.dst (v x)) w') : wpAnyH P .any ops (NoPanic Q) S (fuel + 1) listed a w :=
  one i hi hr hg fun K hK => by
    unfold Oper.wp; rw [h]
    refine Calls.mono hc fun e w' ⟨x, he, hm⟩ => ?_
    subst he
    exact hK _ _ (hk x w' hm)
theorem done (hr : Region.ready .any ops listed = []) (h : Q .normal a w) : wpAnyH P .any ops (NoPanic Q) S fuel listed a w :=
  wpAnyH_done hr (NoPanic.normal h) fuel
theorem mem_tail {SS : List Nat} {W w : World} {p : Nat × Array Value × TypeId} {l : List (Nat × Array Value × TypeId)} (h : Mem SS W w (p :: l)) : Mem SS W w l :=
  ⟨h.os, h.tape, h.output, h.size, h.kept, fun q hq => h.at_ q (List.mem_cons_of_mem _ hq), fun q hq => h.own q (List.mem_cons_of_mem _ hq), (List.pairwise_cons.1 h.apart).2⟩
theorem oneStore (i : Nat) {SS : List Nat} {W : World} {l : List (Nat × Array Value × TypeId)} (j : Nat) {b : Nat} {cs : Array Value} {t : TypeId} (s : Sem Next) (cs' : Array Value) (M : Mem SS W w l) (hj : l[j]? = some (b, cs, t)) (hi : ops[i]? = some oi) (hr : Region.ready .any ops listed = [i]) (hg : Region.wanted oi (yielded ops a.tmps) = true)
    (hx : execOp a.eval oi = s) (h : w.heap[b]? = some (.cells cs t (0, 0)) → s.run P w = .ok .skip (w.setRow b cs'))
    (hk : ∀ w', Mem SS W w' (l.set j (b, cs', t)) → S w' ∧ wpAnyH P .any ops (NoPanic Q) S fuel (listed.setIfInBounds i true) (a.put oi.dst undef) w') : wpAnyH P .any ops (NoPanic Q) S (fuel + 1) listed a w :=
  one i hi hr hg fun K hK => by unfold Oper.wp; rw [hx, h (M.get j hj)]; exact hK _ _ (hk _ (M.change j hj cs' t (mem_setRow (M.get j hj) cs')))
theorem oneStoreCell (i : Nat) {SS : List Nat} {W : World} {l : List (Nat × Array Value × TypeId)} (j : Nat) {b : Nat} {cs : Array Value} {t : TypeId} (ty : TypeId) (k : Nat) (v : Value) (cs' : Array Value) (M : Mem SS W w l) (hj : l[j]? = some (b, cs, t)) (hi : ops[i]? = some oi) (hr : Region.ready .any ops listed = [i]) (hg : Region.wanted oi (yielded ops a.tmps) = true)
    (hx : execOp a.eval oi = stS ty (.pointer (some ⟨b, k, none⟩)) v) (hle : k < cs.size) (hz : (P.info? ty).map (·.size) = some 1) (hv : v.cells = #[v]) (h1 : v.oneCell' = true) (e : cs.setIfInBounds k v = cs')
    (hk : ∀ w', Mem SS W w' (l.set j (b, cs', t)) → S w' ∧ wpAnyH P .any ops (NoPanic Q) S fuel (listed.setIfInBounds i true) (a.put oi.dst undef) w') : wpAnyH P .any ops (NoPanic Q) S (fuel + 1) listed a w :=
  oneStore i j _ cs' M hj hi hr hg hx (fun h => by rw [← e]; exact st_cell ty k v h hle hz hv h1) hk
/-! Calls that make one block that is handed back. -/
variable {SS : List Nat} {W w' : World} {l : List (Nat × Array Value × TypeId)}
theorem mem_new (h : Mem SS W w l) {B : Nat} {cs : Array Value} {t : TypeId} (hc : Mem [] w w' [(B, cs, t)]) : Mem SS W w' ((B, cs, t) :: l) := by
  have hB : w.heap.size ≤ B := by
    rcases hc.own _ List.mem_cons_self with h1 | h1
    · cases h1
    · exact h1
  have h2 := h.call hc.drop
  refine ⟨h2.os, h2.tape, h2.output, h2.size, h2.kept, fun p hp => ?_, fun p hp => ?_, List.pairwise_cons.2 ⟨fun p hp => ?_, h.apart⟩⟩
  · rcases List.mem_cons.1 hp with rfl | hp
    · exact hc.at_ _ List.mem_cons_self
    · exact h2.at_ p hp
  · rcases List.mem_cons.1 hp with rfl | hp
    · exact .inr (Nat.le_trans h.size hB)
    · exact h.own p hp
  · have := lt_of (h.at_ p hp)
    show B ≠ p.1
    omega
theorem mem_of {W w : World} {B : Nat} {cs : Array Value} {t : TypeId} {l2 : List (Nat × Array Value × TypeId)} (h : Mem SS W w l2) (i : Nat) (hi : l2[i]? = some (B, cs, t)) : Mem SS W w [(B, cs, t)] :=
  ⟨h.os, h.tape, h.output, h.size, h.kept, fun p hp => (by obtain rfl := List.mem_singleton.1 hp; exact h.get i hi), fun p hp => (by obtain rfl := List.mem_singleton.1 hp; exact h.own _ (List.mem_of_getElem? hi)), List.pairwise_singleton _ _⟩
theorem callN {o : Oper} {rest : List Oper} {Q : Exit → Act → World → Prop} (v : Nat → Value) (f : FuncId) (args : Array Value) (cs : Array Value) (t : TypeId) (M : Mem SS W w l) (hg : Region.wanted o (yielded ops a.tmps) = true) (h : (execOp a.eval o).run P w = .ok (.enter f args) w)
    (hc : Calls P f args w fun e w' => ∃ B, e = .returned (v B) ∧ Mem [] w w' [(B, cs, t)]) (hr : ∀ w' B, Mem SS W w' ((B, cs, t) :: l) → wpList P ops Q rest (a.put o.dst (v B)) w') : wpList P ops Q (o :: rest) a w :=
  wl hg fun K hK => by
    unfold Oper.wp; rw [h]
    refine Calls.mono hc fun e w' ⟨B, he, hm⟩ => ?_
    subst he
    exact hK _ _ (hr _ B (mem_new M hm))
theorem pairwise_set {l : List (Nat × Array Value × TypeId)} (h : l.Pairwise (fun p q => p.1 ≠ q.1)) {i : Nat} {b : Nat} {x : Array Value × TypeId} {y : Array Value × TypeId} (hi : l[i]? = some (b, x)) : (l.set i (b, y)).Pairwise (fun p q => p.1 ≠ q.1) := by
  rw [List.pairwise_iff_getElem] at h ⊢
  intro p q hp hq hpq
  rw [List.length_set] at hp hq
  obtain ⟨hi', hi2⟩ := List.getElem?_eq_some_iff.1 hi
  have h1 := h p q hp hq hpq
  rw [List.getElem_set, List.getElem_set]
  split
  · rename_i e; subst e
    rw [hi2] at h1
    split
    · rename_i e2; omega
    · exact h1
  · split
    · rename_i e2; subst e2; rw [hi2] at h1; exact h1
    · exact h1
/-- Two blocks of the list have changed, no other one. -/
theorem change2 (h : Mem SS W w l) (i j : Nat) (hij : i ≠ j) {b c : Nat} {cs ds : Array Value} {t u : TypeId} (hi : l[i]? = some (b, cs, t)) (hj : l[j]? = some (c, ds, u)) (cs' ds' : Array Value)
    (hc : Mem [b, c] w w' [(b, cs', t), (c, ds', u)]) : Mem SS W w' ((l.set i (b, cs', t)).set j (c, ds', u)) := by
  have ob := h.own _ (List.mem_of_getElem? hi)
  have oc := h.own _ (List.mem_of_getElem? hj)
  have hj2 : (l.set i (b, cs', t))[j]? = some (c, ds, u) := by rw [List.getElem?_set_ne hij]; exact hj
  refine ⟨hc.os.trans h.os, hc.tape.trans h.tape, hc.output.trans h.output, Nat.le_trans h.size hc.size, fun k hk hS => ?_, fun p hp => ?_, fun p hp => ?_, pairwise_set (pairwise_set h.apart hi) hj2⟩
  · have nb : k ≠ b := by
      rintro rfl
      rcases ob with h1 | h1
      · exact hS h1
      · exact absurd hk (Nat.not_lt.2 h1)
    have nc : k ≠ c := by
      rintro rfl
      rcases oc with h1 | h1
      · exact hS h1
      · exact absurd hk (Nat.not_lt.2 h1)
    exact (hc.kept k (Nat.lt_of_lt_of_le hk h.size) (by simp [nb, nc])).trans (h.kept k hk hS)
  · rcases set_mem hp with rfl | ⟨m, hm, hpm⟩
    · exact hc.at_ _ (by simp)
    · have hp' := List.mem_of_getElem? hpm
      rcases set_mem hp' with rfl | ⟨m2, hm2, hp2⟩
      · exact hc.at_ _ (by simp)
      · have hpl := List.mem_of_getElem? hp2
        have nb : p.1 ≠ b := apart_of h.apart hm2 hp2 hi
        have nc : p.1 ≠ c := by
          by_cases e : m2 = j
          · subst e
            by_cases e2 : m = i
            · subst e2
              rw [List.getElem?_set_self (by
                obtain ⟨h1, _⟩ := List.getElem?_eq_some_iff.1 hi
                exact h1)] at hpm
              injection hpm with hpm
              rw [← hpm]
              exact apart_of h.apart hij hi hj
            · rw [List.getElem?_set_ne (Ne.symm e2)] at hpm
              exact apart_of h.apart hm hpm hj
          · exact apart_of h.apart e hp2 hj
        exact (hc.kept p.1 (lt_of (h.at_ p hpl)) (by simp [nb, nc])).trans (h.at_ p hpl)
  · rcases set_mem hp with rfl | ⟨m, hm, hp⟩
    · exact oc
    · rcases set_mem (List.mem_of_getElem? hp) with rfl | ⟨m2, hm2, hp2⟩
      · exact ob
      · exact h.own p (List.mem_of_getElem? hp2)
theorem begin2 {W : World} {b c : Nat} {cs ds : Array Value} {t u : TypeId} (h : W.heap[b]? = some (.cells cs t (0, 0))) (h2 : W.heap[c]? = some (.cells ds u (0, 0))) (hne : b ≠ c) : Mem [b, c] W W [(b, cs, t), (c, ds, u)] :=
  ⟨rfl, rfl, rfl, Nat.le_refl _, fun _ _ _ => rfl, fun p hp => (by
    rcases List.mem_cons.1 hp with rfl | hp
    · exact h
    · obtain rfl := List.mem_singleton.1 hp; exact h2), fun p hp => (by
    rcases List.mem_cons.1 hp with rfl | hp
    · exact .inl (by simp)
    · obtain rfl := List.mem_singleton.1 hp; exact .inl (by simp)), List.pairwise_cons.2 ⟨fun p hp => (by obtain rfl := List.mem_singleton.1 hp; exact hne), List.pairwise_singleton _ _⟩⟩
theorem callC2 {o : Oper} {rest : List Oper} {Q : Exit → Act → World → Prop} (v : Value) (f : FuncId) (args : Array Value) (i j : Nat) {b c : Nat} {cs ds : Array Value} {t u : TypeId} (cs' ds' : Array Value) (M : Mem SS W w l) (hij : i ≠ j) (hi : l[i]? = some (b, cs, t)) (hj : l[j]? = some (c, ds, u))
    (hg : Region.wanted o (yielded ops a.tmps) = true) (h : (execOp a.eval o).run P w = .ok (.enter f args) w)
    (hc : w.heap[b]? = some (.cells cs t (0, 0)) → w.heap[c]? = some (.cells ds u (0, 0)) → b ≠ c → Calls P f args w fun e w' => e = .returned v ∧ Mem [b, c] w w' [(b, cs', t), (c, ds', u)])
    (hr : ∀ w', Mem SS W w' ((l.set i (b, cs', t)).set j (c, ds', u)) → wpList P ops Q rest (a.put o.dst v) w') : wpList P ops Q (o :: rest) a w :=
  wl hg fun K hK => by
    unfold Oper.wp; rw [h]
    refine Calls.mono (hc (M.get i hi) (M.get j hj) (apart_of M.apart hij hi hj)) fun e w' ⟨he, hm⟩ => ?_
    subst he
    exact hK _ _ (hr _ (change2 M i j hij hi hj cs' ds' hm))
/-- A block that was only read. -/
theorem ro_drop {b : Nat} {cs : Array Value} {t : TypeId} (h : Mem [b] W w l) (i : Nat) (hi : l[i]? = some (b, cs, t)) (h0 : W.heap[b]? = some (.cells cs t (0, 0))) : Mem [] W w [] :=
  ⟨h.os, h.tape, h.output, h.size, fun k hk _ => (by
    by_cases e : k = b
    · subst e; rw [h.get i hi, h0]
    · exact h.kept k hk (by simpa using e)), fun _ h => (nomatch h), fun _ h => (nomatch h), .nil⟩
theorem unit {f : FuncId} {args : Array Value} {v : Value} {R : World → Prop} (h : Calls P f args w fun e w' => e = .returned v ∧ R w') : Calls P f args w fun e w' => ∃ _ : Unit, e = .returned v ∧ R w' :=
  h.mono fun _ _ h => ⟨(), h⟩
end
end Go.Proofs.Ytfhigpmpngfkbaa.Held
