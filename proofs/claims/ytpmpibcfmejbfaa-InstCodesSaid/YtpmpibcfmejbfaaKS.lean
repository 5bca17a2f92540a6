/- Short forms of a walk's steps: what is closed by reckoning is left out. No program in sight. -/
import Derived.Test.YtpmpibcfmejbfaaKwJ
import Derived.KernelRfl
namespace Go.Proofs.Ytpmpibcfmejbfaa.KS
open Go Go.RowKit
section
variable {P : Program} {ops : Array Oper} {Q : Exit → Act → World → Prop} {w : World} {a : Act} {o : Oper} {rest : List Oper} {I : World → Prop} {n : Nat}
theorem p (v : Value) (hr : wpList P ops Q rest (a.put o.dst v) w) (hg : Region.wanted o (yielded ops a.tmps) = true := by kernel_rfl) (h : (execOp a.eval o).run P w = .ok (.value v) w := by kernel_rfl) : wpList P ops Q (o :: rest) a w := Kw.pure v hg h hr
theorem s (x : Sem Next) (v : Value) (h : x.run P w = .ok (.value v) w) (hr : wpList P ops Q rest (a.put o.dst v) w) (hg : Region.wanted o (yielded ops a.tmps) = true := by kernel_rfl) (hs : execOp a.eval o = x := by kernel_rfl) : wpList P ops Q (o :: rest) a w := Kw.pureS x v hg hs h hr
theorem k (hr : wpList P ops Q rest (a.put o.dst undef) w) (hg : Region.wanted o (yielded ops a.tmps) = false := by kernel_rfl) : wpList P ops Q (o :: rest) a w := Kw.skip hg hr
theorem c {S : List Nat} {W : World} {l : List (Nat × Array Value × TypeId)} (v : Value) (f : FuncId) (args : Array Value) (M : Kw.Mem S W w l) (hc : Calls P f args w fun e w' => e = .returned v ∧ Kw.Mem [] w w' []) (hr : ∀ w', Kw.Mem S W w' l → wpList P ops Q rest (a.put o.dst v) w')
    (hg : Region.wanted o (yielded ops a.tmps) = true := by kernel_rfl) (h : (execOp a.eval o).run P w = .ok (.enter f args) w := by kernel_rfl) : wpList P ops Q (o :: rest) a w := Kw.call v f args M hg h hc hr
theorem q (v : Value) (hr : Canon.Walk P ops Q I rest (a.put o.dst v)) (hg : Region.wanted o (yielded ops a.tmps) = true := by kernel_rfl) (h : ∀ w, (execOp a.eval o).run P w = .ok (.value v) w := by intro w; kernel_rfl) : Canon.Walk P ops Q I (o :: rest) a := Canon.pure v hg h hr
theorem qs (x : Sem Next) (v : Value) (h : ∀ w, x.run P w = .ok (.value v) w) (hr : Canon.Walk P ops Q I rest (a.put o.dst v)) (hg : Region.wanted o (yielded ops a.tmps) = true := by kernel_rfl) (hs : execOp a.eval o = x := by kernel_rfl) : Canon.Walk P ops Q I (o :: rest) a := Canon.pureS x v hg hs h hr
theorem qr (x : Sem Next) (v : Value) (h : ∀ w, I w → x.run P w = .ok (.value v) w) (hr : Canon.Walk P ops Q I rest (a.put o.dst v)) (hg : Region.wanted o (yielded ops a.tmps) = true := by kernel_rfl) (hs : execOp a.eval o = x := by kernel_rfl) : Canon.Walk P ops Q I (o :: rest) a := Canon.readsS x v hg hs h hr
theorem qk (hr : Canon.Walk P ops Q I rest (a.put o.dst undef)) (hg : Region.wanted o (yielded ops a.tmps) = false := by kernel_rfl) : Canon.Walk P ops Q I (o :: rest) a := Canon.skip hg hr
variable {S : World → Prop} {fuel : Nat} {listed : Array Bool} {oi : Oper}
theorem hp (i : Nat) (v : Value) (hS : S w) (hk : wpAnyH P .any ops (NoPanic Q) S fuel (listed.setIfInBounds i true) (a.put oi.dst v) w) (hi : ops[i]? = some oi := by rfl) (hs : Region.noSelect ops = true := by decide +kernel) (hf : Region.free .any ops listed i = true := by decide +kernel) (hr : (Region.ready .any ops listed).contains i = true := by decide +kernel)
    (hg : Region.wanted oi (yielded ops a.tmps) = true := by kernel_rfl) (h : ∀ w, (execOp a.eval oi).run P w = .ok (.value v) w := by intro w; kernel_rfl) : wpAnyH P .any ops (NoPanic Q) S (fuel + 1) listed a w := Held.takeP i v hi hs hf hr hg h hS hk
variable {R : Ending → World → Prop} {fn : Func}
theorem r2 {i j : Nat} {T : TypeId} {ad : Addr} {v : Value} (v2 : Value) (hr : fn.results = #[.cell i T, .tmp j]) (hl : (loadVar T ad).run P w = .ok v w) (hR : R (.returned (.tuple #[v, v2])) w)
    (ha : a.tmps.getD i undef = .pointer (some ad) := by kernel_rfl) (hj : a.tmps.getD j undef = v2 := by kernel_rfl) (hd : a.defers = [] := by rfl) : bodyPost P fn R .ret a w :=
  bodyPost_ret (v := .tuple #[v, v2]) (by simp only [Array.getD_eq_getD_getElem?] at ha hj; simp [results, hr, ha, hj, asAddr, hl]) hd hR
theorem r3 {i j : Nat} {T T2 : TypeId} {ad ad2 : Addr} {v v2 : Value} (hr : fn.results = #[.cell i T, .cell j T2]) (hl : (loadVar T ad).run P w = .ok v w) (hl2 : (loadVar T2 ad2).run P w = .ok v2 w) (hR : R (.returned (.tuple #[v, v2])) w)
    (ha : a.tmps.getD i undef = .pointer (some ad) := by kernel_rfl) (hj : a.tmps.getD j undef = .pointer (some ad2) := by kernel_rfl) (hd : a.defers = [] := by rfl) : bodyPost P fn R .ret a w :=
  bodyPost_ret (v := .tuple #[v, v2]) (by simp only [Array.getD_eq_getD_getElem?] at ha hj; simp [results, hr, ha, hj, asAddr, hl, hl2]) hd hR
variable {SS : List Nat} {W : World} {lst : List (Nat × Array Value × TypeId)}
theorem l (T B k : Nat) (v : Value) (M : Kw.Mem SS W w lst) (j : Nat) {d : TypeDesc} (hu : P.underlying T = some d) (hr : wpList P ops Q rest (a.put o.dst v) w) {cs : Array Value} {t : TypeId} (hj : lst[j]? = some (B, cs, t) := by rfl) (hv : cs[k]? = some v := by kernel_rfl) (hd : d.isRow = false := by rfl)
    (hg : Region.wanted o (yielded ops a.tmps) = true := by kernel_rfl) (hs : execOp a.eval o = Canon.ldS T (.pointer (some ⟨B, k, none⟩)) := by kernel_rfl) : wpList P ops Q (o :: rest) a w := Kw.pureS _ v hg hs (Kw.ld_cell T k v (M.get j hj) hv d hu hd) hr
theorem la (T B : Nat) (cs : Array Value) (M : Kw.Mem SS W w lst) (j : Nat) {d : TypeDesc} (hu : P.underlying T = some d) (hr : wpList P ops Q rest (a.put o.dst (.agg cs)) w) {t : TypeId} (hj : lst[j]? = some (B, cs, t) := by rfl) (hd : d.isRow = true := by rfl) (hi : (P.info? T).map (·.size) = some cs.size := by kernel_rfl)
    (hg : Region.wanted o (yielded ops a.tmps) = true := by kernel_rfl) (hs : execOp a.eval o = Canon.ldS T (.pointer (some ⟨B, 0, none⟩)) := by kernel_rfl) : wpList P ops Q (o :: rest) a w := Kw.pureS _ _ hg hs (Kw.ld_all T (M.get j hj) d hu hd hi) hr
theorem ql (T B k : Nat) (v : Value) (j : Nat) {d : TypeDesc} (hu : P.underlying T = some d) (hr : Canon.Walk P ops Q (fun w => Kw.Mem SS W w lst) rest (a.put o.dst v)) {cs : Array Value} {t : TypeId} (hj : lst[j]? = some (B, cs, t) := by rfl) (hv : cs[k]? = some v := by kernel_rfl) (hd : d.isRow = false := by rfl)
    (hg : Region.wanted o (yielded ops a.tmps) = true := by kernel_rfl) (hs : execOp a.eval o = Canon.ldS T (.pointer (some ⟨B, k, none⟩)) := by kernel_rfl) : Canon.Walk P ops Q (fun w => Kw.Mem SS W w lst) (o :: rest) a := Canon.readsS _ v hg hs (fun _ hw => Kw.ld_cell T k v (hw.get j hj) hv d hu hd) hr
theorem n2 {next : Act → World → Prop} (h : next a w) : wpList P ops (Exit.then next Q) [] a w := h
theorem n4 {id : Nat} {ops2 : Array Oper} {y : Code} {Q2 : Exit → Act → World → Prop} (h : wpList P ops2 (Exit.then (y.wp P Q2) Q2) ops2.toList a w) : wpList P ops (Exit.then ((Code.seq (Code.region id ops2 false) y).wp P Q2) Q) [] a w := Kw.fin (Kw.then_normal (wp_seq (Kw.region h)))
theorem n5 {id : Nat} {ops2 : Array Oper} {y z : Code} {Q2 : Exit → Act → World → Prop} (h : wpList P ops2 (Exit.then (y.wp P (Exit.then (z.wp P Q2) Q2)) (Exit.then (z.wp P Q2) Q2)) ops2.toList a w) : wpList P ops (Exit.then ((Code.seq (Code.seq (Code.region id ops2 false) y) z).wp P Q2) Q) [] a w := Kw.fin (Kw.then_normal (wp_seq (wp_seq (Kw.region h))))
end
end Go.Proofs.Ytpmpibcfmejbfaa.KS
