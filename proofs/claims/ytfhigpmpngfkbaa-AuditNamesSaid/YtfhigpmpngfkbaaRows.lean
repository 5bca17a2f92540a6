/-
  No cell of these rows narrows 'for every input' (looked for: loops, veiled, ifaces, maps, wideKeys, modest, calm, conditions, laid).
  DERIVED. THE GIVEN ROWS OF THIS SEAT. 10 by the template 'for every input the law returns true; each argument reads behind the call as it read before'; 0 by the template 'total and deterministic' (their statements: YtfhigpmpngfkbaaTotals.lean).
  GIVEN WITH THE SEED: the statements are not yours to turn. If you find one false, say at which input.
  Laid BY PROGRAM, IN A SANDBOX (cutbox-rows.mjs): the forced cells as the released guide's own fill.sh prints them over the translation cde1f9c134ef9375… (all of the seat's roots in one cut). By AI agents, Wed Nov 11 2026. No macro, syntax, notation, axiom, sorry.
-/
import Derived.Test.YtfhigpmpngfkbaaChecked
import GoSem.Claim
import GoSem.ClaimJoined
import GoSem.ClaimMapViews
import Derived.JoinedTies
import Derived.KernelRfl
namespace Go.Proofs.Ytfhigpmpngfkbaa
/- THE CELL 'sum', in the pinned program and in every row, IS THE sha256 OF THE DUMP (.gsa) THAT YtfhigpmpngfkbaaProg.lean LOADS. Nothing in Lean hashes anything: it is a label: what it is worth is what the hold of that sum in a sandbox is worth. -/
noncomputable def Try.pinned : Pinned := { name := "ytfhigpmpngfkbaa", sum := "cde1f9c134ef9375c97c393ce1003f1ee4566f00a8cedcd251d7b222c944457e", checked := Try.checked }
namespace Rows
def none {H : Type} : Left H := { results := [], args := [] }

/-- 'mintmarklaw01.FieldBack': WHATEVER THE INPUT: true; the input reads as it did. -/
def fieldBackSpec : ChangeSpec := { name := "fieldBack", fn := fun _ => fun
  | [d1, d2, d3] => { results := [.lit (.bool true)], args := [d1, d2, d3] }
  | _ => none }
def fieldBackRow : OpenClaim := { program := "ytfhigpmpngfkbaa", sum := "cde1f9c134ef9375c97c393ce1003f1ee4566f00a8cedcd251d7b222c944457e", func := "mintmark/mintmarklaw01.FieldBack", spec := "fieldBack", apart := false }
def FieldBackSaid : Prop := fieldBackRow.holds Try.pinned (OpenSpec.ofChange fieldBackSpec)

/-- ITS FALSE NEIGHBOUR: 'it returns false'. Refute it at one input. -/
def fieldBackWrong : ChangeSpec := { name := "fieldBack", fn := fun _ => fun
  | [d1, d2, d3] => { results := [.lit (.bool false)], args := [d1, d2, d3] }
  | _ => none }
def FieldBackWrongFalsely : Prop := fieldBackRow.holds Try.pinned (OpenSpec.ofChange fieldBackWrong)

/-- 'mintmarklaw01.FieldLays': WHATEVER THE INPUT: true; the input reads as it did. -/
def fieldLaysSpec : ChangeSpec := { name := "fieldLays", fn := fun _ => fun
  | [d] => { results := [.lit (.bool true)], args := [d] }
  | _ => none }
def fieldLaysRow : OpenClaim := { program := "ytfhigpmpngfkbaa", sum := "cde1f9c134ef9375c97c393ce1003f1ee4566f00a8cedcd251d7b222c944457e", func := "mintmark/mintmarklaw01.FieldLays", spec := "fieldLays", unfollowed := true, recurses := true, apart := false }
def FieldLaysSaid : Prop := fieldLaysRow.holds Try.pinned (OpenSpec.ofChange fieldLaysSpec)

/-- ITS FALSE NEIGHBOUR: 'it returns false'. Refute it at one input. -/
def fieldLaysWrong : ChangeSpec := { name := "fieldLays", fn := fun _ => fun
  | [d] => { results := [.lit (.bool false)], args := [d] }
  | _ => none }
def FieldLaysWrongFalsely : Prop := fieldLaysRow.holds Try.pinned (OpenSpec.ofChange fieldLaysWrong)

/-- 'mintmarklaw01.FieldSigns': WHATEVER THE INPUT: true; the input reads as it did. -/
def fieldSignsSpec : ChangeSpec := { name := "fieldSigns", fn := fun _ => fun
  | [d1, d2] => { results := [.lit (.bool true)], args := [d1, d2] }
  | _ => none }
def fieldSignsRow : OpenClaim := { program := "ytfhigpmpngfkbaa", sum := "cde1f9c134ef9375c97c393ce1003f1ee4566f00a8cedcd251d7b222c944457e", func := "mintmark/mintmarklaw01.FieldSigns", spec := "fieldSigns", apart := false }
def FieldSignsSaid : Prop := fieldSignsRow.holds Try.pinned (OpenSpec.ofChange fieldSignsSpec)

/-- ITS FALSE NEIGHBOUR: 'it returns false'. Refute it at one input. -/
def fieldSignsWrong : ChangeSpec := { name := "fieldSigns", fn := fun _ => fun
  | [d1, d2] => { results := [.lit (.bool false)], args := [d1, d2] }
  | _ => none }
def FieldSignsWrongFalsely : Prop := fieldSignsRow.holds Try.pinned (OpenSpec.ofChange fieldSignsWrong)

/-- 'mintmarklaw09.PteParts': WHATEVER THE INPUT: true; the input reads as it did. -/
def ptePartsSpec : ChangeSpec := { name := "pteParts", fn := fun _ => fun
  | [d1, d2] => { results := [.lit (.bool true)], args := [d1, d2] }
  | _ => none }
def ptePartsRow : OpenClaim := { program := "ytfhigpmpngfkbaa", sum := "cde1f9c134ef9375c97c393ce1003f1ee4566f00a8cedcd251d7b222c944457e", func := "mintmark/mintmarklaw09.PteParts", spec := "pteParts", apart := false }
def PtePartsSaid : Prop := ptePartsRow.holds Try.pinned (OpenSpec.ofChange ptePartsSpec)

/-- ITS FALSE NEIGHBOUR: 'it returns false'. Refute it at one input. -/
def ptePartsWrong : ChangeSpec := { name := "pteParts", fn := fun _ => fun
  | [d1, d2] => { results := [.lit (.bool false)], args := [d1, d2] }
  | _ => none }
def PtePartsWrongFalsely : Prop := ptePartsRow.holds Try.pinned (OpenSpec.ofChange ptePartsWrong)

/-- 'mintmarklaw01.FieldParts': WHATEVER THE INPUT: true; the input reads as it did. -/
def fieldPartsSpec : ChangeSpec := { name := "fieldParts", fn := fun _ => fun
  | [d1, d2, d3] => { results := [.lit (.bool true)], args := [d1, d2, d3] }
  | _ => none }
def fieldPartsRow : OpenClaim := { program := "ytfhigpmpngfkbaa", sum := "cde1f9c134ef9375c97c393ce1003f1ee4566f00a8cedcd251d7b222c944457e", func := "mintmark/mintmarklaw01.FieldParts", spec := "fieldParts", unfollowed := true, recurses := true, apart := false }
def FieldPartsSaid : Prop := fieldPartsRow.holds Try.pinned (OpenSpec.ofChange fieldPartsSpec)

/-- ITS FALSE NEIGHBOUR: 'it returns false'. Refute it at one input. -/
def fieldPartsWrong : ChangeSpec := { name := "fieldParts", fn := fun _ => fun
  | [d1, d2, d3] => { results := [.lit (.bool false)], args := [d1, d2, d3] }
  | _ => none }
def FieldPartsWrongFalsely : Prop := fieldPartsRow.holds Try.pinned (OpenSpec.ofChange fieldPartsWrong)

/-- 'mintmarklaw01.FieldTells': WHATEVER THE INPUT: true; the input reads as it did. -/
def fieldTellsSpec : ChangeSpec := { name := "fieldTells", fn := fun _ => fun
  | [d1, d2, d3] => { results := [.lit (.bool true)], args := [d1, d2, d3] }
  | _ => none }
def fieldTellsRow : OpenClaim := { program := "ytfhigpmpngfkbaa", sum := "cde1f9c134ef9375c97c393ce1003f1ee4566f00a8cedcd251d7b222c944457e", func := "mintmark/mintmarklaw01.FieldTells", spec := "fieldTells", apart := false }
def FieldTellsSaid : Prop := fieldTellsRow.holds Try.pinned (OpenSpec.ofChange fieldTellsSpec)

/-- ITS FALSE NEIGHBOUR: 'it returns false'. Refute it at one input. -/
def fieldTellsWrong : ChangeSpec := { name := "fieldTells", fn := fun _ => fun
  | [d1, d2, d3] => { results := [.lit (.bool false)], args := [d1, d2, d3] }
  | _ => none }
def FieldTellsWrongFalsely : Prop := fieldTellsRow.holds Try.pinned (OpenSpec.ofChange fieldTellsWrong)

/-- 'mintmarklaw09.PteBack': WHATEVER THE INPUT: true; the input reads as it did. -/
def pteBackSpec : ChangeSpec := { name := "pteBack", fn := fun _ => fun
  | [d1, d2] => { results := [.lit (.bool true)], args := [d1, d2] }
  | _ => none }
def pteBackRow : OpenClaim := { program := "ytfhigpmpngfkbaa", sum := "cde1f9c134ef9375c97c393ce1003f1ee4566f00a8cedcd251d7b222c944457e", func := "mintmark/mintmarklaw09.PteBack", spec := "pteBack", apart := false }
def PteBackSaid : Prop := pteBackRow.holds Try.pinned (OpenSpec.ofChange pteBackSpec)

/-- ITS FALSE NEIGHBOUR: 'it returns false'. Refute it at one input. -/
def pteBackWrong : ChangeSpec := { name := "pteBack", fn := fun _ => fun
  | [d1, d2] => { results := [.lit (.bool false)], args := [d1, d2] }
  | _ => none }
def PteBackWrongFalsely : Prop := pteBackRow.holds Try.pinned (OpenSpec.ofChange pteBackWrong)

/-- 'mintmarklaw09.PteTells': WHATEVER THE INPUT: true; the input reads as it did. -/
def pteTellsSpec : ChangeSpec := { name := "pteTells", fn := fun _ => fun
  | [d1, d2] => { results := [.lit (.bool true)], args := [d1, d2] }
  | _ => none }
def pteTellsRow : OpenClaim := { program := "ytfhigpmpngfkbaa", sum := "cde1f9c134ef9375c97c393ce1003f1ee4566f00a8cedcd251d7b222c944457e", func := "mintmark/mintmarklaw09.PteTells", spec := "pteTells", apart := false }
def PteTellsSaid : Prop := pteTellsRow.holds Try.pinned (OpenSpec.ofChange pteTellsSpec)

/-- ITS FALSE NEIGHBOUR: 'it returns false'. Refute it at one input. -/
def pteTellsWrong : ChangeSpec := { name := "pteTells", fn := fun _ => fun
  | [d1, d2] => { results := [.lit (.bool false)], args := [d1, d2] }
  | _ => none }
def PteTellsWrongFalsely : Prop := pteTellsRow.holds Try.pinned (OpenSpec.ofChange pteTellsWrong)

/-- 'mintmarklaw09.PteRight': WHATEVER THE INPUT: true; the input reads as it did. -/
def pteRightSpec : ChangeSpec := { name := "pteRight", fn := fun _ => fun
  | [d] => { results := [.lit (.bool true)], args := [d] }
  | _ => none }
def pteRightRow : OpenClaim := { program := "ytfhigpmpngfkbaa", sum := "cde1f9c134ef9375c97c393ce1003f1ee4566f00a8cedcd251d7b222c944457e", func := "mintmark/mintmarklaw09.PteRight", spec := "pteRight", apart := false }
def PteRightSaid : Prop := pteRightRow.holds Try.pinned (OpenSpec.ofChange pteRightSpec)

/-- ITS FALSE NEIGHBOUR: 'it returns false'. Refute it at one input. -/
def pteRightWrong : ChangeSpec := { name := "pteRight", fn := fun _ => fun
  | [d] => { results := [.lit (.bool false)], args := [d] }
  | _ => none }
def PteRightWrongFalsely : Prop := pteRightRow.holds Try.pinned (OpenSpec.ofChange pteRightWrong)

/-- 'mintmarklaw30.AuditNames': WHATEVER THE INPUT: true; the input reads as it did. -/
def auditNamesSpec : ChangeSpec := { name := "auditNames", fn := fun _ => fun
  | [d1, d2] => { results := [.lit (.bool true)], args := [d1, d2] }
  | _ => none }
def auditNamesRow : OpenClaim := { program := "ytfhigpmpngfkbaa", sum := "cde1f9c134ef9375c97c393ce1003f1ee4566f00a8cedcd251d7b222c944457e", func := "mintmark/mintmarklaw30.AuditNames", spec := "auditNames", inPlace := ["internal/abi.NoEscape", "internal/bytealg.MakeNoZero"], recurses := true, apart := false }
def AuditNamesSaid : Prop := auditNamesRow.holds Try.pinned (OpenSpec.ofChange auditNamesSpec)

/-- ITS FALSE NEIGHBOUR: 'it returns false'. Refute it at one input. -/
def auditNamesWrong : ChangeSpec := { name := "auditNames", fn := fun _ => fun
  | [d1, d2] => { results := [.lit (.bool false)], args := [d1, d2] }
  | _ => none }
def AuditNamesWrongFalsely : Prop := auditNamesRow.holds Try.pinned (OpenSpec.ofChange auditNamesWrong)

/- THE SECOND FORM. 'bulk': how many values and letters a reading holds, each counted each time it is reached (what is shared counts as often as it is met; a slice's spare places count too). A statement '..UptoSaid' is the law's where the arguments, and the package variables that the reading takes, are together of bulk at most 1048576: NARROWER than '..Said'. Prove '..Said' where nothing that the law and all that it calls make is longer than what came in: it says more and counts as full. Else prove '..UptoSaid'. A law counts once. -/
mutual
def uptoBulk {H : Type} : DataW H → Nat
  | .lit (.string bytes) => bytes.length + 1
  | .lit _ => 1
  | .nil => 1
  | .ptr d => uptoBulk d + 1
  | .slice elems spare => uptoBulkAll elems + uptoBulkAll spare + 1
  | .agg parts => uptoBulkAll parts + 1
  | .iface _ d => uptoBulk d + 1
  | .map entries => uptoBulkEntries entries + 1
  | .held _ => 1
def uptoBulkAll {H : Type} : List (DataW H) → Nat
  | [] => 0
  | d :: r => uptoBulk d + uptoBulkAll r
def uptoBulkEntries {H : Type} : List (Lit × DataW H) → Nat
  | [] => 0
  | x :: r => uptoBulkEntry x + uptoBulkEntries r
def uptoBulkEntry {H : Type} : Lit × DataW H → Nat
  | (.string bytes, d) => bytes.length + uptoBulk d + 1
  | (_, d) => uptoBulk d + 1
 end
def uptoSmall : (H : Type) → List (DataW H) → Bool := fun _ ds => decide (uptoBulkAll ds ≤ 1048576)
def OpenSpec.upto (s : _root_.Go.ChangeSpec) : _root_.Go.OpenSpec := { _root_.Go.OpenSpec.ofChange s with cond := some uptoSmall }

/-- 'mintmarklaw01.FieldBack', WHERE WHAT IT READS IS OF BULK AT MOST 1048576: true; the input reads as it did. -/
def fieldBackUptoRow : OpenClaim := { program := "ytfhigpmpngfkbaa", sum := "cde1f9c134ef9375c97c393ce1003f1ee4566f00a8cedcd251d7b222c944457e", func := "mintmark/mintmarklaw01.FieldBack", spec := "fieldBack", apart := false, narrowed := true }
def FieldBackUptoSaid : Prop := fieldBackUptoRow.holds Try.pinned (OpenSpec.upto fieldBackSpec)

/-- 'mintmarklaw01.FieldLays', WHERE WHAT IT READS IS OF BULK AT MOST 1048576: true; the input reads as it did. -/
def fieldLaysUptoRow : OpenClaim := { program := "ytfhigpmpngfkbaa", sum := "cde1f9c134ef9375c97c393ce1003f1ee4566f00a8cedcd251d7b222c944457e", func := "mintmark/mintmarklaw01.FieldLays", spec := "fieldLays", unfollowed := true, recurses := true, apart := false, narrowed := true }
def FieldLaysUptoSaid : Prop := fieldLaysUptoRow.holds Try.pinned (OpenSpec.upto fieldLaysSpec)

/-- 'mintmarklaw01.FieldSigns', WHERE WHAT IT READS IS OF BULK AT MOST 1048576: true; the input reads as it did. -/
def fieldSignsUptoRow : OpenClaim := { program := "ytfhigpmpngfkbaa", sum := "cde1f9c134ef9375c97c393ce1003f1ee4566f00a8cedcd251d7b222c944457e", func := "mintmark/mintmarklaw01.FieldSigns", spec := "fieldSigns", apart := false, narrowed := true }
def FieldSignsUptoSaid : Prop := fieldSignsUptoRow.holds Try.pinned (OpenSpec.upto fieldSignsSpec)

/-- 'mintmarklaw09.PteParts', WHERE WHAT IT READS IS OF BULK AT MOST 1048576: true; the input reads as it did. -/
def ptePartsUptoRow : OpenClaim := { program := "ytfhigpmpngfkbaa", sum := "cde1f9c134ef9375c97c393ce1003f1ee4566f00a8cedcd251d7b222c944457e", func := "mintmark/mintmarklaw09.PteParts", spec := "pteParts", apart := false, narrowed := true }
def PtePartsUptoSaid : Prop := ptePartsUptoRow.holds Try.pinned (OpenSpec.upto ptePartsSpec)

/-- 'mintmarklaw01.FieldParts', WHERE WHAT IT READS IS OF BULK AT MOST 1048576: true; the input reads as it did. -/
def fieldPartsUptoRow : OpenClaim := { program := "ytfhigpmpngfkbaa", sum := "cde1f9c134ef9375c97c393ce1003f1ee4566f00a8cedcd251d7b222c944457e", func := "mintmark/mintmarklaw01.FieldParts", spec := "fieldParts", unfollowed := true, recurses := true, apart := false, narrowed := true }
def FieldPartsUptoSaid : Prop := fieldPartsUptoRow.holds Try.pinned (OpenSpec.upto fieldPartsSpec)

/-- 'mintmarklaw01.FieldTells', WHERE WHAT IT READS IS OF BULK AT MOST 1048576: true; the input reads as it did. -/
def fieldTellsUptoRow : OpenClaim := { program := "ytfhigpmpngfkbaa", sum := "cde1f9c134ef9375c97c393ce1003f1ee4566f00a8cedcd251d7b222c944457e", func := "mintmark/mintmarklaw01.FieldTells", spec := "fieldTells", apart := false, narrowed := true }
def FieldTellsUptoSaid : Prop := fieldTellsUptoRow.holds Try.pinned (OpenSpec.upto fieldTellsSpec)

/-- 'mintmarklaw09.PteBack', WHERE WHAT IT READS IS OF BULK AT MOST 1048576: true; the input reads as it did. -/
def pteBackUptoRow : OpenClaim := { program := "ytfhigpmpngfkbaa", sum := "cde1f9c134ef9375c97c393ce1003f1ee4566f00a8cedcd251d7b222c944457e", func := "mintmark/mintmarklaw09.PteBack", spec := "pteBack", apart := false, narrowed := true }
def PteBackUptoSaid : Prop := pteBackUptoRow.holds Try.pinned (OpenSpec.upto pteBackSpec)

/-- 'mintmarklaw09.PteTells', WHERE WHAT IT READS IS OF BULK AT MOST 1048576: true; the input reads as it did. -/
def pteTellsUptoRow : OpenClaim := { program := "ytfhigpmpngfkbaa", sum := "cde1f9c134ef9375c97c393ce1003f1ee4566f00a8cedcd251d7b222c944457e", func := "mintmark/mintmarklaw09.PteTells", spec := "pteTells", apart := false, narrowed := true }
def PteTellsUptoSaid : Prop := pteTellsUptoRow.holds Try.pinned (OpenSpec.upto pteTellsSpec)

/-- 'mintmarklaw09.PteRight', WHERE WHAT IT READS IS OF BULK AT MOST 1048576: true; the input reads as it did. -/
def pteRightUptoRow : OpenClaim := { program := "ytfhigpmpngfkbaa", sum := "cde1f9c134ef9375c97c393ce1003f1ee4566f00a8cedcd251d7b222c944457e", func := "mintmark/mintmarklaw09.PteRight", spec := "pteRight", apart := false, narrowed := true }
def PteRightUptoSaid : Prop := pteRightUptoRow.holds Try.pinned (OpenSpec.upto pteRightSpec)

/-- 'mintmarklaw30.AuditNames', WHERE WHAT IT READS IS OF BULK AT MOST 1048576: true; the input reads as it did. -/
def auditNamesUptoRow : OpenClaim := { program := "ytfhigpmpngfkbaa", sum := "cde1f9c134ef9375c97c393ce1003f1ee4566f00a8cedcd251d7b222c944457e", func := "mintmark/mintmarklaw30.AuditNames", spec := "auditNames", inPlace := ["internal/abi.NoEscape", "internal/bytealg.MakeNoZero"], recurses := true, apart := false, narrowed := true }
def AuditNamesUptoSaid : Prop := auditNamesUptoRow.holds Try.pinned (OpenSpec.upto auditNamesSpec)

end Rows
end Go.Proofs.Ytfhigpmpngfkbaa
