/-
  NARROWER THAN 'FOR EVERY INPUT', by the rows' own cells (each row's printed sentence says how): PowerTells: loops · PowerMore: loops · FieldChecks: loops · SigsPuts: loops · TreeChecks: loops · TreeParts: loops · TreeMakes: loops.
  DERIVED. THE GIVEN ROWS OF THIS SEAT. 10 by the template 'for every input the law returns true; each argument reads behind the call as it read before'; 0 by the template 'total and deterministic' (their statements: YtbnmcnghmnhigaaTotals.lean).
  GIVEN WITH THE SEED: the statements are not yours to turn. If you find one false, say at which input.
  Laid BY PROGRAM, IN A SANDBOX (cutbox-rows.mjs): the forced cells as the released guide's own fill.sh prints them over the translation 98ae5698605300bf… (all of the seat's roots in one cut). By AI agents, Wed Nov 11 2026. No macro, syntax, notation, axiom, sorry.
-/
import Derived.Test.YtbnmcnghmnhigaaChecked
import GoSem.Claim
import GoSem.ClaimJoined
import GoSem.ClaimMapViews
import Derived.JoinedTies
import Derived.KernelRfl
namespace Go.Proofs.Ytbnmcnghmnhigaa
/- THE CELL 'sum', in the pinned program and in every row, IS THE sha256 OF THE DUMP (.gsa) THAT YtbnmcnghmnhigaaProg.lean LOADS. Nothing in Lean hashes anything: it is a label: what it is worth is what the hold of that sum in a sandbox is worth. -/
noncomputable def Try.pinned : Pinned := { name := "ytbnmcnghmnhigaa", sum := "98ae5698605300bf037b79a287e89fec5c5a93ab4cd04624a121e82f6e4d194e", checked := Try.checked }
namespace Rows
def none {H : Type} : Left H := { results := [], args := [] }

/-- 'sealringlaw57.PowerTells': WHATEVER THE INPUT: true; the input reads as it did. -/
def powerTellsSpec : ChangeSpec := { name := "powerTells", fn := fun _ => fun
  | [d1, d2, d3] => { results := [.lit (.bool true)], args := [d1, d2, d3] }
  | _ => none }
def powerTellsRow : OpenClaim := { program := "ytbnmcnghmnhigaa", sum := "98ae5698605300bf037b79a287e89fec5c5a93ab4cd04624a121e82f6e4d194e", func := "sealring/sealringlaw57.PowerTells", spec := "powerTells", unfollowed := true, recurses := true, loops := true, apart := false }
def PowerTellsSaid : Prop := powerTellsRow.holds Try.pinned (OpenSpec.ofChange powerTellsSpec)

/-- ITS FALSE NEIGHBOUR: 'it returns false'. Refute it at one input. -/
def powerTellsWrong : ChangeSpec := { name := "powerTells", fn := fun _ => fun
  | [d1, d2, d3] => { results := [.lit (.bool false)], args := [d1, d2, d3] }
  | _ => none }
def PowerTellsWrongFalsely : Prop := powerTellsRow.holds Try.pinned (OpenSpec.ofChange powerTellsWrong)

/-- 'sealringlaw57.PowerMore': WHATEVER THE INPUT: true; the input reads as it did. -/
def powerMoreSpec : ChangeSpec := { name := "powerMore", fn := fun _ => fun
  | [d1, d2, d3] => { results := [.lit (.bool true)], args := [d1, d2, d3] }
  | _ => none }
def powerMoreRow : OpenClaim := { program := "ytbnmcnghmnhigaa", sum := "98ae5698605300bf037b79a287e89fec5c5a93ab4cd04624a121e82f6e4d194e", func := "sealring/sealringlaw57.PowerMore", spec := "powerMore", unfollowed := true, recurses := true, loops := true, apart := false }
def PowerMoreSaid : Prop := powerMoreRow.holds Try.pinned (OpenSpec.ofChange powerMoreSpec)

/-- ITS FALSE NEIGHBOUR: 'it returns false'. Refute it at one input. -/
def powerMoreWrong : ChangeSpec := { name := "powerMore", fn := fun _ => fun
  | [d1, d2, d3] => { results := [.lit (.bool false)], args := [d1, d2, d3] }
  | _ => none }
def PowerMoreWrongFalsely : Prop := powerMoreRow.holds Try.pinned (OpenSpec.ofChange powerMoreWrong)

/-- 'sealringlaw29.FieldRules': WHATEVER THE INPUT: true; the input reads as it did. -/
def fieldRulesSpec : ChangeSpec := { name := "fieldRules", fn := fun _ => fun
  | [d1, d2, d3] => { results := [.lit (.bool true)], args := [d1, d2, d3] }
  | _ => none }
def fieldRulesRow : OpenClaim := { program := "ytbnmcnghmnhigaa", sum := "98ae5698605300bf037b79a287e89fec5c5a93ab4cd04624a121e82f6e4d194e", func := "sealring/sealringlaw29.FieldRules", spec := "fieldRules", unfollowed := true, recurses := true, apart := false }
def FieldRulesSaid : Prop := fieldRulesRow.holds Try.pinned (OpenSpec.ofChange fieldRulesSpec)

/-- ITS FALSE NEIGHBOUR: 'it returns false'. Refute it at one input. -/
def fieldRulesWrong : ChangeSpec := { name := "fieldRules", fn := fun _ => fun
  | [d1, d2, d3] => { results := [.lit (.bool false)], args := [d1, d2, d3] }
  | _ => none }
def FieldRulesWrongFalsely : Prop := fieldRulesRow.holds Try.pinned (OpenSpec.ofChange fieldRulesWrong)

/-- 'sealringlaw29.FieldChecks': WHATEVER THE INPUT: true; the input reads as it did. -/
def fieldChecksSpec : ChangeSpec := { name := "fieldChecks", fn := fun _ => fun
  | [d1, d2] => { results := [.lit (.bool true)], args := [d1, d2] }
  | _ => none }
def fieldChecksRow : OpenClaim := { program := "ytbnmcnghmnhigaa", sum := "98ae5698605300bf037b79a287e89fec5c5a93ab4cd04624a121e82f6e4d194e", func := "sealring/sealringlaw29.FieldChecks", spec := "fieldChecks", unfollowed := true, recurses := true, loops := true, apart := false }
def FieldChecksSaid : Prop := fieldChecksRow.holds Try.pinned (OpenSpec.ofChange fieldChecksSpec)

/-- ITS FALSE NEIGHBOUR: 'it returns false'. Refute it at one input. -/
def fieldChecksWrong : ChangeSpec := { name := "fieldChecks", fn := fun _ => fun
  | [d1, d2] => { results := [.lit (.bool false)], args := [d1, d2] }
  | _ => none }
def FieldChecksWrongFalsely : Prop := fieldChecksRow.holds Try.pinned (OpenSpec.ofChange fieldChecksWrong)

/-- 'sealringlaw38.SigsPuts': WHATEVER THE INPUT: true; the input reads as it did. -/
def sigsPutsSpec : ChangeSpec := { name := "sigsPuts", fn := fun _ => fun
  | [d1, d2] => { results := [.lit (.bool true)], args := [d1, d2] }
  | _ => none }
def sigsPutsRow : OpenClaim := { program := "ytbnmcnghmnhigaa", sum := "98ae5698605300bf037b79a287e89fec5c5a93ab4cd04624a121e82f6e4d194e", func := "sealring/sealringlaw38.SigsPuts", spec := "sigsPuts", inPlace := ["internal/bytealg.abigen_runtime_cmpstring"], unfollowed := true, recurses := true, loops := true, apart := false }
def SigsPutsSaid : Prop := sigsPutsRow.holds Try.pinned (OpenSpec.ofChange sigsPutsSpec)

/-- ITS FALSE NEIGHBOUR: 'it returns false'. Refute it at one input. -/
def sigsPutsWrong : ChangeSpec := { name := "sigsPuts", fn := fun _ => fun
  | [d1, d2] => { results := [.lit (.bool false)], args := [d1, d2] }
  | _ => none }
def SigsPutsWrongFalsely : Prop := sigsPutsRow.holds Try.pinned (OpenSpec.ofChange sigsPutsWrong)

/-- 'sealringlaw07.TreeChecks': WHATEVER THE INPUT: true; the input reads as it did. -/
def treeChecksSpec : ChangeSpec := { name := "treeChecks", fn := fun _ => fun
  | [d1, d2] => { results := [.lit (.bool true)], args := [d1, d2] }
  | _ => none }
def treeChecksRow : OpenClaim := { program := "ytbnmcnghmnhigaa", sum := "98ae5698605300bf037b79a287e89fec5c5a93ab4cd04624a121e82f6e4d194e", func := "sealring/sealringlaw07.TreeChecks", spec := "treeChecks", inPlace := ["internal/bytealg.abigen_runtime_cmpstring"], unfollowed := true, recurses := true, loops := true, apart := false }
def TreeChecksSaid : Prop := treeChecksRow.holds Try.pinned (OpenSpec.ofChange treeChecksSpec)

/-- ITS FALSE NEIGHBOUR: 'it returns false'. Refute it at one input. -/
def treeChecksWrong : ChangeSpec := { name := "treeChecks", fn := fun _ => fun
  | [d1, d2] => { results := [.lit (.bool false)], args := [d1, d2] }
  | _ => none }
def TreeChecksWrongFalsely : Prop := treeChecksRow.holds Try.pinned (OpenSpec.ofChange treeChecksWrong)

/-- 'sealringlaw32.KeepTells': WHATEVER THE INPUT: true; the input reads as it did. -/
def keepTellsSpec : ChangeSpec := { name := "keepTells", fn := fun _ => fun
  | [d1, d2, d3] => { results := [.lit (.bool true)], args := [d1, d2, d3] }
  | _ => none }
def keepTellsRow : OpenClaim := { program := "ytbnmcnghmnhigaa", sum := "98ae5698605300bf037b79a287e89fec5c5a93ab4cd04624a121e82f6e4d194e", func := "sealring/sealringlaw32.KeepTells", spec := "keepTells", unfollowed := true, recurses := true, apart := false }
def KeepTellsSaid : Prop := keepTellsRow.holds Try.pinned (OpenSpec.ofChange keepTellsSpec)

/-- ITS FALSE NEIGHBOUR: 'it returns false'. Refute it at one input. -/
def keepTellsWrong : ChangeSpec := { name := "keepTells", fn := fun _ => fun
  | [d1, d2, d3] => { results := [.lit (.bool false)], args := [d1, d2, d3] }
  | _ => none }
def KeepTellsWrongFalsely : Prop := keepTellsRow.holds Try.pinned (OpenSpec.ofChange keepTellsWrong)

/-- 'sealringlaw32.KeepGrows': WHATEVER THE INPUT: true; the input reads as it did. -/
def keepGrowsSpec : ChangeSpec := { name := "keepGrows", fn := fun _ => fun
  | [d1, d2] => { results := [.lit (.bool true)], args := [d1, d2] }
  | _ => none }
def keepGrowsRow : OpenClaim := { program := "ytbnmcnghmnhigaa", sum := "98ae5698605300bf037b79a287e89fec5c5a93ab4cd04624a121e82f6e4d194e", func := "sealring/sealringlaw32.KeepGrows", spec := "keepGrows", unfollowed := true, recurses := true, apart := false }
def KeepGrowsSaid : Prop := keepGrowsRow.holds Try.pinned (OpenSpec.ofChange keepGrowsSpec)

/-- ITS FALSE NEIGHBOUR: 'it returns false'. Refute it at one input. -/
def keepGrowsWrong : ChangeSpec := { name := "keepGrows", fn := fun _ => fun
  | [d1, d2] => { results := [.lit (.bool false)], args := [d1, d2] }
  | _ => none }
def KeepGrowsWrongFalsely : Prop := keepGrowsRow.holds Try.pinned (OpenSpec.ofChange keepGrowsWrong)

/-- 'sealringlaw07.TreeParts': WHATEVER THE INPUT: true; the input reads as it did. -/
def treePartsSpec : ChangeSpec := { name := "treeParts", fn := fun _ => fun
  | [d1, d2, d3] => { results := [.lit (.bool true)], args := [d1, d2, d3] }
  | _ => none }
def treePartsRow : OpenClaim := { program := "ytbnmcnghmnhigaa", sum := "98ae5698605300bf037b79a287e89fec5c5a93ab4cd04624a121e82f6e4d194e", func := "sealring/sealringlaw07.TreeParts", spec := "treeParts", inPlace := ["internal/bytealg.abigen_runtime_cmpstring"], unfollowed := true, recurses := true, loops := true, apart := false }
def TreePartsSaid : Prop := treePartsRow.holds Try.pinned (OpenSpec.ofChange treePartsSpec)

/-- ITS FALSE NEIGHBOUR: 'it returns false'. Refute it at one input. -/
def treePartsWrong : ChangeSpec := { name := "treeParts", fn := fun _ => fun
  | [d1, d2, d3] => { results := [.lit (.bool false)], args := [d1, d2, d3] }
  | _ => none }
def TreePartsWrongFalsely : Prop := treePartsRow.holds Try.pinned (OpenSpec.ofChange treePartsWrong)

/-- 'sealringlaw07.TreeMakes': WHATEVER THE INPUT: true; the input reads as it did. -/
def treeMakesSpec : ChangeSpec := { name := "treeMakes", fn := fun _ => fun
  | [d1, d2, d3] => { results := [.lit (.bool true)], args := [d1, d2, d3] }
  | _ => none }
def treeMakesRow : OpenClaim := { program := "ytbnmcnghmnhigaa", sum := "98ae5698605300bf037b79a287e89fec5c5a93ab4cd04624a121e82f6e4d194e", func := "sealring/sealringlaw07.TreeMakes", spec := "treeMakes", inPlace := ["internal/bytealg.abigen_runtime_cmpstring"], unfollowed := true, recurses := true, loops := true, apart := false }
def TreeMakesSaid : Prop := treeMakesRow.holds Try.pinned (OpenSpec.ofChange treeMakesSpec)

/-- ITS FALSE NEIGHBOUR: 'it returns false'. Refute it at one input. -/
def treeMakesWrong : ChangeSpec := { name := "treeMakes", fn := fun _ => fun
  | [d1, d2, d3] => { results := [.lit (.bool false)], args := [d1, d2, d3] }
  | _ => none }
def TreeMakesWrongFalsely : Prop := treeMakesRow.holds Try.pinned (OpenSpec.ofChange treeMakesWrong)

/- THE SECOND FORM. 'bulk': how many values and letters a reading holds, each counted each time it is reached (what is shared counts as often as it is met; a slice's spare places count too). A statement '..UptoSaid' is the law's where the arguments, and the package variables that the reading takes, are together of bulk at most 1048576: NARROWER than '..Said'. Prove '..Said' where nothing that the law and all that it calls make is longer than what came in: it says more and counts as full. Else prove '..UptoSaid'. A law counts once. -/
mutual
def uptoBulk {H : Type} : DataW H → Nat
  | .lit (.string bytes) => bytes.length + 1
  | .lit _ => 1
  | .nil => 1
  | .ptr d => uptoBulk d + 1
  | .slice elems spare => uptoBulkAll elems + uptoBulkAll spare + 1
  | .agg parts => uptoBulkAll parts + 1
  | .iface _ d => uptoBulk d + 1
  | .map entries => uptoBulkEntries entries + 1
  | .held _ => 1
def uptoBulkAll {H : Type} : List (DataW H) → Nat
  | [] => 0
  | d :: r => uptoBulk d + uptoBulkAll r
def uptoBulkEntries {H : Type} : List (Lit × DataW H) → Nat
  | [] => 0
  | x :: r => uptoBulkEntry x + uptoBulkEntries r
def uptoBulkEntry {H : Type} : Lit × DataW H → Nat
  | (.string bytes, d) => bytes.length + uptoBulk d + 1
  | (_, d) => uptoBulk d + 1
 end
def uptoSmall : (H : Type) → List (DataW H) → Bool := fun _ ds => decide (uptoBulkAll ds ≤ 1048576)
def OpenSpec.upto (s : _root_.Go.ChangeSpec) : _root_.Go.OpenSpec := { _root_.Go.OpenSpec.ofChange s with cond := some uptoSmall }

/-- 'sealringlaw57.PowerTells', WHERE WHAT IT READS IS OF BULK AT MOST 1048576: true; the input reads as it did. -/
def powerTellsUptoRow : OpenClaim := { program := "ytbnmcnghmnhigaa", sum := "98ae5698605300bf037b79a287e89fec5c5a93ab4cd04624a121e82f6e4d194e", func := "sealring/sealringlaw57.PowerTells", spec := "powerTells", unfollowed := true, recurses := true, loops := true, apart := false, narrowed := true }
def PowerTellsUptoSaid : Prop := powerTellsUptoRow.holds Try.pinned (OpenSpec.upto powerTellsSpec)

/-- 'sealringlaw57.PowerMore', WHERE WHAT IT READS IS OF BULK AT MOST 1048576: true; the input reads as it did. -/
def powerMoreUptoRow : OpenClaim := { program := "ytbnmcnghmnhigaa", sum := "98ae5698605300bf037b79a287e89fec5c5a93ab4cd04624a121e82f6e4d194e", func := "sealring/sealringlaw57.PowerMore", spec := "powerMore", unfollowed := true, recurses := true, loops := true, apart := false, narrowed := true }
def PowerMoreUptoSaid : Prop := powerMoreUptoRow.holds Try.pinned (OpenSpec.upto powerMoreSpec)

/-- 'sealringlaw29.FieldRules', WHERE WHAT IT READS IS OF BULK AT MOST 1048576: true; the input reads as it did. -/
def fieldRulesUptoRow : OpenClaim := { program := "ytbnmcnghmnhigaa", sum := "98ae5698605300bf037b79a287e89fec5c5a93ab4cd04624a121e82f6e4d194e", func := "sealring/sealringlaw29.FieldRules", spec := "fieldRules", unfollowed := true, recurses := true, apart := false, narrowed := true }
def FieldRulesUptoSaid : Prop := fieldRulesUptoRow.holds Try.pinned (OpenSpec.upto fieldRulesSpec)

/-- 'sealringlaw29.FieldChecks', WHERE WHAT IT READS IS OF BULK AT MOST 1048576: true; the input reads as it did. -/
def fieldChecksUptoRow : OpenClaim := { program := "ytbnmcnghmnhigaa", sum := "98ae5698605300bf037b79a287e89fec5c5a93ab4cd04624a121e82f6e4d194e", func := "sealring/sealringlaw29.FieldChecks", spec := "fieldChecks", unfollowed := true, recurses := true, loops := true, apart := false, narrowed := true }
def FieldChecksUptoSaid : Prop := fieldChecksUptoRow.holds Try.pinned (OpenSpec.upto fieldChecksSpec)

/-- 'sealringlaw38.SigsPuts', WHERE WHAT IT READS IS OF BULK AT MOST 1048576: true; the input reads as it did. -/
def sigsPutsUptoRow : OpenClaim := { program := "ytbnmcnghmnhigaa", sum := "98ae5698605300bf037b79a287e89fec5c5a93ab4cd04624a121e82f6e4d194e", func := "sealring/sealringlaw38.SigsPuts", spec := "sigsPuts", inPlace := ["internal/bytealg.abigen_runtime_cmpstring"], unfollowed := true, recurses := true, loops := true, apart := false, narrowed := true }
def SigsPutsUptoSaid : Prop := sigsPutsUptoRow.holds Try.pinned (OpenSpec.upto sigsPutsSpec)

/-- 'sealringlaw07.TreeChecks', WHERE WHAT IT READS IS OF BULK AT MOST 1048576: true; the input reads as it did. -/
def treeChecksUptoRow : OpenClaim := { program := "ytbnmcnghmnhigaa", sum := "98ae5698605300bf037b79a287e89fec5c5a93ab4cd04624a121e82f6e4d194e", func := "sealring/sealringlaw07.TreeChecks", spec := "treeChecks", inPlace := ["internal/bytealg.abigen_runtime_cmpstring"], unfollowed := true, recurses := true, loops := true, apart := false, narrowed := true }
def TreeChecksUptoSaid : Prop := treeChecksUptoRow.holds Try.pinned (OpenSpec.upto treeChecksSpec)

/-- 'sealringlaw32.KeepTells', WHERE WHAT IT READS IS OF BULK AT MOST 1048576: true; the input reads as it did. -/
def keepTellsUptoRow : OpenClaim := { program := "ytbnmcnghmnhigaa", sum := "98ae5698605300bf037b79a287e89fec5c5a93ab4cd04624a121e82f6e4d194e", func := "sealring/sealringlaw32.KeepTells", spec := "keepTells", unfollowed := true, recurses := true, apart := false, narrowed := true }
def KeepTellsUptoSaid : Prop := keepTellsUptoRow.holds Try.pinned (OpenSpec.upto keepTellsSpec)

/-- 'sealringlaw32.KeepGrows', WHERE WHAT IT READS IS OF BULK AT MOST 1048576: true; the input reads as it did. -/
def keepGrowsUptoRow : OpenClaim := { program := "ytbnmcnghmnhigaa", sum := "98ae5698605300bf037b79a287e89fec5c5a93ab4cd04624a121e82f6e4d194e", func := "sealring/sealringlaw32.KeepGrows", spec := "keepGrows", unfollowed := true, recurses := true, apart := false, narrowed := true }
def KeepGrowsUptoSaid : Prop := keepGrowsUptoRow.holds Try.pinned (OpenSpec.upto keepGrowsSpec)

/-- 'sealringlaw07.TreeParts', WHERE WHAT IT READS IS OF BULK AT MOST 1048576: true; the input reads as it did. -/
def treePartsUptoRow : OpenClaim := { program := "ytbnmcnghmnhigaa", sum := "98ae5698605300bf037b79a287e89fec5c5a93ab4cd04624a121e82f6e4d194e", func := "sealring/sealringlaw07.TreeParts", spec := "treeParts", inPlace := ["internal/bytealg.abigen_runtime_cmpstring"], unfollowed := true, recurses := true, loops := true, apart := false, narrowed := true }
def TreePartsUptoSaid : Prop := treePartsUptoRow.holds Try.pinned (OpenSpec.upto treePartsSpec)

/-- 'sealringlaw07.TreeMakes', WHERE WHAT IT READS IS OF BULK AT MOST 1048576: true; the input reads as it did. -/
def treeMakesUptoRow : OpenClaim := { program := "ytbnmcnghmnhigaa", sum := "98ae5698605300bf037b79a287e89fec5c5a93ab4cd04624a121e82f6e4d194e", func := "sealring/sealringlaw07.TreeMakes", spec := "treeMakes", inPlace := ["internal/bytealg.abigen_runtime_cmpstring"], unfollowed := true, recurses := true, loops := true, apart := false, narrowed := true }
def TreeMakesUptoSaid : Prop := treeMakesUptoRow.holds Try.pinned (OpenSpec.upto treeMakesSpec)

end Rows
end Go.Proofs.Ytbnmcnghmnhigaa
