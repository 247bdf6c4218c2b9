/-
  NARROWER THAN 'FOR EVERY INPUT', by the rows' own cells (each row's printed sentence says how): SigsPuts: loops · TreeChecks: loops · TreeParts: loops · TreeMakes: loops · EduTells: loops · RedactAgain: loops.
  DERIVED. THE GIVEN ROWS OF THIS SEAT. 7 by the template 'for every input the law returns true; each argument reads behind the call as it read before'; 0 by the template 'total and deterministic' (their statements: YtjdldlphfifggaaTotals.lean).
  GIVEN WITH THE SEED: the statements are not yours to turn. If you find one false, say at which input.
  Laid BY PROGRAM, IN A SANDBOX (cutbox-rows.mjs): the forced cells as the released guide's own fill.sh prints them over the translation 5e56808e19514d1f… (all of the seat's roots in one cut). By AI agents, Wed Nov 11 2026. No macro, syntax, notation, axiom, sorry.
-/
import Derived.Test.YtjdldlphfifggaaChecked
import GoSem.Claim
import GoSem.ClaimJoined
import GoSem.ClaimMapViews
import Derived.JoinedTies
import Derived.KernelRfl
namespace Go.Proofs.Ytjdldlphfifggaa
/- THE CELL 'sum', in the pinned program and in every row, IS THE sha256 OF THE DUMP (.gsa) THAT YtjdldlphfifggaaProg.lean LOADS. Nothing in Lean hashes anything: it is a label: what it is worth is what the hold of that sum in a sandbox is worth. -/
noncomputable def Try.pinned : Pinned := { name := "ytjdldlphfifggaa", sum := "5e56808e19514d1fa8774345473f7256897b36a0a62da8feaa1707a254e04bcd", checked := Try.checked }
namespace Rows
def none {H : Type} : Left H := { results := [], args := [] }

/-- 'sealringlaw38.SigsPuts': WHATEVER THE INPUT: true; the input reads as it did. -/
def sigsPutsSpec : ChangeSpec := { name := "sigsPuts", fn := fun _ => fun
  | [d1, d2] => { results := [.lit (.bool true)], args := [d1, d2] }
  | _ => none }
def sigsPutsRow : OpenClaim := { program := "ytjdldlphfifggaa", sum := "5e56808e19514d1fa8774345473f7256897b36a0a62da8feaa1707a254e04bcd", func := "sealring/sealringlaw38.SigsPuts", spec := "sigsPuts", inPlace := ["internal/bytealg.abigen_runtime_cmpstring"], unfollowed := true, recurses := true, loops := true, apart := false }
def SigsPutsSaid : Prop := sigsPutsRow.holds Try.pinned (OpenSpec.ofChange sigsPutsSpec)

/-- ITS FALSE NEIGHBOUR: 'it returns false'. Refute it at one input. -/
def sigsPutsWrong : ChangeSpec := { name := "sigsPuts", fn := fun _ => fun
  | [d1, d2] => { results := [.lit (.bool false)], args := [d1, d2] }
  | _ => none }
def SigsPutsWrongFalsely : Prop := sigsPutsRow.holds Try.pinned (OpenSpec.ofChange sigsPutsWrong)

/-- 'sealringlaw07.TreeChecks': WHATEVER THE INPUT: true; the input reads as it did. -/
def treeChecksSpec : ChangeSpec := { name := "treeChecks", fn := fun _ => fun
  | [d1, d2] => { results := [.lit (.bool true)], args := [d1, d2] }
  | _ => none }
def treeChecksRow : OpenClaim := { program := "ytjdldlphfifggaa", sum := "5e56808e19514d1fa8774345473f7256897b36a0a62da8feaa1707a254e04bcd", func := "sealring/sealringlaw07.TreeChecks", spec := "treeChecks", inPlace := ["internal/bytealg.abigen_runtime_cmpstring"], unfollowed := true, recurses := true, loops := true, apart := false }
def TreeChecksSaid : Prop := treeChecksRow.holds Try.pinned (OpenSpec.ofChange treeChecksSpec)

/-- ITS FALSE NEIGHBOUR: 'it returns false'. Refute it at one input. -/
def treeChecksWrong : ChangeSpec := { name := "treeChecks", fn := fun _ => fun
  | [d1, d2] => { results := [.lit (.bool false)], args := [d1, d2] }
  | _ => none }
def TreeChecksWrongFalsely : Prop := treeChecksRow.holds Try.pinned (OpenSpec.ofChange treeChecksWrong)

/-- 'sealringlaw07.TreeParts': WHATEVER THE INPUT: true; the input reads as it did. -/
def treePartsSpec : ChangeSpec := { name := "treeParts", fn := fun _ => fun
  | [d1, d2, d3] => { results := [.lit (.bool true)], args := [d1, d2, d3] }
  | _ => none }
def treePartsRow : OpenClaim := { program := "ytjdldlphfifggaa", sum := "5e56808e19514d1fa8774345473f7256897b36a0a62da8feaa1707a254e04bcd", func := "sealring/sealringlaw07.TreeParts", spec := "treeParts", inPlace := ["internal/bytealg.abigen_runtime_cmpstring"], unfollowed := true, recurses := true, loops := true, apart := false }
def TreePartsSaid : Prop := treePartsRow.holds Try.pinned (OpenSpec.ofChange treePartsSpec)

/-- ITS FALSE NEIGHBOUR: 'it returns false'. Refute it at one input. -/
def treePartsWrong : ChangeSpec := { name := "treeParts", fn := fun _ => fun
  | [d1, d2, d3] => { results := [.lit (.bool false)], args := [d1, d2, d3] }
  | _ => none }
def TreePartsWrongFalsely : Prop := treePartsRow.holds Try.pinned (OpenSpec.ofChange treePartsWrong)

/-- 'sealringlaw07.TreeMakes': WHATEVER THE INPUT: true; the input reads as it did. -/
def treeMakesSpec : ChangeSpec := { name := "treeMakes", fn := fun _ => fun
  | [d1, d2, d3] => { results := [.lit (.bool true)], args := [d1, d2, d3] }
  | _ => none }
def treeMakesRow : OpenClaim := { program := "ytjdldlphfifggaa", sum := "5e56808e19514d1fa8774345473f7256897b36a0a62da8feaa1707a254e04bcd", func := "sealring/sealringlaw07.TreeMakes", spec := "treeMakes", inPlace := ["internal/bytealg.abigen_runtime_cmpstring"], unfollowed := true, recurses := true, loops := true, apart := false }
def TreeMakesSaid : Prop := treeMakesRow.holds Try.pinned (OpenSpec.ofChange treeMakesSpec)

/-- ITS FALSE NEIGHBOUR: 'it returns false'. Refute it at one input. -/
def treeMakesWrong : ChangeSpec := { name := "treeMakes", fn := fun _ => fun
  | [d1, d2, d3] => { results := [.lit (.bool false)], args := [d1, d2, d3] }
  | _ => none }
def TreeMakesWrongFalsely : Prop := treeMakesRow.holds Try.pinned (OpenSpec.ofChange treeMakesWrong)

/-- 'sealringlaw42.EduTells': WHATEVER THE INPUT: true; the input reads as it did. -/
def eduTellsSpec : ChangeSpec := { name := "eduTells", fn := fun _ => fun
  | [d] => { results := [.lit (.bool true)], args := [d] }
  | _ => none }
def eduTellsRow : OpenClaim := { program := "ytjdldlphfifggaa", sum := "5e56808e19514d1fa8774345473f7256897b36a0a62da8feaa1707a254e04bcd", func := "sealring/sealringlaw42.EduTells", spec := "eduTells", unfollowed := true, recurses := true, loops := true, apart := false }
def EduTellsSaid : Prop := eduTellsRow.holds Try.pinned (OpenSpec.ofChange eduTellsSpec)

/-- ITS FALSE NEIGHBOUR: 'it returns false'. Refute it at one input. -/
def eduTellsWrong : ChangeSpec := { name := "eduTells", fn := fun _ => fun
  | [d] => { results := [.lit (.bool false)], args := [d] }
  | _ => none }
def EduTellsWrongFalsely : Prop := eduTellsRow.holds Try.pinned (OpenSpec.ofChange eduTellsWrong)

/-- 'sealringlaw33.RedactAgain': WHATEVER THE INPUT: true; the input reads as it did. -/
def redactAgainSpec : ChangeSpec := { name := "redactAgain", fn := fun _ => fun
  | [d1, d2] => { results := [.lit (.bool true)], args := [d1, d2] }
  | _ => none }
def redactAgainRow : OpenClaim := { program := "ytjdldlphfifggaa", sum := "5e56808e19514d1fa8774345473f7256897b36a0a62da8feaa1707a254e04bcd", func := "sealring/sealringlaw33.RedactAgain", spec := "redactAgain", unfollowed := true, recurses := true, loops := true, apart := false }
def RedactAgainSaid : Prop := redactAgainRow.holds Try.pinned (OpenSpec.ofChange redactAgainSpec)

/-- ITS FALSE NEIGHBOUR: 'it returns false'. Refute it at one input. -/
def redactAgainWrong : ChangeSpec := { name := "redactAgain", fn := fun _ => fun
  | [d1, d2] => { results := [.lit (.bool false)], args := [d1, d2] }
  | _ => none }
def RedactAgainWrongFalsely : Prop := redactAgainRow.holds Try.pinned (OpenSpec.ofChange redactAgainWrong)

/-- 'sealringlaw33.RedactWitness': WHATEVER THE INPUT: true; the input reads as it did. -/
def redactWitnessSpec : ChangeSpec := { name := "redactWitness", fn := fun _ => fun
  | [d1, d2, d3] => { results := [.lit (.bool true)], args := [d1, d2, d3] }
  | _ => none }
def redactWitnessRow : OpenClaim := { program := "ytjdldlphfifggaa", sum := "5e56808e19514d1fa8774345473f7256897b36a0a62da8feaa1707a254e04bcd", func := "sealring/sealringlaw33.RedactWitness", spec := "redactWitness", unfollowed := true, recurses := true, apart := false }
def RedactWitnessSaid : Prop := redactWitnessRow.holds Try.pinned (OpenSpec.ofChange redactWitnessSpec)

/-- ITS FALSE NEIGHBOUR: 'it returns false'. Refute it at one input. -/
def redactWitnessWrong : ChangeSpec := { name := "redactWitness", fn := fun _ => fun
  | [d1, d2, d3] => { results := [.lit (.bool false)], args := [d1, d2, d3] }
  | _ => none }
def RedactWitnessWrongFalsely : Prop := redactWitnessRow.holds Try.pinned (OpenSpec.ofChange redactWitnessWrong)

/- THE SECOND FORM. 'bulk': how many values and letters a reading holds, each counted each time it is reached (what is shared counts as often as it is met; a slice's spare places count too). A statement '..UptoSaid' is the law's where the arguments, and the package variables that the reading takes, are together of bulk at most 1048576: NARROWER than '..Said'. Prove '..Said' where nothing that the law and all that it calls make is longer than what came in: it says more and counts as full. Else prove '..UptoSaid'. A law counts once. -/
mutual
def uptoBulk {H : Type} : DataW H → Nat
  | .lit (.string bytes) => bytes.length + 1
  | .lit _ => 1
  | .nil => 1
  | .ptr d => uptoBulk d + 1
  | .slice elems spare => uptoBulkAll elems + uptoBulkAll spare + 1
  | .agg parts => uptoBulkAll parts + 1
  | .iface _ d => uptoBulk d + 1
  | .map entries => uptoBulkEntries entries + 1
  | .held _ => 1
def uptoBulkAll {H : Type} : List (DataW H) → Nat
  | [] => 0
  | d :: r => uptoBulk d + uptoBulkAll r
def uptoBulkEntries {H : Type} : List (Lit × DataW H) → Nat
  | [] => 0
  | x :: r => uptoBulkEntry x + uptoBulkEntries r
def uptoBulkEntry {H : Type} : Lit × DataW H → Nat
  | (.string bytes, d) => bytes.length + uptoBulk d + 1
  | (_, d) => uptoBulk d + 1
 end
def uptoSmall : (H : Type) → List (DataW H) → Bool := fun _ ds => decide (uptoBulkAll ds ≤ 1048576)
def OpenSpec.upto (s : _root_.Go.ChangeSpec) : _root_.Go.OpenSpec := { _root_.Go.OpenSpec.ofChange s with cond := some uptoSmall }

/-- 'sealringlaw38.SigsPuts', WHERE WHAT IT READS IS OF BULK AT MOST 1048576: true; the input reads as it did. -/
def sigsPutsUptoRow : OpenClaim := { program := "ytjdldlphfifggaa", sum := "5e56808e19514d1fa8774345473f7256897b36a0a62da8feaa1707a254e04bcd", func := "sealring/sealringlaw38.SigsPuts", spec := "sigsPuts", inPlace := ["internal/bytealg.abigen_runtime_cmpstring"], unfollowed := true, recurses := true, loops := true, apart := false, narrowed := true }
def SigsPutsUptoSaid : Prop := sigsPutsUptoRow.holds Try.pinned (OpenSpec.upto sigsPutsSpec)

/-- 'sealringlaw07.TreeChecks', WHERE WHAT IT READS IS OF BULK AT MOST 1048576: true; the input reads as it did. -/
def treeChecksUptoRow : OpenClaim := { program := "ytjdldlphfifggaa", sum := "5e56808e19514d1fa8774345473f7256897b36a0a62da8feaa1707a254e04bcd", func := "sealring/sealringlaw07.TreeChecks", spec := "treeChecks", inPlace := ["internal/bytealg.abigen_runtime_cmpstring"], unfollowed := true, recurses := true, loops := true, apart := false, narrowed := true }
def TreeChecksUptoSaid : Prop := treeChecksUptoRow.holds Try.pinned (OpenSpec.upto treeChecksSpec)

/-- 'sealringlaw07.TreeParts', WHERE WHAT IT READS IS OF BULK AT MOST 1048576: true; the input reads as it did. -/
def treePartsUptoRow : OpenClaim := { program := "ytjdldlphfifggaa", sum := "5e56808e19514d1fa8774345473f7256897b36a0a62da8feaa1707a254e04bcd", func := "sealring/sealringlaw07.TreeParts", spec := "treeParts", inPlace := ["internal/bytealg.abigen_runtime_cmpstring"], unfollowed := true, recurses := true, loops := true, apart := false, narrowed := true }
def TreePartsUptoSaid : Prop := treePartsUptoRow.holds Try.pinned (OpenSpec.upto treePartsSpec)

/-- 'sealringlaw07.TreeMakes', WHERE WHAT IT READS IS OF BULK AT MOST 1048576: true; the input reads as it did. -/
def treeMakesUptoRow : OpenClaim := { program := "ytjdldlphfifggaa", sum := "5e56808e19514d1fa8774345473f7256897b36a0a62da8feaa1707a254e04bcd", func := "sealring/sealringlaw07.TreeMakes", spec := "treeMakes", inPlace := ["internal/bytealg.abigen_runtime_cmpstring"], unfollowed := true, recurses := true, loops := true, apart := false, narrowed := true }
def TreeMakesUptoSaid : Prop := treeMakesUptoRow.holds Try.pinned (OpenSpec.upto treeMakesSpec)

/-- 'sealringlaw42.EduTells', WHERE WHAT IT READS IS OF BULK AT MOST 1048576: true; the input reads as it did. -/
def eduTellsUptoRow : OpenClaim := { program := "ytjdldlphfifggaa", sum := "5e56808e19514d1fa8774345473f7256897b36a0a62da8feaa1707a254e04bcd", func := "sealring/sealringlaw42.EduTells", spec := "eduTells", unfollowed := true, recurses := true, loops := true, apart := false, narrowed := true }
def EduTellsUptoSaid : Prop := eduTellsUptoRow.holds Try.pinned (OpenSpec.upto eduTellsSpec)

/-- 'sealringlaw33.RedactAgain', WHERE WHAT IT READS IS OF BULK AT MOST 1048576: true; the input reads as it did. -/
def redactAgainUptoRow : OpenClaim := { program := "ytjdldlphfifggaa", sum := "5e56808e19514d1fa8774345473f7256897b36a0a62da8feaa1707a254e04bcd", func := "sealring/sealringlaw33.RedactAgain", spec := "redactAgain", unfollowed := true, recurses := true, loops := true, apart := false, narrowed := true }
def RedactAgainUptoSaid : Prop := redactAgainUptoRow.holds Try.pinned (OpenSpec.upto redactAgainSpec)

/-- 'sealringlaw33.RedactWitness', WHERE WHAT IT READS IS OF BULK AT MOST 1048576: true; the input reads as it did. -/
def redactWitnessUptoRow : OpenClaim := { program := "ytjdldlphfifggaa", sum := "5e56808e19514d1fa8774345473f7256897b36a0a62da8feaa1707a254e04bcd", func := "sealring/sealringlaw33.RedactWitness", spec := "redactWitness", unfollowed := true, recurses := true, apart := false, narrowed := true }
def RedactWitnessUptoSaid : Prop := redactWitnessUptoRow.holds Try.pinned (OpenSpec.upto redactWitnessSpec)

end Rows
end Go.Proofs.Ytjdldlphfifggaa
