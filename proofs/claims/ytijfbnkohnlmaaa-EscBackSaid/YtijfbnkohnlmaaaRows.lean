/-
  No cell of these rows narrows 'for every input' (looked for: loops, veiled, ifaces, maps, wideKeys, modest, calm, conditions, laid).
  DERIVED. THE GIVEN ROWS OF THIS SEAT. 6 by the template 'for every input the law returns true; each argument reads behind the call as it read before'; 0 by the template 'total and deterministic' (their statements: YtijfbnkohnlmaaaTotals.lean).
  GIVEN WITH THE SEED: the statements are not yours to turn. If you find one false, say at which input.
  Laid BY PROGRAM, IN A SANDBOX (cutbox-rows.mjs): the forced cells as the released guide's own fill.sh prints them over the translation 742ae01bf54b2b40… (all of the seat's roots in one cut). By AI agents, Wed Nov 11 2026. No macro, syntax, notation, axiom, sorry.
-/
import Derived.Test.YtijfbnkohnlmaaaChecked
import GoSem.Claim
import GoSem.ClaimJoined
import GoSem.ClaimMapViews
import Derived.JoinedTies
import Derived.KernelRfl
namespace Go.Proofs.Ytijfbnkohnlmaaa
/- THE CELL 'sum', in the pinned program and in every row, IS THE sha256 OF THE DUMP (.gsa) THAT YtijfbnkohnlmaaaProg.lean LOADS. Nothing in Lean hashes anything: it is a label: what it is worth is what the hold of that sum in a sandbox is worth. -/
noncomputable def Try.pinned : Pinned := { name := "ytijfbnkohnlmaaa", sum := "742ae01bf54b2b40713cb47c6cd57462758662ab8c2b185e559dcc4ce677dbaf", checked := Try.checked }
namespace Rows
def none {H : Type} : Left H := { results := [], args := [] }

/-- 'sealringlaw03.UtfPuts': WHATEVER THE INPUT: true; the input reads as it did. -/
def utfPutsSpec : ChangeSpec := { name := "utfPuts", fn := fun _ => fun
  | [d] => { results := [.lit (.bool true)], args := [d] }
  | _ => none }
def utfPutsRow : OpenClaim := { program := "ytijfbnkohnlmaaa", sum := "742ae01bf54b2b40713cb47c6cd57462758662ab8c2b185e559dcc4ce677dbaf", func := "sealring/sealringlaw03.UtfPuts", spec := "utfPuts", unfollowed := true, recurses := true, apart := false }
def UtfPutsSaid : Prop := utfPutsRow.holds Try.pinned (OpenSpec.ofChange utfPutsSpec)

/-- ITS FALSE NEIGHBOUR: 'it returns false'. Refute it at one input. -/
def utfPutsWrong : ChangeSpec := { name := "utfPuts", fn := fun _ => fun
  | [d] => { results := [.lit (.bool false)], args := [d] }
  | _ => none }
def UtfPutsWrongFalsely : Prop := utfPutsRow.holds Try.pinned (OpenSpec.ofChange utfPutsWrong)

/-- 'sealringlaw03.UtfReads': WHATEVER THE INPUT: true; the input reads as it did. -/
def utfReadsSpec : ChangeSpec := { name := "utfReads", fn := fun _ => fun
  | [d1, d2, d3] => { results := [.lit (.bool true)], args := [d1, d2, d3] }
  | _ => none }
def utfReadsRow : OpenClaim := { program := "ytijfbnkohnlmaaa", sum := "742ae01bf54b2b40713cb47c6cd57462758662ab8c2b185e559dcc4ce677dbaf", func := "sealring/sealringlaw03.UtfReads", spec := "utfReads", unfollowed := true, recurses := true, apart := false }
def UtfReadsSaid : Prop := utfReadsRow.holds Try.pinned (OpenSpec.ofChange utfReadsSpec)

/-- ITS FALSE NEIGHBOUR: 'it returns false'. Refute it at one input. -/
def utfReadsWrong : ChangeSpec := { name := "utfReads", fn := fun _ => fun
  | [d1, d2, d3] => { results := [.lit (.bool false)], args := [d1, d2, d3] }
  | _ => none }
def UtfReadsWrongFalsely : Prop := utfReadsRow.holds Try.pinned (OpenSpec.ofChange utfReadsWrong)

/-- 'sealringlaw03.UtfOrders': WHATEVER THE INPUT: true; the input reads as it did. -/
def utfOrdersSpec : ChangeSpec := { name := "utfOrders", fn := fun _ => fun
  | [d1, d2] => { results := [.lit (.bool true)], args := [d1, d2] }
  | _ => none }
def utfOrdersRow : OpenClaim := { program := "ytijfbnkohnlmaaa", sum := "742ae01bf54b2b40713cb47c6cd57462758662ab8c2b185e559dcc4ce677dbaf", func := "sealring/sealringlaw03.UtfOrders", spec := "utfOrders", inPlace := ["internal/bytealg.abigen_runtime_cmpstring"], unfollowed := true, recurses := true, apart := false }
def UtfOrdersSaid : Prop := utfOrdersRow.holds Try.pinned (OpenSpec.ofChange utfOrdersSpec)

/-- ITS FALSE NEIGHBOUR: 'it returns false'. Refute it at one input. -/
def utfOrdersWrong : ChangeSpec := { name := "utfOrders", fn := fun _ => fun
  | [d1, d2] => { results := [.lit (.bool false)], args := [d1, d2] }
  | _ => none }
def UtfOrdersWrongFalsely : Prop := utfOrdersRow.holds Try.pinned (OpenSpec.ofChange utfOrdersWrong)

/-- 'sealringlaw04.EscReads': WHATEVER THE INPUT: true; the input reads as it did. -/
def escReadsSpec : ChangeSpec := { name := "escReads", fn := fun _ => fun
  | [d1, d2] => { results := [.lit (.bool true)], args := [d1, d2] }
  | _ => none }
def escReadsRow : OpenClaim := { program := "ytijfbnkohnlmaaa", sum := "742ae01bf54b2b40713cb47c6cd57462758662ab8c2b185e559dcc4ce677dbaf", func := "sealring/sealringlaw04.EscReads", spec := "escReads", unfollowed := true, recurses := true, apart := false }
def EscReadsSaid : Prop := escReadsRow.holds Try.pinned (OpenSpec.ofChange escReadsSpec)

/-- ITS FALSE NEIGHBOUR: 'it returns false'. Refute it at one input. -/
def escReadsWrong : ChangeSpec := { name := "escReads", fn := fun _ => fun
  | [d1, d2] => { results := [.lit (.bool false)], args := [d1, d2] }
  | _ => none }
def EscReadsWrongFalsely : Prop := escReadsRow.holds Try.pinned (OpenSpec.ofChange escReadsWrong)

/-- 'sealringlaw04.EscBack': WHATEVER THE INPUT: true; the input reads as it did. -/
def escBackSpec : ChangeSpec := { name := "escBack", fn := fun _ => fun
  | [d1, d2] => { results := [.lit (.bool true)], args := [d1, d2] }
  | _ => none }
def escBackRow : OpenClaim := { program := "ytijfbnkohnlmaaa", sum := "742ae01bf54b2b40713cb47c6cd57462758662ab8c2b185e559dcc4ce677dbaf", func := "sealring/sealringlaw04.EscBack", spec := "escBack", unfollowed := true, recurses := true, apart := false }
def EscBackSaid : Prop := escBackRow.holds Try.pinned (OpenSpec.ofChange escBackSpec)

/-- ITS FALSE NEIGHBOUR: 'it returns false'. Refute it at one input. -/
def escBackWrong : ChangeSpec := { name := "escBack", fn := fun _ => fun
  | [d1, d2] => { results := [.lit (.bool false)], args := [d1, d2] }
  | _ => none }
def EscBackWrongFalsely : Prop := escBackRow.holds Try.pinned (OpenSpec.ofChange escBackWrong)

/-- 'sealringlaw04.EscQuotes': WHATEVER THE INPUT: true; the input reads as it did. -/
def escQuotesSpec : ChangeSpec := { name := "escQuotes", fn := fun _ => fun
  | [d] => { results := [.lit (.bool true)], args := [d] }
  | _ => none }
def escQuotesRow : OpenClaim := { program := "ytijfbnkohnlmaaa", sum := "742ae01bf54b2b40713cb47c6cd57462758662ab8c2b185e559dcc4ce677dbaf", func := "sealring/sealringlaw04.EscQuotes", spec := "escQuotes", unfollowed := true, recurses := true, apart := false }
def EscQuotesSaid : Prop := escQuotesRow.holds Try.pinned (OpenSpec.ofChange escQuotesSpec)

/-- ITS FALSE NEIGHBOUR: 'it returns false'. Refute it at one input. -/
def escQuotesWrong : ChangeSpec := { name := "escQuotes", fn := fun _ => fun
  | [d] => { results := [.lit (.bool false)], args := [d] }
  | _ => none }
def EscQuotesWrongFalsely : Prop := escQuotesRow.holds Try.pinned (OpenSpec.ofChange escQuotesWrong)

/- THE SECOND FORM. 'bulk': how many values and letters a reading holds, each counted each time it is reached (what is shared counts as often as it is met; a slice's spare places count too). A statement '..UptoSaid' is the law's where the arguments, and the package variables that the reading takes, are together of bulk at most 1048576: NARROWER than '..Said'. Prove '..Said' where nothing that the law and all that it calls make is longer than what came in: it says more and counts as full. Else prove '..UptoSaid'. A law counts once. -/
mutual
def uptoBulk {H : Type} : DataW H → Nat
  | .lit (.string bytes) => bytes.length + 1
  | .lit _ => 1
  | .nil => 1
  | .ptr d => uptoBulk d + 1
  | .slice elems spare => uptoBulkAll elems + uptoBulkAll spare + 1
  | .agg parts => uptoBulkAll parts + 1
  | .iface _ d => uptoBulk d + 1
  | .map entries => uptoBulkEntries entries + 1
  | .held _ => 1
def uptoBulkAll {H : Type} : List (DataW H) → Nat
  | [] => 0
  | d :: r => uptoBulk d + uptoBulkAll r
def uptoBulkEntries {H : Type} : List (Lit × DataW H) → Nat
  | [] => 0
  | x :: r => uptoBulkEntry x + uptoBulkEntries r
def uptoBulkEntry {H : Type} : Lit × DataW H → Nat
  | (.string bytes, d) => bytes.length + uptoBulk d + 1
  | (_, d) => uptoBulk d + 1
 end
def uptoSmall : (H : Type) → List (DataW H) → Bool := fun _ ds => decide (uptoBulkAll ds ≤ 1048576)
def OpenSpec.upto (s : _root_.Go.ChangeSpec) : _root_.Go.OpenSpec := { _root_.Go.OpenSpec.ofChange s with cond := some uptoSmall }

/-- 'sealringlaw03.UtfPuts', WHERE WHAT IT READS IS OF BULK AT MOST 1048576: true; the input reads as it did. -/
def utfPutsUptoRow : OpenClaim := { program := "ytijfbnkohnlmaaa", sum := "742ae01bf54b2b40713cb47c6cd57462758662ab8c2b185e559dcc4ce677dbaf", func := "sealring/sealringlaw03.UtfPuts", spec := "utfPuts", unfollowed := true, recurses := true, apart := false, narrowed := true }
def UtfPutsUptoSaid : Prop := utfPutsUptoRow.holds Try.pinned (OpenSpec.upto utfPutsSpec)

/-- 'sealringlaw03.UtfReads', WHERE WHAT IT READS IS OF BULK AT MOST 1048576: true; the input reads as it did. -/
def utfReadsUptoRow : OpenClaim := { program := "ytijfbnkohnlmaaa", sum := "742ae01bf54b2b40713cb47c6cd57462758662ab8c2b185e559dcc4ce677dbaf", func := "sealring/sealringlaw03.UtfReads", spec := "utfReads", unfollowed := true, recurses := true, apart := false, narrowed := true }
def UtfReadsUptoSaid : Prop := utfReadsUptoRow.holds Try.pinned (OpenSpec.upto utfReadsSpec)

/-- 'sealringlaw03.UtfOrders', WHERE WHAT IT READS IS OF BULK AT MOST 1048576: true; the input reads as it did. -/
def utfOrdersUptoRow : OpenClaim := { program := "ytijfbnkohnlmaaa", sum := "742ae01bf54b2b40713cb47c6cd57462758662ab8c2b185e559dcc4ce677dbaf", func := "sealring/sealringlaw03.UtfOrders", spec := "utfOrders", inPlace := ["internal/bytealg.abigen_runtime_cmpstring"], unfollowed := true, recurses := true, apart := false, narrowed := true }
def UtfOrdersUptoSaid : Prop := utfOrdersUptoRow.holds Try.pinned (OpenSpec.upto utfOrdersSpec)

/-- 'sealringlaw04.EscReads', WHERE WHAT IT READS IS OF BULK AT MOST 1048576: true; the input reads as it did. -/
def escReadsUptoRow : OpenClaim := { program := "ytijfbnkohnlmaaa", sum := "742ae01bf54b2b40713cb47c6cd57462758662ab8c2b185e559dcc4ce677dbaf", func := "sealring/sealringlaw04.EscReads", spec := "escReads", unfollowed := true, recurses := true, apart := false, narrowed := true }
def EscReadsUptoSaid : Prop := escReadsUptoRow.holds Try.pinned (OpenSpec.upto escReadsSpec)

/-- 'sealringlaw04.EscBack', WHERE WHAT IT READS IS OF BULK AT MOST 1048576: true; the input reads as it did. -/
def escBackUptoRow : OpenClaim := { program := "ytijfbnkohnlmaaa", sum := "742ae01bf54b2b40713cb47c6cd57462758662ab8c2b185e559dcc4ce677dbaf", func := "sealring/sealringlaw04.EscBack", spec := "escBack", unfollowed := true, recurses := true, apart := false, narrowed := true }
def EscBackUptoSaid : Prop := escBackUptoRow.holds Try.pinned (OpenSpec.upto escBackSpec)

/-- 'sealringlaw04.EscQuotes', WHERE WHAT IT READS IS OF BULK AT MOST 1048576: true; the input reads as it did. -/
def escQuotesUptoRow : OpenClaim := { program := "ytijfbnkohnlmaaa", sum := "742ae01bf54b2b40713cb47c6cd57462758662ab8c2b185e559dcc4ce677dbaf", func := "sealring/sealringlaw04.EscQuotes", spec := "escQuotes", unfollowed := true, recurses := true, apart := false, narrowed := true }
def EscQuotesUptoSaid : Prop := escQuotesUptoRow.holds Try.pinned (OpenSpec.upto escQuotesSpec)

end Rows
end Go.Proofs.Ytijfbnkohnlmaaa
