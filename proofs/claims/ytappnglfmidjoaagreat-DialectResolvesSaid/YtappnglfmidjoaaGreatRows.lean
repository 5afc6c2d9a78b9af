/-
  No cell of these rows narrows 'for every input' (looked for: loops, veiled, ifaces, maps, wideKeys, modest, calm, conditions, laid).
  DERIVED. THE GIVEN ROWS OF THIS SEAT. 4 by the template 'for every input the law returns true; each argument reads behind the call as it read before'; 0 by the template 'total and deterministic' (their statements: YtappnglfmidjoaaGreatTotals.lean).
  GIVEN WITH THE SEED: the statements are not yours to turn. If you find one false, say at which input.
  Laid BY PROGRAM, IN A SANDBOX (cutbox-rows.mjs): the forced cells as the released guide's own fill.sh prints them over the translation 9ecf132ff0a6a9a2… (all of the seat's roots in one cut). By AI agents, Wed Nov 11 2026. No macro, syntax, notation, axiom, sorry.
-/
import Derived.Test.YtappnglfmidjoaaGreatChecked
import GoSem.Claim
import GoSem.ClaimJoined
import GoSem.ClaimMapViews
import Derived.JoinedTies
import Derived.KernelRfl
namespace Go.Proofs.YtappnglfmidjoaaGreat
/- THE CELL 'sum', in the pinned program and in every row, IS THE sha256 OF THE DUMP (.gsa) THAT YtappnglfmidjoaaGreatProg.lean LOADS. Nothing in Lean hashes anything: it is a label: what it is worth is what the hold of that sum in a sandbox is worth. -/
noncomputable def Tryz.pinned : Pinned := { name := "ytappnglfmidjoaagreat", sum := "9ecf132ff0a6a9a227254fbd1cc67b1eb941f5e32272eafb05c1b91dfab8a4fe", checked := Tryz.checked }
namespace Rows
def none {H : Type} : Left H := { results := [], args := [] }

/-- 'orchestrionlaw06.DialectCells': WHATEVER THE INPUT: true; the input reads as it did. -/
def dialectCellsSpec : ChangeSpec := { name := "dialectCells", fn := fun _ => fun
  | [d1, d2] => { results := [.lit (.bool true)], args := [d1, d2] }
  | _ => none }
def dialectCellsRow : OpenClaim := { program := "ytappnglfmidjoaagreat", sum := "9ecf132ff0a6a9a227254fbd1cc67b1eb941f5e32272eafb05c1b91dfab8a4fe", func := "orchestrion/orchestrionlaw06.DialectCells", spec := "dialectCells", inPlace := ["internal/bytealg.IndexByteString"], unfollowed := true, recurses := true, apart := false }
def DialectCellsSaid : Prop := dialectCellsRow.holds Tryz.pinned (OpenSpec.ofChange dialectCellsSpec)

/-- ITS FALSE NEIGHBOUR: 'it returns false'. Refute it at one input. -/
def dialectCellsWrong : ChangeSpec := { name := "dialectCells", fn := fun _ => fun
  | [d1, d2] => { results := [.lit (.bool false)], args := [d1, d2] }
  | _ => none }
def DialectCellsWrongFalsely : Prop := dialectCellsRow.holds Tryz.pinned (OpenSpec.ofChange dialectCellsWrong)

/-- 'orchestrionlaw06.DialectResolves': WHATEVER THE INPUT: true; the input reads as it did. -/
def dialectResolvesSpec : ChangeSpec := { name := "dialectResolves", fn := fun _ => fun
  | [d1, d2, d3] => { results := [.lit (.bool true)], args := [d1, d2, d3] }
  | _ => none }
def dialectResolvesRow : OpenClaim := { program := "ytappnglfmidjoaagreat", sum := "9ecf132ff0a6a9a227254fbd1cc67b1eb941f5e32272eafb05c1b91dfab8a4fe", func := "orchestrion/orchestrionlaw06.DialectResolves", spec := "dialectResolves", inPlace := ["internal/bytealg.IndexByteString"], unfollowed := true, recurses := true, apart := false }
def DialectResolvesSaid : Prop := dialectResolvesRow.holds Tryz.pinned (OpenSpec.ofChange dialectResolvesSpec)

/-- ITS FALSE NEIGHBOUR: 'it returns false'. Refute it at one input. -/
def dialectResolvesWrong : ChangeSpec := { name := "dialectResolves", fn := fun _ => fun
  | [d1, d2, d3] => { results := [.lit (.bool false)], args := [d1, d2, d3] }
  | _ => none }
def DialectResolvesWrongFalsely : Prop := dialectResolvesRow.holds Tryz.pinned (OpenSpec.ofChange dialectResolvesWrong)

/-- 'orchestrionlaw06.DialectRecalls': WHATEVER THE INPUT: true; the input reads as it did. -/
def dialectRecallsSpec : ChangeSpec := { name := "dialectRecalls", fn := fun _ => fun
  | [d1, d2, d3] => { results := [.lit (.bool true)], args := [d1, d2, d3] }
  | _ => none }
def dialectRecallsRow : OpenClaim := { program := "ytappnglfmidjoaagreat", sum := "9ecf132ff0a6a9a227254fbd1cc67b1eb941f5e32272eafb05c1b91dfab8a4fe", func := "orchestrion/orchestrionlaw06.DialectRecalls", spec := "dialectRecalls", inPlace := ["internal/bytealg.IndexByteString"], unfollowed := true, recurses := true, apart := false }
def DialectRecallsSaid : Prop := dialectRecallsRow.holds Tryz.pinned (OpenSpec.ofChange dialectRecallsSpec)

/-- ITS FALSE NEIGHBOUR: 'it returns false'. Refute it at one input. -/
def dialectRecallsWrong : ChangeSpec := { name := "dialectRecalls", fn := fun _ => fun
  | [d1, d2, d3] => { results := [.lit (.bool false)], args := [d1, d2, d3] }
  | _ => none }
def DialectRecallsWrongFalsely : Prop := dialectRecallsRow.holds Tryz.pinned (OpenSpec.ofChange dialectRecallsWrong)

/-- 'orchestrionlaw06.DialectTables': WHATEVER THE INPUT: true; the input reads as it did. -/
def dialectTablesSpec : ChangeSpec := { name := "dialectTables", fn := fun _ => fun
  | [d1, d2] => { results := [.lit (.bool true)], args := [d1, d2] }
  | _ => none }
def dialectTablesRow : OpenClaim := { program := "ytappnglfmidjoaagreat", sum := "9ecf132ff0a6a9a227254fbd1cc67b1eb941f5e32272eafb05c1b91dfab8a4fe", func := "orchestrion/orchestrionlaw06.DialectTables", spec := "dialectTables", inPlace := ["internal/bytealg.IndexByteString"], unfollowed := true, recurses := true, apart := false }
def DialectTablesSaid : Prop := dialectTablesRow.holds Tryz.pinned (OpenSpec.ofChange dialectTablesSpec)

/-- ITS FALSE NEIGHBOUR: 'it returns false'. Refute it at one input. -/
def dialectTablesWrong : ChangeSpec := { name := "dialectTables", fn := fun _ => fun
  | [d1, d2] => { results := [.lit (.bool false)], args := [d1, d2] }
  | _ => none }
def DialectTablesWrongFalsely : Prop := dialectTablesRow.holds Tryz.pinned (OpenSpec.ofChange dialectTablesWrong)

/- THE SECOND FORM. 'bulk': how many values and letters a reading holds, each counted each time it is reached (what is shared counts as often as it is met; a slice's spare places count too). A statement '..UptoSaid' is the law's where the arguments, and the package variables that the reading takes, are together of bulk at most 1048576: NARROWER than '..Said'. Prove '..Said' where nothing that the law and all that it calls make is longer than what came in: it says more and counts as full. Else prove '..UptoSaid'. A law counts once. -/
mutual
def uptoBulk {H : Type} : DataW H → Nat
  | .lit (.string bytes) => bytes.length + 1
  | .lit _ => 1
  | .nil => 1
  | .ptr d => uptoBulk d + 1
  | .slice elems spare => uptoBulkAll elems + uptoBulkAll spare + 1
  | .agg parts => uptoBulkAll parts + 1
  | .iface _ d => uptoBulk d + 1
  | .map entries => uptoBulkEntries entries + 1
  | .held _ => 1
def uptoBulkAll {H : Type} : List (DataW H) → Nat
  | [] => 0
  | d :: r => uptoBulk d + uptoBulkAll r
def uptoBulkEntries {H : Type} : List (Lit × DataW H) → Nat
  | [] => 0
  | x :: r => uptoBulkEntry x + uptoBulkEntries r
def uptoBulkEntry {H : Type} : Lit × DataW H → Nat
  | (.string bytes, d) => bytes.length + uptoBulk d + 1
  | (_, d) => uptoBulk d + 1
 end
def uptoSmall : (H : Type) → List (DataW H) → Bool := fun _ ds => decide (uptoBulkAll ds ≤ 1048576)
def OpenSpec.upto (s : _root_.Go.ChangeSpec) : _root_.Go.OpenSpec := { _root_.Go.OpenSpec.ofChange s with cond := some uptoSmall }

/-- 'orchestrionlaw06.DialectCells', WHERE WHAT IT READS IS OF BULK AT MOST 1048576: true; the input reads as it did. -/
def dialectCellsUptoRow : OpenClaim := { program := "ytappnglfmidjoaagreat", sum := "9ecf132ff0a6a9a227254fbd1cc67b1eb941f5e32272eafb05c1b91dfab8a4fe", func := "orchestrion/orchestrionlaw06.DialectCells", spec := "dialectCells", inPlace := ["internal/bytealg.IndexByteString"], unfollowed := true, recurses := true, apart := false, narrowed := true }
def DialectCellsUptoSaid : Prop := dialectCellsUptoRow.holds Tryz.pinned (OpenSpec.upto dialectCellsSpec)

/-- 'orchestrionlaw06.DialectResolves', WHERE WHAT IT READS IS OF BULK AT MOST 1048576: true; the input reads as it did. -/
def dialectResolvesUptoRow : OpenClaim := { program := "ytappnglfmidjoaagreat", sum := "9ecf132ff0a6a9a227254fbd1cc67b1eb941f5e32272eafb05c1b91dfab8a4fe", func := "orchestrion/orchestrionlaw06.DialectResolves", spec := "dialectResolves", inPlace := ["internal/bytealg.IndexByteString"], unfollowed := true, recurses := true, apart := false, narrowed := true }
def DialectResolvesUptoSaid : Prop := dialectResolvesUptoRow.holds Tryz.pinned (OpenSpec.upto dialectResolvesSpec)

/-- 'orchestrionlaw06.DialectRecalls', WHERE WHAT IT READS IS OF BULK AT MOST 1048576: true; the input reads as it did. -/
def dialectRecallsUptoRow : OpenClaim := { program := "ytappnglfmidjoaagreat", sum := "9ecf132ff0a6a9a227254fbd1cc67b1eb941f5e32272eafb05c1b91dfab8a4fe", func := "orchestrion/orchestrionlaw06.DialectRecalls", spec := "dialectRecalls", inPlace := ["internal/bytealg.IndexByteString"], unfollowed := true, recurses := true, apart := false, narrowed := true }
def DialectRecallsUptoSaid : Prop := dialectRecallsUptoRow.holds Tryz.pinned (OpenSpec.upto dialectRecallsSpec)

/-- 'orchestrionlaw06.DialectTables', WHERE WHAT IT READS IS OF BULK AT MOST 1048576: true; the input reads as it did. -/
def dialectTablesUptoRow : OpenClaim := { program := "ytappnglfmidjoaagreat", sum := "9ecf132ff0a6a9a227254fbd1cc67b1eb941f5e32272eafb05c1b91dfab8a4fe", func := "orchestrion/orchestrionlaw06.DialectTables", spec := "dialectTables", inPlace := ["internal/bytealg.IndexByteString"], unfollowed := true, recurses := true, apart := false, narrowed := true }
def DialectTablesUptoSaid : Prop := dialectTablesUptoRow.holds Tryz.pinned (OpenSpec.upto dialectTablesSpec)

end Rows
end Go.Proofs.YtappnglfmidjoaaGreat
