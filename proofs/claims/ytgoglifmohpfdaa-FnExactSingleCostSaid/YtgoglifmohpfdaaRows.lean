/-
  No cell of these rows narrows 'for every input' (looked for: loops, veiled, ifaces, maps, wideKeys, modest, calm, conditions, laid).
  DERIVED. THE GIVEN ROWS OF THIS SEAT. 11 by the template 'for every input the law returns true; each argument reads behind the call as it read before'; 0 by the template 'total and deterministic' (their statements: YtgoglifmohpfdaaTotals.lean).
  GIVEN WITH THE SEED: the statements are not yours to turn. If you find one false, say at which input.
  Laid BY PROGRAM, IN A SANDBOX (cutbox-rows.mjs): the forced cells as the released guide's own fill.sh prints them over the translation 39b1201c70245dc9… (all of the seat's roots in one cut). By AI agents, Wed Nov 11 2026. No macro, syntax, notation, axiom, sorry.
-/
import Derived.Test.YtgoglifmohpfdaaChecked
import GoSem.Claim
import GoSem.ClaimJoined
import GoSem.ClaimMapViews
import Derived.JoinedTies
import Derived.KernelRfl
namespace Go.Proofs.Ytgoglifmohpfdaa
/- THE CELL 'sum', in the pinned program and in every row, IS THE sha256 OF THE DUMP (.gsa) THAT YtgoglifmohpfdaaProg.lean LOADS. Nothing in Lean hashes anything: it is a label: what it is worth is what the hold of that sum in a sandbox is worth. -/
noncomputable def Try.pinned : Pinned := { name := "ytgoglifmohpfdaa", sum := "39b1201c70245dc9f4fd1d7ac054ba7b260a1a5d231319d020bbcd93bdedfccf", checked := Try.checked }
namespace Rows
def none {H : Type} : Left H := { results := [], args := [] }

/-- 'laws.FnExactConstants': WHATEVER THE INPUT: true; the input reads as it did. -/
def fnExactConstantsSpec : ChangeSpec := { name := "fnExactConstants", fn := fun _ => fun
  | [] => { results := [.lit (.bool true)], args := [] }
  | _ => none }
def fnExactConstantsRow : OpenClaim := { program := "ytgoglifmohpfdaa", sum := "39b1201c70245dc9f4fd1d7ac054ba7b260a1a5d231319d020bbcd93bdedfccf", func := "loop.example/g01179/laws.FnExactConstants", spec := "fnExactConstants", apart := false }
def FnExactConstantsSaid : Prop := fnExactConstantsRow.holds Try.pinned (OpenSpec.ofChange fnExactConstantsSpec)

/-- ITS FALSE NEIGHBOUR: 'it returns false'. Refute it at one input. -/
def fnExactConstantsWrong : ChangeSpec := { name := "fnExactConstants", fn := fun _ => fun
  | [] => { results := [.lit (.bool false)], args := [] }
  | _ => none }
def FnExactConstantsWrongFalsely : Prop := fnExactConstantsRow.holds Try.pinned (OpenSpec.ofChange fnExactConstantsWrong)

/-- 'laws.FnExactLessString': WHATEVER THE INPUT: true; the input reads as it did. -/
def fnExactLessStringSpec : ChangeSpec := { name := "fnExactLessString", fn := fun _ => fun
  | [d1, d2] => { results := [.lit (.bool true)], args := [d1, d2] }
  | _ => none }
def fnExactLessStringRow : OpenClaim := { program := "ytgoglifmohpfdaa", sum := "39b1201c70245dc9f4fd1d7ac054ba7b260a1a5d231319d020bbcd93bdedfccf", func := "loop.example/g01179/laws.FnExactLessString", spec := "fnExactLessString", apart := false }
def FnExactLessStringSaid : Prop := fnExactLessStringRow.holds Try.pinned (OpenSpec.ofChange fnExactLessStringSpec)

/-- ITS FALSE NEIGHBOUR: 'it returns false'. Refute it at one input. -/
def fnExactLessStringWrong : ChangeSpec := { name := "fnExactLessString", fn := fun _ => fun
  | [d1, d2] => { results := [.lit (.bool false)], args := [d1, d2] }
  | _ => none }
def FnExactLessStringWrongFalsely : Prop := fnExactLessStringRow.holds Try.pinned (OpenSpec.ofChange fnExactLessStringWrong)

/-- 'laws.FnExactIsGrowRule': WHATEVER THE INPUT: true; the input reads as it did. -/
def fnExactIsGrowRuleSpec : ChangeSpec := { name := "fnExactIsGrowRule", fn := fun _ => fun
  | [d] => { results := [.lit (.bool true)], args := [d] }
  | _ => none }
def fnExactIsGrowRuleRow : OpenClaim := { program := "ytgoglifmohpfdaa", sum := "39b1201c70245dc9f4fd1d7ac054ba7b260a1a5d231319d020bbcd93bdedfccf", func := "loop.example/g01179/laws.FnExactIsGrowRule", spec := "fnExactIsGrowRule", apart := false }
def FnExactIsGrowRuleSaid : Prop := fnExactIsGrowRuleRow.holds Try.pinned (OpenSpec.ofChange fnExactIsGrowRuleSpec)

/-- ITS FALSE NEIGHBOUR: 'it returns false'. Refute it at one input. -/
def fnExactIsGrowRuleWrong : ChangeSpec := { name := "fnExactIsGrowRule", fn := fun _ => fun
  | [d] => { results := [.lit (.bool false)], args := [d] }
  | _ => none }
def FnExactIsGrowRuleWrongFalsely : Prop := fnExactIsGrowRuleRow.holds Try.pinned (OpenSpec.ofChange fnExactIsGrowRuleWrong)

/-- 'laws.FnExactChecksum': WHATEVER THE INPUT: true; the input reads as it did. -/
def fnExactChecksumSpec : ChangeSpec := { name := "fnExactChecksum", fn := fun _ => fun
  | [d] => { results := [.lit (.bool true)], args := [d] }
  | _ => none }
def fnExactChecksumRow : OpenClaim := { program := "ytgoglifmohpfdaa", sum := "39b1201c70245dc9f4fd1d7ac054ba7b260a1a5d231319d020bbcd93bdedfccf", func := "loop.example/g01179/laws.FnExactChecksum", spec := "fnExactChecksum", apart := false }
def FnExactChecksumSaid : Prop := fnExactChecksumRow.holds Try.pinned (OpenSpec.ofChange fnExactChecksumSpec)

/-- ITS FALSE NEIGHBOUR: 'it returns false'. Refute it at one input. -/
def fnExactChecksumWrong : ChangeSpec := { name := "fnExactChecksum", fn := fun _ => fun
  | [d] => { results := [.lit (.bool false)], args := [d] }
  | _ => none }
def FnExactChecksumWrongFalsely : Prop := fnExactChecksumRow.holds Try.pinned (OpenSpec.ofChange fnExactChecksumWrong)

/-- 'laws.FnExactGrowsFast': WHATEVER THE INPUT: true; the input reads as it did. -/
def fnExactGrowsFastSpec : ChangeSpec := { name := "fnExactGrowsFast", fn := fun _ => fun
  | [d] => { results := [.lit (.bool true)], args := [d] }
  | _ => none }
def fnExactGrowsFastRow : OpenClaim := { program := "ytgoglifmohpfdaa", sum := "39b1201c70245dc9f4fd1d7ac054ba7b260a1a5d231319d020bbcd93bdedfccf", func := "loop.example/g01179/laws.FnExactGrowsFast", spec := "fnExactGrowsFast", apart := false }
def FnExactGrowsFastSaid : Prop := fnExactGrowsFastRow.holds Try.pinned (OpenSpec.ofChange fnExactGrowsFastSpec)

/-- ITS FALSE NEIGHBOUR: 'it returns false'. Refute it at one input. -/
def fnExactGrowsFastWrong : ChangeSpec := { name := "fnExactGrowsFast", fn := fun _ => fun
  | [d] => { results := [.lit (.bool false)], args := [d] }
  | _ => none }
def FnExactGrowsFastWrongFalsely : Prop := fnExactGrowsFastRow.holds Try.pinned (OpenSpec.ofChange fnExactGrowsFastWrong)

/-- 'laws.FnExactNextCap': WHATEVER THE INPUT: true; the input reads as it did. -/
def fnExactNextCapSpec : ChangeSpec := { name := "fnExactNextCap", fn := fun _ => fun
  | [d1, d2, d3, d4] => { results := [.lit (.bool true)], args := [d1, d2, d3, d4] }
  | _ => none }
def fnExactNextCapRow : OpenClaim := { program := "ytgoglifmohpfdaa", sum := "39b1201c70245dc9f4fd1d7ac054ba7b260a1a5d231319d020bbcd93bdedfccf", func := "loop.example/g01179/laws.FnExactNextCap", spec := "fnExactNextCap", apart := false }
def FnExactNextCapSaid : Prop := fnExactNextCapRow.holds Try.pinned (OpenSpec.ofChange fnExactNextCapSpec)

/-- ITS FALSE NEIGHBOUR: 'it returns false'. Refute it at one input. -/
def fnExactNextCapWrong : ChangeSpec := { name := "fnExactNextCap", fn := fun _ => fun
  | [d1, d2, d3, d4] => { results := [.lit (.bool false)], args := [d1, d2, d3, d4] }
  | _ => none }
def FnExactNextCapWrongFalsely : Prop := fnExactNextCapRow.holds Try.pinned (OpenSpec.ofChange fnExactNextCapWrong)

/-- 'laws.FnExactIsMemory': WHATEVER THE INPUT: true; the input reads as it did. -/
def fnExactIsMemorySpec : ChangeSpec := { name := "fnExactIsMemory", fn := fun _ => fun
  | [d] => { results := [.lit (.bool true)], args := [d] }
  | _ => none }
def fnExactIsMemoryRow : OpenClaim := { program := "ytgoglifmohpfdaa", sum := "39b1201c70245dc9f4fd1d7ac054ba7b260a1a5d231319d020bbcd93bdedfccf", func := "loop.example/g01179/laws.FnExactIsMemory", spec := "fnExactIsMemory", apart := false }
def FnExactIsMemorySaid : Prop := fnExactIsMemoryRow.holds Try.pinned (OpenSpec.ofChange fnExactIsMemorySpec)

/-- ITS FALSE NEIGHBOUR: 'it returns false'. Refute it at one input. -/
def fnExactIsMemoryWrong : ChangeSpec := { name := "fnExactIsMemory", fn := fun _ => fun
  | [d] => { results := [.lit (.bool false)], args := [d] }
  | _ => none }
def FnExactIsMemoryWrongFalsely : Prop := fnExactIsMemoryRow.holds Try.pinned (OpenSpec.ofChange fnExactIsMemoryWrong)

/-- 'laws.FnExactSingleCost': WHATEVER THE INPUT: true; the input reads as it did. -/
def fnExactSingleCostSpec : ChangeSpec := { name := "fnExactSingleCost", fn := fun _ => fun
  | [d1, d2] => { results := [.lit (.bool true)], args := [d1, d2] }
  | _ => none }
def fnExactSingleCostRow : OpenClaim := { program := "ytgoglifmohpfdaa", sum := "39b1201c70245dc9f4fd1d7ac054ba7b260a1a5d231319d020bbcd93bdedfccf", func := "loop.example/g01179/laws.FnExactSingleCost", spec := "fnExactSingleCost", apart := false }
def FnExactSingleCostSaid : Prop := fnExactSingleCostRow.holds Try.pinned (OpenSpec.ofChange fnExactSingleCostSpec)

/-- ITS FALSE NEIGHBOUR: 'it returns false'. Refute it at one input. -/
def fnExactSingleCostWrong : ChangeSpec := { name := "fnExactSingleCost", fn := fun _ => fun
  | [d1, d2] => { results := [.lit (.bool false)], args := [d1, d2] }
  | _ => none }
def FnExactSingleCostWrongFalsely : Prop := fnExactSingleCostRow.holds Try.pinned (OpenSpec.ofChange fnExactSingleCostWrong)

/-- 'laws.FnExactSingleMoves': WHATEVER THE INPUT: true; the input reads as it did. -/
def fnExactSingleMovesSpec : ChangeSpec := { name := "fnExactSingleMoves", fn := fun _ => fun
  | [d1, d2] => { results := [.lit (.bool true)], args := [d1, d2] }
  | _ => none }
def fnExactSingleMovesRow : OpenClaim := { program := "ytgoglifmohpfdaa", sum := "39b1201c70245dc9f4fd1d7ac054ba7b260a1a5d231319d020bbcd93bdedfccf", func := "loop.example/g01179/laws.FnExactSingleMoves", spec := "fnExactSingleMoves", apart := false }
def FnExactSingleMovesSaid : Prop := fnExactSingleMovesRow.holds Try.pinned (OpenSpec.ofChange fnExactSingleMovesSpec)

/-- ITS FALSE NEIGHBOUR: 'it returns false'. Refute it at one input. -/
def fnExactSingleMovesWrong : ChangeSpec := { name := "fnExactSingleMoves", fn := fun _ => fun
  | [d1, d2] => { results := [.lit (.bool false)], args := [d1, d2] }
  | _ => none }
def FnExactSingleMovesWrongFalsely : Prop := fnExactSingleMovesRow.holds Try.pinned (OpenSpec.ofChange fnExactSingleMovesWrong)

/-- 'laws.FnExactWholeWindow': WHATEVER THE INPUT: true; the input reads as it did. -/
def fnExactWholeWindowSpec : ChangeSpec := { name := "fnExactWholeWindow", fn := fun _ => fun
  | [d1, d2] => { results := [.lit (.bool true)], args := [d1, d2] }
  | _ => none }
def fnExactWholeWindowRow : OpenClaim := { program := "ytgoglifmohpfdaa", sum := "39b1201c70245dc9f4fd1d7ac054ba7b260a1a5d231319d020bbcd93bdedfccf", func := "loop.example/g01179/laws.FnExactWholeWindow", spec := "fnExactWholeWindow", apart := false }
def FnExactWholeWindowSaid : Prop := fnExactWholeWindowRow.holds Try.pinned (OpenSpec.ofChange fnExactWholeWindowSpec)

/-- ITS FALSE NEIGHBOUR: 'it returns false'. Refute it at one input. -/
def fnExactWholeWindowWrong : ChangeSpec := { name := "fnExactWholeWindow", fn := fun _ => fun
  | [d1, d2] => { results := [.lit (.bool false)], args := [d1, d2] }
  | _ => none }
def FnExactWholeWindowWrongFalsely : Prop := fnExactWholeWindowRow.holds Try.pinned (OpenSpec.ofChange fnExactWholeWindowWrong)

/-- 'laws.FnExactIsWindow': WHATEVER THE INPUT: true; the input reads as it did. -/
def fnExactIsWindowSpec : ChangeSpec := { name := "fnExactIsWindow", fn := fun _ => fun
  | [d1, d2] => { results := [.lit (.bool true)], args := [d1, d2] }
  | _ => none }
def fnExactIsWindowRow : OpenClaim := { program := "ytgoglifmohpfdaa", sum := "39b1201c70245dc9f4fd1d7ac054ba7b260a1a5d231319d020bbcd93bdedfccf", func := "loop.example/g01179/laws.FnExactIsWindow", spec := "fnExactIsWindow", apart := false }
def FnExactIsWindowSaid : Prop := fnExactIsWindowRow.holds Try.pinned (OpenSpec.ofChange fnExactIsWindowSpec)

/-- ITS FALSE NEIGHBOUR: 'it returns false'. Refute it at one input. -/
def fnExactIsWindowWrong : ChangeSpec := { name := "fnExactIsWindow", fn := fun _ => fun
  | [d1, d2] => { results := [.lit (.bool false)], args := [d1, d2] }
  | _ => none }
def FnExactIsWindowWrongFalsely : Prop := fnExactIsWindowRow.holds Try.pinned (OpenSpec.ofChange fnExactIsWindowWrong)

/- THE SECOND FORM. 'bulk': how many values and letters a reading holds, each counted each time it is reached (what is shared counts as often as it is met; a slice's spare places count too). A statement '..UptoSaid' is the law's where the arguments, and the package variables that the reading takes, are together of bulk at most 1048576: NARROWER than '..Said'. Prove '..Said' where nothing that the law and all that it calls make is longer than what came in: it says more and counts as full. Else prove '..UptoSaid'. A law counts once. -/
mutual
def uptoBulk {H : Type} : DataW H → Nat
  | .lit (.string bytes) => bytes.length + 1
  | .lit _ => 1
  | .nil => 1
  | .ptr d => uptoBulk d + 1
  | .slice elems spare => uptoBulkAll elems + uptoBulkAll spare + 1
  | .agg parts => uptoBulkAll parts + 1
  | .iface _ d => uptoBulk d + 1
  | .map entries => uptoBulkEntries entries + 1
  | .held _ => 1
def uptoBulkAll {H : Type} : List (DataW H) → Nat
  | [] => 0
  | d :: r => uptoBulk d + uptoBulkAll r
def uptoBulkEntries {H : Type} : List (Lit × DataW H) → Nat
  | [] => 0
  | x :: r => uptoBulkEntry x + uptoBulkEntries r
def uptoBulkEntry {H : Type} : Lit × DataW H → Nat
  | (.string bytes, d) => bytes.length + uptoBulk d + 1
  | (_, d) => uptoBulk d + 1
 end
def uptoSmall : (H : Type) → List (DataW H) → Bool := fun _ ds => decide (uptoBulkAll ds ≤ 1048576)
def OpenSpec.upto (s : _root_.Go.ChangeSpec) : _root_.Go.OpenSpec := { _root_.Go.OpenSpec.ofChange s with cond := some uptoSmall }

/-- 'laws.FnExactConstants', WHERE WHAT IT READS IS OF BULK AT MOST 1048576: true; the input reads as it did. -/
def fnExactConstantsUptoRow : OpenClaim := { program := "ytgoglifmohpfdaa", sum := "39b1201c70245dc9f4fd1d7ac054ba7b260a1a5d231319d020bbcd93bdedfccf", func := "loop.example/g01179/laws.FnExactConstants", spec := "fnExactConstants", apart := false, narrowed := true }
def FnExactConstantsUptoSaid : Prop := fnExactConstantsUptoRow.holds Try.pinned (OpenSpec.upto fnExactConstantsSpec)

/-- 'laws.FnExactLessString', WHERE WHAT IT READS IS OF BULK AT MOST 1048576: true; the input reads as it did. -/
def fnExactLessStringUptoRow : OpenClaim := { program := "ytgoglifmohpfdaa", sum := "39b1201c70245dc9f4fd1d7ac054ba7b260a1a5d231319d020bbcd93bdedfccf", func := "loop.example/g01179/laws.FnExactLessString", spec := "fnExactLessString", apart := false, narrowed := true }
def FnExactLessStringUptoSaid : Prop := fnExactLessStringUptoRow.holds Try.pinned (OpenSpec.upto fnExactLessStringSpec)

/-- 'laws.FnExactIsGrowRule', WHERE WHAT IT READS IS OF BULK AT MOST 1048576: true; the input reads as it did. -/
def fnExactIsGrowRuleUptoRow : OpenClaim := { program := "ytgoglifmohpfdaa", sum := "39b1201c70245dc9f4fd1d7ac054ba7b260a1a5d231319d020bbcd93bdedfccf", func := "loop.example/g01179/laws.FnExactIsGrowRule", spec := "fnExactIsGrowRule", apart := false, narrowed := true }
def FnExactIsGrowRuleUptoSaid : Prop := fnExactIsGrowRuleUptoRow.holds Try.pinned (OpenSpec.upto fnExactIsGrowRuleSpec)

/-- 'laws.FnExactChecksum', WHERE WHAT IT READS IS OF BULK AT MOST 1048576: true; the input reads as it did. -/
def fnExactChecksumUptoRow : OpenClaim := { program := "ytgoglifmohpfdaa", sum := "39b1201c70245dc9f4fd1d7ac054ba7b260a1a5d231319d020bbcd93bdedfccf", func := "loop.example/g01179/laws.FnExactChecksum", spec := "fnExactChecksum", apart := false, narrowed := true }
def FnExactChecksumUptoSaid : Prop := fnExactChecksumUptoRow.holds Try.pinned (OpenSpec.upto fnExactChecksumSpec)

/-- 'laws.FnExactGrowsFast', WHERE WHAT IT READS IS OF BULK AT MOST 1048576: true; the input reads as it did. -/
def fnExactGrowsFastUptoRow : OpenClaim := { program := "ytgoglifmohpfdaa", sum := "39b1201c70245dc9f4fd1d7ac054ba7b260a1a5d231319d020bbcd93bdedfccf", func := "loop.example/g01179/laws.FnExactGrowsFast", spec := "fnExactGrowsFast", apart := false, narrowed := true }
def FnExactGrowsFastUptoSaid : Prop := fnExactGrowsFastUptoRow.holds Try.pinned (OpenSpec.upto fnExactGrowsFastSpec)

/-- 'laws.FnExactNextCap', WHERE WHAT IT READS IS OF BULK AT MOST 1048576: true; the input reads as it did. -/
def fnExactNextCapUptoRow : OpenClaim := { program := "ytgoglifmohpfdaa", sum := "39b1201c70245dc9f4fd1d7ac054ba7b260a1a5d231319d020bbcd93bdedfccf", func := "loop.example/g01179/laws.FnExactNextCap", spec := "fnExactNextCap", apart := false, narrowed := true }
def FnExactNextCapUptoSaid : Prop := fnExactNextCapUptoRow.holds Try.pinned (OpenSpec.upto fnExactNextCapSpec)

/-- 'laws.FnExactIsMemory', WHERE WHAT IT READS IS OF BULK AT MOST 1048576: true; the input reads as it did. -/
def fnExactIsMemoryUptoRow : OpenClaim := { program := "ytgoglifmohpfdaa", sum := "39b1201c70245dc9f4fd1d7ac054ba7b260a1a5d231319d020bbcd93bdedfccf", func := "loop.example/g01179/laws.FnExactIsMemory", spec := "fnExactIsMemory", apart := false, narrowed := true }
def FnExactIsMemoryUptoSaid : Prop := fnExactIsMemoryUptoRow.holds Try.pinned (OpenSpec.upto fnExactIsMemorySpec)

/-- 'laws.FnExactSingleCost', WHERE WHAT IT READS IS OF BULK AT MOST 1048576: true; the input reads as it did. -/
def fnExactSingleCostUptoRow : OpenClaim := { program := "ytgoglifmohpfdaa", sum := "39b1201c70245dc9f4fd1d7ac054ba7b260a1a5d231319d020bbcd93bdedfccf", func := "loop.example/g01179/laws.FnExactSingleCost", spec := "fnExactSingleCost", apart := false, narrowed := true }
def FnExactSingleCostUptoSaid : Prop := fnExactSingleCostUptoRow.holds Try.pinned (OpenSpec.upto fnExactSingleCostSpec)

/-- 'laws.FnExactSingleMoves', WHERE WHAT IT READS IS OF BULK AT MOST 1048576: true; the input reads as it did. -/
def fnExactSingleMovesUptoRow : OpenClaim := { program := "ytgoglifmohpfdaa", sum := "39b1201c70245dc9f4fd1d7ac054ba7b260a1a5d231319d020bbcd93bdedfccf", func := "loop.example/g01179/laws.FnExactSingleMoves", spec := "fnExactSingleMoves", apart := false, narrowed := true }
def FnExactSingleMovesUptoSaid : Prop := fnExactSingleMovesUptoRow.holds Try.pinned (OpenSpec.upto fnExactSingleMovesSpec)

/-- 'laws.FnExactWholeWindow', WHERE WHAT IT READS IS OF BULK AT MOST 1048576: true; the input reads as it did. -/
def fnExactWholeWindowUptoRow : OpenClaim := { program := "ytgoglifmohpfdaa", sum := "39b1201c70245dc9f4fd1d7ac054ba7b260a1a5d231319d020bbcd93bdedfccf", func := "loop.example/g01179/laws.FnExactWholeWindow", spec := "fnExactWholeWindow", apart := false, narrowed := true }
def FnExactWholeWindowUptoSaid : Prop := fnExactWholeWindowUptoRow.holds Try.pinned (OpenSpec.upto fnExactWholeWindowSpec)

/-- 'laws.FnExactIsWindow', WHERE WHAT IT READS IS OF BULK AT MOST 1048576: true; the input reads as it did. -/
def fnExactIsWindowUptoRow : OpenClaim := { program := "ytgoglifmohpfdaa", sum := "39b1201c70245dc9f4fd1d7ac054ba7b260a1a5d231319d020bbcd93bdedfccf", func := "loop.example/g01179/laws.FnExactIsWindow", spec := "fnExactIsWindow", apart := false, narrowed := true }
def FnExactIsWindowUptoSaid : Prop := fnExactIsWindowUptoRow.holds Try.pinned (OpenSpec.upto fnExactIsWindowSpec)

end Rows
end Go.Proofs.Ytgoglifmohpfdaa
