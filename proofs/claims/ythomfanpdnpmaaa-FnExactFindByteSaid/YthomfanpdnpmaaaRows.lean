/-
  No cell of these rows narrows 'for every input' (looked for: loops, veiled, ifaces, maps, wideKeys, modest, calm, conditions, laid).
  DERIVED. THE GIVEN ROWS OF THIS SEAT. 10 by the template 'for every input the law returns true; each argument reads behind the call as it read before'; 0 by the template 'total and deterministic' (their statements: YthomfanpdnpmaaaTotals.lean).
  GIVEN WITH THE SEED: the statements are not yours to turn. If you find one false, say at which input.
  Laid BY PROGRAM, IN A SANDBOX (cutbox-rows.mjs): the forced cells as the released guide's own fill.sh prints them over the translation 3960edc4f5ea7de9… (all of the seat's roots in one cut). By AI agents, Wed Nov 11 2026. No macro, syntax, notation, axiom, sorry.
-/
import Derived.Test.YthomfanpdnpmaaaChecked
import GoSem.Claim
import GoSem.ClaimJoined
import GoSem.ClaimMapViews
import Derived.JoinedTies
import Derived.KernelRfl
namespace Go.Proofs.Ythomfanpdnpmaaa
/- THE CELL 'sum', in the pinned program and in every row, IS THE sha256 OF THE DUMP (.gsa) THAT YthomfanpdnpmaaaProg.lean LOADS. Nothing in Lean hashes anything: it is a label: what it is worth is what the hold of that sum in a sandbox is worth. -/
noncomputable def Try.pinned : Pinned := { name := "ythomfanpdnpmaaa", sum := "3960edc4f5ea7de94b4c4fae32e59ebe675f5839a7faf472b3f94726b24dc05a", checked := Try.checked }
namespace Rows
def none {H : Type} : Left H := { results := [], args := [] }

/-- 'laws.FnExactCostOf': WHATEVER THE INPUT: true; the input reads as it did. -/
def fnExactCostOfSpec : ChangeSpec := { name := "fnExactCostOf", fn := fun _ => fun
  | [d1, d2] => { results := [.lit (.bool true)], args := [d1, d2] }
  | _ => none }
def fnExactCostOfRow : OpenClaim := { program := "ythomfanpdnpmaaa", sum := "3960edc4f5ea7de94b4c4fae32e59ebe675f5839a7faf472b3f94726b24dc05a", func := "loop.example/g01179/laws.FnExactCostOf", spec := "fnExactCostOf", unfollowed := true, recurses := true, apart := false }
def FnExactCostOfSaid : Prop := fnExactCostOfRow.holds Try.pinned (OpenSpec.ofChange fnExactCostOfSpec)

/-- ITS FALSE NEIGHBOUR: 'it returns false'. Refute it at one input. -/
def fnExactCostOfWrong : ChangeSpec := { name := "fnExactCostOf", fn := fun _ => fun
  | [d1, d2] => { results := [.lit (.bool false)], args := [d1, d2] }
  | _ => none }
def FnExactCostOfWrongFalsely : Prop := fnExactCostOfRow.holds Try.pinned (OpenSpec.ofChange fnExactCostOfWrong)

/-- 'laws.FnExactMovesOf': WHATEVER THE INPUT: true; the input reads as it did. -/
def fnExactMovesOfSpec : ChangeSpec := { name := "fnExactMovesOf", fn := fun _ => fun
  | [d1, d2] => { results := [.lit (.bool true)], args := [d1, d2] }
  | _ => none }
def fnExactMovesOfRow : OpenClaim := { program := "ythomfanpdnpmaaa", sum := "3960edc4f5ea7de94b4c4fae32e59ebe675f5839a7faf472b3f94726b24dc05a", func := "loop.example/g01179/laws.FnExactMovesOf", spec := "fnExactMovesOf", unfollowed := true, recurses := true, apart := false }
def FnExactMovesOfSaid : Prop := fnExactMovesOfRow.holds Try.pinned (OpenSpec.ofChange fnExactMovesOfSpec)

/-- ITS FALSE NEIGHBOUR: 'it returns false'. Refute it at one input. -/
def fnExactMovesOfWrong : ChangeSpec := { name := "fnExactMovesOf", fn := fun _ => fun
  | [d1, d2] => { results := [.lit (.bool false)], args := [d1, d2] }
  | _ => none }
def FnExactMovesOfWrongFalsely : Prop := fnExactMovesOfRow.holds Try.pinned (OpenSpec.ofChange fnExactMovesOfWrong)

/-- 'laws.FnExactWorstWaste': WHATEVER THE INPUT: true; the input reads as it did. -/
def fnExactWorstWasteSpec : ChangeSpec := { name := "fnExactWorstWaste", fn := fun _ => fun
  | [d1, d2] => { results := [.lit (.bool true)], args := [d1, d2] }
  | _ => none }
def fnExactWorstWasteRow : OpenClaim := { program := "ythomfanpdnpmaaa", sum := "3960edc4f5ea7de94b4c4fae32e59ebe675f5839a7faf472b3f94726b24dc05a", func := "loop.example/g01179/laws.FnExactWorstWaste", spec := "fnExactWorstWaste", unfollowed := true, recurses := true, apart := false }
def FnExactWorstWasteSaid : Prop := fnExactWorstWasteRow.holds Try.pinned (OpenSpec.ofChange fnExactWorstWasteSpec)

/-- ITS FALSE NEIGHBOUR: 'it returns false'. Refute it at one input. -/
def fnExactWorstWasteWrong : ChangeSpec := { name := "fnExactWorstWaste", fn := fun _ => fun
  | [d1, d2] => { results := [.lit (.bool false)], args := [d1, d2] }
  | _ => none }
def FnExactWorstWasteWrongFalsely : Prop := fnExactWorstWasteRow.holds Try.pinned (OpenSpec.ofChange fnExactWorstWasteWrong)

/-- 'laws.FnExactReadAt': WHATEVER THE INPUT: true; the input reads as it did. -/
def fnExactReadAtSpec : ChangeSpec := { name := "fnExactReadAt", fn := fun _ => fun
  | [d1, d2, d3] => { results := [.lit (.bool true)], args := [d1, d2, d3] }
  | _ => none }
def fnExactReadAtRow : OpenClaim := { program := "ythomfanpdnpmaaa", sum := "3960edc4f5ea7de94b4c4fae32e59ebe675f5839a7faf472b3f94726b24dc05a", func := "loop.example/g01179/laws.FnExactReadAt", spec := "fnExactReadAt", unfollowed := true, recurses := true, apart := false }
def FnExactReadAtSaid : Prop := fnExactReadAtRow.holds Try.pinned (OpenSpec.ofChange fnExactReadAtSpec)

/-- ITS FALSE NEIGHBOUR: 'it returns false'. Refute it at one input. -/
def fnExactReadAtWrong : ChangeSpec := { name := "fnExactReadAt", fn := fun _ => fun
  | [d1, d2, d3] => { results := [.lit (.bool false)], args := [d1, d2, d3] }
  | _ => none }
def FnExactReadAtWrongFalsely : Prop := fnExactReadAtRow.holds Try.pinned (OpenSpec.ofChange fnExactReadAtWrong)

/-- 'laws.FnExactCapsOf': WHATEVER THE INPUT: true; the input reads as it did. -/
def fnExactCapsOfSpec : ChangeSpec := { name := "fnExactCapsOf", fn := fun _ => fun
  | [d1, d2] => { results := [.lit (.bool true)], args := [d1, d2] }
  | _ => none }
def fnExactCapsOfRow : OpenClaim := { program := "ythomfanpdnpmaaa", sum := "3960edc4f5ea7de94b4c4fae32e59ebe675f5839a7faf472b3f94726b24dc05a", func := "loop.example/g01179/laws.FnExactCapsOf", spec := "fnExactCapsOf", unfollowed := true, recurses := true, apart := false }
def FnExactCapsOfSaid : Prop := fnExactCapsOfRow.holds Try.pinned (OpenSpec.ofChange fnExactCapsOfSpec)

/-- ITS FALSE NEIGHBOUR: 'it returns false'. Refute it at one input. -/
def fnExactCapsOfWrong : ChangeSpec := { name := "fnExactCapsOf", fn := fun _ => fun
  | [d1, d2] => { results := [.lit (.bool false)], args := [d1, d2] }
  | _ => none }
def FnExactCapsOfWrongFalsely : Prop := fnExactCapsOfRow.holds Try.pinned (OpenSpec.ofChange fnExactCapsOfWrong)

/-- 'laws.FnExactFindByte': WHATEVER THE INPUT: true; the input reads as it did. -/
def fnExactFindByteSpec : ChangeSpec := { name := "fnExactFindByte", fn := fun _ => fun
  | [d1, d2, d3] => { results := [.lit (.bool true)], args := [d1, d2, d3] }
  | _ => none }
def fnExactFindByteRow : OpenClaim := { program := "ythomfanpdnpmaaa", sum := "3960edc4f5ea7de94b4c4fae32e59ebe675f5839a7faf472b3f94726b24dc05a", func := "loop.example/g01179/laws.FnExactFindByte", spec := "fnExactFindByte", inPlace := ["internal/bytealg.IndexByte"], unfollowed := true, recurses := true, apart := false }
def FnExactFindByteSaid : Prop := fnExactFindByteRow.holds Try.pinned (OpenSpec.ofChange fnExactFindByteSpec)

/-- ITS FALSE NEIGHBOUR: 'it returns false'. Refute it at one input. -/
def fnExactFindByteWrong : ChangeSpec := { name := "fnExactFindByte", fn := fun _ => fun
  | [d1, d2, d3] => { results := [.lit (.bool false)], args := [d1, d2, d3] }
  | _ => none }
def FnExactFindByteWrongFalsely : Prop := fnExactFindByteRow.holds Try.pinned (OpenSpec.ofChange fnExactFindByteWrong)

/-- 'laws.FnExactSliceThree': WHATEVER THE INPUT: true; the input reads as it did. -/
def fnExactSliceThreeSpec : ChangeSpec := { name := "fnExactSliceThree", fn := fun _ => fun
  | [d1, d2, d3, d4, d5] => { results := [.lit (.bool true)], args := [d1, d2, d3, d4, d5] }
  | _ => none }
def fnExactSliceThreeRow : OpenClaim := { program := "ythomfanpdnpmaaa", sum := "3960edc4f5ea7de94b4c4fae32e59ebe675f5839a7faf472b3f94726b24dc05a", func := "loop.example/g01179/laws.FnExactSliceThree", spec := "fnExactSliceThree", unfollowed := true, recurses := true, apart := false }
def FnExactSliceThreeSaid : Prop := fnExactSliceThreeRow.holds Try.pinned (OpenSpec.ofChange fnExactSliceThreeSpec)

/-- ITS FALSE NEIGHBOUR: 'it returns false'. Refute it at one input. -/
def fnExactSliceThreeWrong : ChangeSpec := { name := "fnExactSliceThree", fn := fun _ => fun
  | [d1, d2, d3, d4, d5] => { results := [.lit (.bool false)], args := [d1, d2, d3, d4, d5] }
  | _ => none }
def FnExactSliceThreeWrongFalsely : Prop := fnExactSliceThreeRow.holds Try.pinned (OpenSpec.ofChange fnExactSliceThreeWrong)

/-- 'laws.FnExactClipWindow': WHATEVER THE INPUT: true; the input reads as it did. -/
def fnExactClipWindowSpec : ChangeSpec := { name := "fnExactClipWindow", fn := fun _ => fun
  | [d1, d2] => { results := [.lit (.bool true)], args := [d1, d2] }
  | _ => none }
def fnExactClipWindowRow : OpenClaim := { program := "ythomfanpdnpmaaa", sum := "3960edc4f5ea7de94b4c4fae32e59ebe675f5839a7faf472b3f94726b24dc05a", func := "loop.example/g01179/laws.FnExactClipWindow", spec := "fnExactClipWindow", unfollowed := true, recurses := true, apart := false }
def FnExactClipWindowSaid : Prop := fnExactClipWindowRow.holds Try.pinned (OpenSpec.ofChange fnExactClipWindowSpec)

/-- ITS FALSE NEIGHBOUR: 'it returns false'. Refute it at one input. -/
def fnExactClipWindowWrong : ChangeSpec := { name := "fnExactClipWindow", fn := fun _ => fun
  | [d1, d2] => { results := [.lit (.bool false)], args := [d1, d2] }
  | _ => none }
def FnExactClipWindowWrongFalsely : Prop := fnExactClipWindowRow.holds Try.pinned (OpenSpec.ofChange fnExactClipWindowWrong)

/-- 'laws.FnExactSliceTwo': WHATEVER THE INPUT: true; the input reads as it did. -/
def fnExactSliceTwoSpec : ChangeSpec := { name := "fnExactSliceTwo", fn := fun _ => fun
  | [d1, d2, d3, d4] => { results := [.lit (.bool true)], args := [d1, d2, d3, d4] }
  | _ => none }
def fnExactSliceTwoRow : OpenClaim := { program := "ythomfanpdnpmaaa", sum := "3960edc4f5ea7de94b4c4fae32e59ebe675f5839a7faf472b3f94726b24dc05a", func := "loop.example/g01179/laws.FnExactSliceTwo", spec := "fnExactSliceTwo", unfollowed := true, recurses := true, apart := false }
def FnExactSliceTwoSaid : Prop := fnExactSliceTwoRow.holds Try.pinned (OpenSpec.ofChange fnExactSliceTwoSpec)

/-- ITS FALSE NEIGHBOUR: 'it returns false'. Refute it at one input. -/
def fnExactSliceTwoWrong : ChangeSpec := { name := "fnExactSliceTwo", fn := fun _ => fun
  | [d1, d2, d3, d4] => { results := [.lit (.bool false)], args := [d1, d2, d3, d4] }
  | _ => none }
def FnExactSliceTwoWrongFalsely : Prop := fnExactSliceTwoRow.holds Try.pinned (OpenSpec.ofChange fnExactSliceTwoWrong)

/-- 'laws.FnExactAreApart': WHATEVER THE INPUT: true; the input reads as it did. -/
def fnExactAreApartSpec : ChangeSpec := { name := "fnExactAreApart", fn := fun _ => fun
  | [d1, d2, d3] => { results := [.lit (.bool true)], args := [d1, d2, d3] }
  | _ => none }
def fnExactAreApartRow : OpenClaim := { program := "ythomfanpdnpmaaa", sum := "3960edc4f5ea7de94b4c4fae32e59ebe675f5839a7faf472b3f94726b24dc05a", func := "loop.example/g01179/laws.FnExactAreApart", spec := "fnExactAreApart", unfollowed := true, recurses := true, apart := false }
def FnExactAreApartSaid : Prop := fnExactAreApartRow.holds Try.pinned (OpenSpec.ofChange fnExactAreApartSpec)

/-- ITS FALSE NEIGHBOUR: 'it returns false'. Refute it at one input. -/
def fnExactAreApartWrong : ChangeSpec := { name := "fnExactAreApart", fn := fun _ => fun
  | [d1, d2, d3] => { results := [.lit (.bool false)], args := [d1, d2, d3] }
  | _ => none }
def FnExactAreApartWrongFalsely : Prop := fnExactAreApartRow.holds Try.pinned (OpenSpec.ofChange fnExactAreApartWrong)

/- THE SECOND FORM. 'bulk': how many values and letters a reading holds, each counted each time it is reached (what is shared counts as often as it is met; a slice's spare places count too). A statement '..UptoSaid' is the law's where the arguments, and the package variables that the reading takes, are together of bulk at most 1048576: NARROWER than '..Said'. Prove '..Said' where nothing that the law and all that it calls make is longer than what came in: it says more and counts as full. Else prove '..UptoSaid'. A law counts once. -/
mutual
def uptoBulk {H : Type} : DataW H → Nat
  | .lit (.string bytes) => bytes.length + 1
  | .lit _ => 1
  | .nil => 1
  | .ptr d => uptoBulk d + 1
  | .slice elems spare => uptoBulkAll elems + uptoBulkAll spare + 1
  | .agg parts => uptoBulkAll parts + 1
  | .iface _ d => uptoBulk d + 1
  | .map entries => uptoBulkEntries entries + 1
  | .held _ => 1
def uptoBulkAll {H : Type} : List (DataW H) → Nat
  | [] => 0
  | d :: r => uptoBulk d + uptoBulkAll r
def uptoBulkEntries {H : Type} : List (Lit × DataW H) → Nat
  | [] => 0
  | x :: r => uptoBulkEntry x + uptoBulkEntries r
def uptoBulkEntry {H : Type} : Lit × DataW H → Nat
  | (.string bytes, d) => bytes.length + uptoBulk d + 1
  | (_, d) => uptoBulk d + 1
 end
def uptoSmall : (H : Type) → List (DataW H) → Bool := fun _ ds => decide (uptoBulkAll ds ≤ 1048576)
def OpenSpec.upto (s : _root_.Go.ChangeSpec) : _root_.Go.OpenSpec := { _root_.Go.OpenSpec.ofChange s with cond := some uptoSmall }

/-- 'laws.FnExactCostOf', WHERE WHAT IT READS IS OF BULK AT MOST 1048576: true; the input reads as it did. -/
def fnExactCostOfUptoRow : OpenClaim := { program := "ythomfanpdnpmaaa", sum := "3960edc4f5ea7de94b4c4fae32e59ebe675f5839a7faf472b3f94726b24dc05a", func := "loop.example/g01179/laws.FnExactCostOf", spec := "fnExactCostOf", unfollowed := true, recurses := true, apart := false, narrowed := true }
def FnExactCostOfUptoSaid : Prop := fnExactCostOfUptoRow.holds Try.pinned (OpenSpec.upto fnExactCostOfSpec)

/-- 'laws.FnExactMovesOf', WHERE WHAT IT READS IS OF BULK AT MOST 1048576: true; the input reads as it did. -/
def fnExactMovesOfUptoRow : OpenClaim := { program := "ythomfanpdnpmaaa", sum := "3960edc4f5ea7de94b4c4fae32e59ebe675f5839a7faf472b3f94726b24dc05a", func := "loop.example/g01179/laws.FnExactMovesOf", spec := "fnExactMovesOf", unfollowed := true, recurses := true, apart := false, narrowed := true }
def FnExactMovesOfUptoSaid : Prop := fnExactMovesOfUptoRow.holds Try.pinned (OpenSpec.upto fnExactMovesOfSpec)

/-- 'laws.FnExactWorstWaste', WHERE WHAT IT READS IS OF BULK AT MOST 1048576: true; the input reads as it did. -/
def fnExactWorstWasteUptoRow : OpenClaim := { program := "ythomfanpdnpmaaa", sum := "3960edc4f5ea7de94b4c4fae32e59ebe675f5839a7faf472b3f94726b24dc05a", func := "loop.example/g01179/laws.FnExactWorstWaste", spec := "fnExactWorstWaste", unfollowed := true, recurses := true, apart := false, narrowed := true }
def FnExactWorstWasteUptoSaid : Prop := fnExactWorstWasteUptoRow.holds Try.pinned (OpenSpec.upto fnExactWorstWasteSpec)

/-- 'laws.FnExactReadAt', WHERE WHAT IT READS IS OF BULK AT MOST 1048576: true; the input reads as it did. -/
def fnExactReadAtUptoRow : OpenClaim := { program := "ythomfanpdnpmaaa", sum := "3960edc4f5ea7de94b4c4fae32e59ebe675f5839a7faf472b3f94726b24dc05a", func := "loop.example/g01179/laws.FnExactReadAt", spec := "fnExactReadAt", unfollowed := true, recurses := true, apart := false, narrowed := true }
def FnExactReadAtUptoSaid : Prop := fnExactReadAtUptoRow.holds Try.pinned (OpenSpec.upto fnExactReadAtSpec)

/-- 'laws.FnExactCapsOf', WHERE WHAT IT READS IS OF BULK AT MOST 1048576: true; the input reads as it did. -/
def fnExactCapsOfUptoRow : OpenClaim := { program := "ythomfanpdnpmaaa", sum := "3960edc4f5ea7de94b4c4fae32e59ebe675f5839a7faf472b3f94726b24dc05a", func := "loop.example/g01179/laws.FnExactCapsOf", spec := "fnExactCapsOf", unfollowed := true, recurses := true, apart := false, narrowed := true }
def FnExactCapsOfUptoSaid : Prop := fnExactCapsOfUptoRow.holds Try.pinned (OpenSpec.upto fnExactCapsOfSpec)

/-- 'laws.FnExactFindByte', WHERE WHAT IT READS IS OF BULK AT MOST 1048576: true; the input reads as it did. -/
def fnExactFindByteUptoRow : OpenClaim := { program := "ythomfanpdnpmaaa", sum := "3960edc4f5ea7de94b4c4fae32e59ebe675f5839a7faf472b3f94726b24dc05a", func := "loop.example/g01179/laws.FnExactFindByte", spec := "fnExactFindByte", inPlace := ["internal/bytealg.IndexByte"], unfollowed := true, recurses := true, apart := false, narrowed := true }
def FnExactFindByteUptoSaid : Prop := fnExactFindByteUptoRow.holds Try.pinned (OpenSpec.upto fnExactFindByteSpec)

/-- 'laws.FnExactSliceThree', WHERE WHAT IT READS IS OF BULK AT MOST 1048576: true; the input reads as it did. -/
def fnExactSliceThreeUptoRow : OpenClaim := { program := "ythomfanpdnpmaaa", sum := "3960edc4f5ea7de94b4c4fae32e59ebe675f5839a7faf472b3f94726b24dc05a", func := "loop.example/g01179/laws.FnExactSliceThree", spec := "fnExactSliceThree", unfollowed := true, recurses := true, apart := false, narrowed := true }
def FnExactSliceThreeUptoSaid : Prop := fnExactSliceThreeUptoRow.holds Try.pinned (OpenSpec.upto fnExactSliceThreeSpec)

/-- 'laws.FnExactClipWindow', WHERE WHAT IT READS IS OF BULK AT MOST 1048576: true; the input reads as it did. -/
def fnExactClipWindowUptoRow : OpenClaim := { program := "ythomfanpdnpmaaa", sum := "3960edc4f5ea7de94b4c4fae32e59ebe675f5839a7faf472b3f94726b24dc05a", func := "loop.example/g01179/laws.FnExactClipWindow", spec := "fnExactClipWindow", unfollowed := true, recurses := true, apart := false, narrowed := true }
def FnExactClipWindowUptoSaid : Prop := fnExactClipWindowUptoRow.holds Try.pinned (OpenSpec.upto fnExactClipWindowSpec)

/-- 'laws.FnExactSliceTwo', WHERE WHAT IT READS IS OF BULK AT MOST 1048576: true; the input reads as it did. -/
def fnExactSliceTwoUptoRow : OpenClaim := { program := "ythomfanpdnpmaaa", sum := "3960edc4f5ea7de94b4c4fae32e59ebe675f5839a7faf472b3f94726b24dc05a", func := "loop.example/g01179/laws.FnExactSliceTwo", spec := "fnExactSliceTwo", unfollowed := true, recurses := true, apart := false, narrowed := true }
def FnExactSliceTwoUptoSaid : Prop := fnExactSliceTwoUptoRow.holds Try.pinned (OpenSpec.upto fnExactSliceTwoSpec)

/-- 'laws.FnExactAreApart', WHERE WHAT IT READS IS OF BULK AT MOST 1048576: true; the input reads as it did. -/
def fnExactAreApartUptoRow : OpenClaim := { program := "ythomfanpdnpmaaa", sum := "3960edc4f5ea7de94b4c4fae32e59ebe675f5839a7faf472b3f94726b24dc05a", func := "loop.example/g01179/laws.FnExactAreApart", spec := "fnExactAreApart", unfollowed := true, recurses := true, apart := false, narrowed := true }
def FnExactAreApartUptoSaid : Prop := fnExactAreApartUptoRow.holds Try.pinned (OpenSpec.upto fnExactAreApartSpec)

end Rows
end Go.Proofs.Ythomfanpdnpmaaa
