/-
  No cell of these rows narrows 'for every input' (looked for: loops, veiled, ifaces, maps, wideKeys, modest, calm, conditions, laid).
  DERIVED. THE GIVEN ROWS OF THIS SEAT. 9 by the template 'for every input the law returns true; each argument reads behind the call as it read before'; 0 by the template 'total and deterministic' (their statements: YtaoffejflichjaaTotals.lean).
  GIVEN WITH THE SEED: the statements are not yours to turn. If you find one false, say at which input.
  Laid BY PROGRAM, IN A SANDBOX (cutbox-rows.mjs): the forced cells as the released guide's own fill.sh prints them over the translation a2a4ec718b66989d… (all of the seat's roots in one cut). By AI agents, Wed Nov 11 2026. No macro, syntax, notation, axiom, sorry.
-/
import Derived.Test.YtaoffejflichjaaChecked
import GoSem.Claim
import GoSem.ClaimJoined
import GoSem.ClaimMapViews
import Derived.JoinedTies
import Derived.KernelRfl
namespace Go.Proofs.Ytaoffejflichjaa
/- THE CELL 'sum', in the pinned program and in every row, IS THE sha256 OF THE DUMP (.gsa) THAT YtaoffejflichjaaProg.lean LOADS. Nothing in Lean hashes anything: it is a label: what it is worth is what the hold of that sum in a sandbox is worth. -/
noncomputable def Try.pinned : Pinned := { name := "ytaoffejflichjaa", sum := "a2a4ec718b66989da04a2b036243a4bb3ee2d718dae67a7720c27c24b5e4440f", checked := Try.checked }
namespace Rows
def none {H : Type} : Left H := { results := [], args := [] }

/-- 'laws.FnExactWindowBytes': WHATEVER THE INPUT: true; the input reads as it did. -/
def fnExactWindowBytesSpec : ChangeSpec := { name := "fnExactWindowBytes", fn := fun _ => fun
  | [d1, d2] => { results := [.lit (.bool true)], args := [d1, d2] }
  | _ => none }
def fnExactWindowBytesRow : OpenClaim := { program := "ytaoffejflichjaa", sum := "a2a4ec718b66989da04a2b036243a4bb3ee2d718dae67a7720c27c24b5e4440f", func := "loop.example/g01179/laws.FnExactWindowBytes", spec := "fnExactWindowBytes", unfollowed := true, recurses := true, apart := false }
def FnExactWindowBytesSaid : Prop := fnExactWindowBytesRow.holds Try.pinned (OpenSpec.ofChange fnExactWindowBytesSpec)

/-- ITS FALSE NEIGHBOUR: 'it returns false'. Refute it at one input. -/
def fnExactWindowBytesWrong : ChangeSpec := { name := "fnExactWindowBytes", fn := fun _ => fun
  | [d1, d2] => { results := [.lit (.bool false)], args := [d1, d2] }
  | _ => none }
def FnExactWindowBytesWrongFalsely : Prop := fnExactWindowBytesRow.holds Try.pinned (OpenSpec.ofChange fnExactWindowBytesWrong)

/-- 'laws.FnExactSafeToAppend': WHATEVER THE INPUT: true; the input reads as it did. -/
def fnExactSafeToAppendSpec : ChangeSpec := { name := "fnExactSafeToAppend", fn := fun _ => fun
  | [d1, d2, d3] => { results := [.lit (.bool true)], args := [d1, d2, d3] }
  | _ => none }
def fnExactSafeToAppendRow : OpenClaim := { program := "ytaoffejflichjaa", sum := "a2a4ec718b66989da04a2b036243a4bb3ee2d718dae67a7720c27c24b5e4440f", func := "loop.example/g01179/laws.FnExactSafeToAppend", spec := "fnExactSafeToAppend", unfollowed := true, recurses := true, apart := false }
def FnExactSafeToAppendSaid : Prop := fnExactSafeToAppendRow.holds Try.pinned (OpenSpec.ofChange fnExactSafeToAppendSpec)

/-- ITS FALSE NEIGHBOUR: 'it returns false'. Refute it at one input. -/
def fnExactSafeToAppendWrong : ChangeSpec := { name := "fnExactSafeToAppend", fn := fun _ => fun
  | [d1, d2, d3] => { results := [.lit (.bool false)], args := [d1, d2, d3] }
  | _ => none }
def FnExactSafeToAppendWrongFalsely : Prop := fnExactSafeToAppendRow.holds Try.pinned (OpenSpec.ofChange fnExactSafeToAppendWrong)

/-- 'laws.FnExactNoticedBy': WHATEVER THE INPUT: true; the input reads as it did. -/
def fnExactNoticedBySpec : ChangeSpec := { name := "fnExactNoticedBy", fn := fun _ => fun
  | [d1, d2, d3, d4] => { results := [.lit (.bool true)], args := [d1, d2, d3, d4] }
  | _ => none }
def fnExactNoticedByRow : OpenClaim := { program := "ytaoffejflichjaa", sum := "a2a4ec718b66989da04a2b036243a4bb3ee2d718dae67a7720c27c24b5e4440f", func := "loop.example/g01179/laws.FnExactNoticedBy", spec := "fnExactNoticedBy", unfollowed := true, recurses := true, apart := false }
def FnExactNoticedBySaid : Prop := fnExactNoticedByRow.holds Try.pinned (OpenSpec.ofChange fnExactNoticedBySpec)

/-- ITS FALSE NEIGHBOUR: 'it returns false'. Refute it at one input. -/
def fnExactNoticedByWrong : ChangeSpec := { name := "fnExactNoticedBy", fn := fun _ => fun
  | [d1, d2, d3, d4] => { results := [.lit (.bool false)], args := [d1, d2, d3, d4] }
  | _ => none }
def FnExactNoticedByWrongFalsely : Prop := fnExactNoticedByRow.holds Try.pinned (OpenSpec.ofChange fnExactNoticedByWrong)

/-- 'laws.FnExactNoticedCounts': WHATEVER THE INPUT: true; the input reads as it did. -/
def fnExactNoticedCountsSpec : ChangeSpec := { name := "fnExactNoticedCounts", fn := fun _ => fun
  | [d1, d2, d3] => { results := [.lit (.bool true)], args := [d1, d2, d3] }
  | _ => none }
def fnExactNoticedCountsRow : OpenClaim := { program := "ytaoffejflichjaa", sum := "a2a4ec718b66989da04a2b036243a4bb3ee2d718dae67a7720c27c24b5e4440f", func := "loop.example/g01179/laws.FnExactNoticedCounts", spec := "fnExactNoticedCounts", unfollowed := true, recurses := true, apart := false }
def FnExactNoticedCountsSaid : Prop := fnExactNoticedCountsRow.holds Try.pinned (OpenSpec.ofChange fnExactNoticedCountsSpec)

/-- ITS FALSE NEIGHBOUR: 'it returns false'. Refute it at one input. -/
def fnExactNoticedCountsWrong : ChangeSpec := { name := "fnExactNoticedCounts", fn := fun _ => fun
  | [d1, d2, d3] => { results := [.lit (.bool false)], args := [d1, d2, d3] }
  | _ => none }
def FnExactNoticedCountsWrongFalsely : Prop := fnExactNoticedCountsRow.holds Try.pinned (OpenSpec.ofChange fnExactNoticedCountsWrong)

/-- 'laws.FnExactTakeSnapshot': WHATEVER THE INPUT: true; the input reads as it did. -/
def fnExactTakeSnapshotSpec : ChangeSpec := { name := "fnExactTakeSnapshot", fn := fun _ => fun
  | [d1, d2] => { results := [.lit (.bool true)], args := [d1, d2] }
  | _ => none }
def fnExactTakeSnapshotRow : OpenClaim := { program := "ytaoffejflichjaa", sum := "a2a4ec718b66989da04a2b036243a4bb3ee2d718dae67a7720c27c24b5e4440f", func := "loop.example/g01179/laws.FnExactTakeSnapshot", spec := "fnExactTakeSnapshot", unfollowed := true, recurses := true, apart := false }
def FnExactTakeSnapshotSaid : Prop := fnExactTakeSnapshotRow.holds Try.pinned (OpenSpec.ofChange fnExactTakeSnapshotSpec)

/-- ITS FALSE NEIGHBOUR: 'it returns false'. Refute it at one input. -/
def fnExactTakeSnapshotWrong : ChangeSpec := { name := "fnExactTakeSnapshot", fn := fun _ => fun
  | [d1, d2] => { results := [.lit (.bool false)], args := [d1, d2] }
  | _ => none }
def FnExactTakeSnapshotWrongFalsely : Prop := fnExactTakeSnapshotRow.holds Try.pinned (OpenSpec.ofChange fnExactTakeSnapshotWrong)

/-- 'laws.FnExactTroddenBy': WHATEVER THE INPUT: true; the input reads as it did. -/
def fnExactTroddenBySpec : ChangeSpec := { name := "fnExactTroddenBy", fn := fun _ => fun
  | [d1, d2, d3, d4] => { results := [.lit (.bool true)], args := [d1, d2, d3, d4] }
  | _ => none }
def fnExactTroddenByRow : OpenClaim := { program := "ytaoffejflichjaa", sum := "a2a4ec718b66989da04a2b036243a4bb3ee2d718dae67a7720c27c24b5e4440f", func := "loop.example/g01179/laws.FnExactTroddenBy", spec := "fnExactTroddenBy", unfollowed := true, recurses := true, apart := false }
def FnExactTroddenBySaid : Prop := fnExactTroddenByRow.holds Try.pinned (OpenSpec.ofChange fnExactTroddenBySpec)

/-- ITS FALSE NEIGHBOUR: 'it returns false'. Refute it at one input. -/
def fnExactTroddenByWrong : ChangeSpec := { name := "fnExactTroddenBy", fn := fun _ => fun
  | [d1, d2, d3, d4] => { results := [.lit (.bool false)], args := [d1, d2, d3, d4] }
  | _ => none }
def FnExactTroddenByWrongFalsely : Prop := fnExactTroddenByRow.holds Try.pinned (OpenSpec.ofChange fnExactTroddenByWrong)

/-- 'laws.FnExactChangedSince': WHATEVER THE INPUT: true; the input reads as it did. -/
def fnExactChangedSinceSpec : ChangeSpec := { name := "fnExactChangedSince", fn := fun _ => fun
  | [d1, d2, d3] => { results := [.lit (.bool true)], args := [d1, d2, d3] }
  | _ => none }
def fnExactChangedSinceRow : OpenClaim := { program := "ytaoffejflichjaa", sum := "a2a4ec718b66989da04a2b036243a4bb3ee2d718dae67a7720c27c24b5e4440f", func := "loop.example/g01179/laws.FnExactChangedSince", spec := "fnExactChangedSince", unfollowed := true, recurses := true, apart := false }
def FnExactChangedSinceSaid : Prop := fnExactChangedSinceRow.holds Try.pinned (OpenSpec.ofChange fnExactChangedSinceSpec)

/-- ITS FALSE NEIGHBOUR: 'it returns false'. Refute it at one input. -/
def fnExactChangedSinceWrong : ChangeSpec := { name := "fnExactChangedSince", fn := fun _ => fun
  | [d1, d2, d3] => { results := [.lit (.bool false)], args := [d1, d2, d3] }
  | _ => none }
def FnExactChangedSinceWrongFalsely : Prop := fnExactChangedSinceRow.holds Try.pinned (OpenSpec.ofChange fnExactChangedSinceWrong)

/-- 'laws.FnExactPartCover': WHATEVER THE INPUT: true; the input reads as it did. -/
def fnExactPartCoverSpec : ChangeSpec := { name := "fnExactPartCover", fn := fun _ => fun
  | [d1, d2, d3] => { results := [.lit (.bool true)], args := [d1, d2, d3] }
  | _ => none }
def fnExactPartCoverRow : OpenClaim := { program := "ytaoffejflichjaa", sum := "a2a4ec718b66989da04a2b036243a4bb3ee2d718dae67a7720c27c24b5e4440f", func := "loop.example/g01179/laws.FnExactPartCover", spec := "fnExactPartCover", unfollowed := true, recurses := true, apart := false }
def FnExactPartCoverSaid : Prop := fnExactPartCoverRow.holds Try.pinned (OpenSpec.ofChange fnExactPartCoverSpec)

/-- ITS FALSE NEIGHBOUR: 'it returns false'. Refute it at one input. -/
def fnExactPartCoverWrong : ChangeSpec := { name := "fnExactPartCover", fn := fun _ => fun
  | [d1, d2, d3] => { results := [.lit (.bool false)], args := [d1, d2, d3] }
  | _ => none }
def FnExactPartCoverWrongFalsely : Prop := fnExactPartCoverRow.holds Try.pinned (OpenSpec.ofChange fnExactPartCoverWrong)

/-- 'laws.FnExactShareGroups': WHATEVER THE INPUT: true; the input reads as it did. -/
def fnExactShareGroupsSpec : ChangeSpec := { name := "fnExactShareGroups", fn := fun _ => fun
  | [d1, d2] => { results := [.lit (.bool true)], args := [d1, d2] }
  | _ => none }
def fnExactShareGroupsRow : OpenClaim := { program := "ytaoffejflichjaa", sum := "a2a4ec718b66989da04a2b036243a4bb3ee2d718dae67a7720c27c24b5e4440f", func := "loop.example/g01179/laws.FnExactShareGroups", spec := "fnExactShareGroups", unfollowed := true, recurses := true, apart := false }
def FnExactShareGroupsSaid : Prop := fnExactShareGroupsRow.holds Try.pinned (OpenSpec.ofChange fnExactShareGroupsSpec)

/-- ITS FALSE NEIGHBOUR: 'it returns false'. Refute it at one input. -/
def fnExactShareGroupsWrong : ChangeSpec := { name := "fnExactShareGroups", fn := fun _ => fun
  | [d1, d2] => { results := [.lit (.bool false)], args := [d1, d2] }
  | _ => none }
def FnExactShareGroupsWrongFalsely : Prop := fnExactShareGroupsRow.holds Try.pinned (OpenSpec.ofChange fnExactShareGroupsWrong)

/- THE SECOND FORM. 'bulk': how many values and letters a reading holds, each counted each time it is reached (what is shared counts as often as it is met; a slice's spare places count too). A statement '..UptoSaid' is the law's where the arguments, and the package variables that the reading takes, are together of bulk at most 1048576: NARROWER than '..Said'. Prove '..Said' where nothing that the law and all that it calls make is longer than what came in: it says more and counts as full. Else prove '..UptoSaid'. A law counts once. -/
mutual
def uptoBulk {H : Type} : DataW H → Nat
  | .lit (.string bytes) => bytes.length + 1
  | .lit _ => 1
  | .nil => 1
  | .ptr d => uptoBulk d + 1
  | .slice elems spare => uptoBulkAll elems + uptoBulkAll spare + 1
  | .agg parts => uptoBulkAll parts + 1
  | .iface _ d => uptoBulk d + 1
  | .map entries => uptoBulkEntries entries + 1
  | .held _ => 1
def uptoBulkAll {H : Type} : List (DataW H) → Nat
  | [] => 0
  | d :: r => uptoBulk d + uptoBulkAll r
def uptoBulkEntries {H : Type} : List (Lit × DataW H) → Nat
  | [] => 0
  | x :: r => uptoBulkEntry x + uptoBulkEntries r
def uptoBulkEntry {H : Type} : Lit × DataW H → Nat
  | (.string bytes, d) => bytes.length + uptoBulk d + 1
  | (_, d) => uptoBulk d + 1
 end
def uptoSmall : (H : Type) → List (DataW H) → Bool := fun _ ds => decide (uptoBulkAll ds ≤ 1048576)
def OpenSpec.upto (s : _root_.Go.ChangeSpec) : _root_.Go.OpenSpec := { _root_.Go.OpenSpec.ofChange s with cond := some uptoSmall }

/-- 'laws.FnExactWindowBytes', WHERE WHAT IT READS IS OF BULK AT MOST 1048576: true; the input reads as it did. -/
def fnExactWindowBytesUptoRow : OpenClaim := { program := "ytaoffejflichjaa", sum := "a2a4ec718b66989da04a2b036243a4bb3ee2d718dae67a7720c27c24b5e4440f", func := "loop.example/g01179/laws.FnExactWindowBytes", spec := "fnExactWindowBytes", unfollowed := true, recurses := true, apart := false, narrowed := true }
def FnExactWindowBytesUptoSaid : Prop := fnExactWindowBytesUptoRow.holds Try.pinned (OpenSpec.upto fnExactWindowBytesSpec)

/-- 'laws.FnExactSafeToAppend', WHERE WHAT IT READS IS OF BULK AT MOST 1048576: true; the input reads as it did. -/
def fnExactSafeToAppendUptoRow : OpenClaim := { program := "ytaoffejflichjaa", sum := "a2a4ec718b66989da04a2b036243a4bb3ee2d718dae67a7720c27c24b5e4440f", func := "loop.example/g01179/laws.FnExactSafeToAppend", spec := "fnExactSafeToAppend", unfollowed := true, recurses := true, apart := false, narrowed := true }
def FnExactSafeToAppendUptoSaid : Prop := fnExactSafeToAppendUptoRow.holds Try.pinned (OpenSpec.upto fnExactSafeToAppendSpec)

/-- 'laws.FnExactNoticedBy', WHERE WHAT IT READS IS OF BULK AT MOST 1048576: true; the input reads as it did. -/
def fnExactNoticedByUptoRow : OpenClaim := { program := "ytaoffejflichjaa", sum := "a2a4ec718b66989da04a2b036243a4bb3ee2d718dae67a7720c27c24b5e4440f", func := "loop.example/g01179/laws.FnExactNoticedBy", spec := "fnExactNoticedBy", unfollowed := true, recurses := true, apart := false, narrowed := true }
def FnExactNoticedByUptoSaid : Prop := fnExactNoticedByUptoRow.holds Try.pinned (OpenSpec.upto fnExactNoticedBySpec)

/-- 'laws.FnExactNoticedCounts', WHERE WHAT IT READS IS OF BULK AT MOST 1048576: true; the input reads as it did. -/
def fnExactNoticedCountsUptoRow : OpenClaim := { program := "ytaoffejflichjaa", sum := "a2a4ec718b66989da04a2b036243a4bb3ee2d718dae67a7720c27c24b5e4440f", func := "loop.example/g01179/laws.FnExactNoticedCounts", spec := "fnExactNoticedCounts", unfollowed := true, recurses := true, apart := false, narrowed := true }
def FnExactNoticedCountsUptoSaid : Prop := fnExactNoticedCountsUptoRow.holds Try.pinned (OpenSpec.upto fnExactNoticedCountsSpec)

/-- 'laws.FnExactTakeSnapshot', WHERE WHAT IT READS IS OF BULK AT MOST 1048576: true; the input reads as it did. -/
def fnExactTakeSnapshotUptoRow : OpenClaim := { program := "ytaoffejflichjaa", sum := "a2a4ec718b66989da04a2b036243a4bb3ee2d718dae67a7720c27c24b5e4440f", func := "loop.example/g01179/laws.FnExactTakeSnapshot", spec := "fnExactTakeSnapshot", unfollowed := true, recurses := true, apart := false, narrowed := true }
def FnExactTakeSnapshotUptoSaid : Prop := fnExactTakeSnapshotUptoRow.holds Try.pinned (OpenSpec.upto fnExactTakeSnapshotSpec)

/-- 'laws.FnExactTroddenBy', WHERE WHAT IT READS IS OF BULK AT MOST 1048576: true; the input reads as it did. -/
def fnExactTroddenByUptoRow : OpenClaim := { program := "ytaoffejflichjaa", sum := "a2a4ec718b66989da04a2b036243a4bb3ee2d718dae67a7720c27c24b5e4440f", func := "loop.example/g01179/laws.FnExactTroddenBy", spec := "fnExactTroddenBy", unfollowed := true, recurses := true, apart := false, narrowed := true }
def FnExactTroddenByUptoSaid : Prop := fnExactTroddenByUptoRow.holds Try.pinned (OpenSpec.upto fnExactTroddenBySpec)

/-- 'laws.FnExactChangedSince', WHERE WHAT IT READS IS OF BULK AT MOST 1048576: true; the input reads as it did. -/
def fnExactChangedSinceUptoRow : OpenClaim := { program := "ytaoffejflichjaa", sum := "a2a4ec718b66989da04a2b036243a4bb3ee2d718dae67a7720c27c24b5e4440f", func := "loop.example/g01179/laws.FnExactChangedSince", spec := "fnExactChangedSince", unfollowed := true, recurses := true, apart := false, narrowed := true }
def FnExactChangedSinceUptoSaid : Prop := fnExactChangedSinceUptoRow.holds Try.pinned (OpenSpec.upto fnExactChangedSinceSpec)

/-- 'laws.FnExactPartCover', WHERE WHAT IT READS IS OF BULK AT MOST 1048576: true; the input reads as it did. -/
def fnExactPartCoverUptoRow : OpenClaim := { program := "ytaoffejflichjaa", sum := "a2a4ec718b66989da04a2b036243a4bb3ee2d718dae67a7720c27c24b5e4440f", func := "loop.example/g01179/laws.FnExactPartCover", spec := "fnExactPartCover", unfollowed := true, recurses := true, apart := false, narrowed := true }
def FnExactPartCoverUptoSaid : Prop := fnExactPartCoverUptoRow.holds Try.pinned (OpenSpec.upto fnExactPartCoverSpec)

/-- 'laws.FnExactShareGroups', WHERE WHAT IT READS IS OF BULK AT MOST 1048576: true; the input reads as it did. -/
def fnExactShareGroupsUptoRow : OpenClaim := { program := "ytaoffejflichjaa", sum := "a2a4ec718b66989da04a2b036243a4bb3ee2d718dae67a7720c27c24b5e4440f", func := "loop.example/g01179/laws.FnExactShareGroups", spec := "fnExactShareGroups", unfollowed := true, recurses := true, apart := false, narrowed := true }
def FnExactShareGroupsUptoSaid : Prop := fnExactShareGroupsUptoRow.holds Try.pinned (OpenSpec.upto fnExactShareGroupsSpec)

end Rows
end Go.Proofs.Ytaoffejflichjaa
