/-
  No cell of these rows narrows 'for every input' (looked for: loops, veiled, ifaces, maps, wideKeys, modest, calm, conditions, laid).
  DERIVED. THE GIVEN ROWS OF THIS SEAT. 12 by the template 'for every input the law returns true; each argument reads behind the call as it read before'; 0 by the template 'total and deterministic' (their statements: YtdgbojaihhknaaaTotals.lean).
  GIVEN WITH THE SEED: the statements are not yours to turn. If you find one false, say at which input.
  Laid BY PROGRAM, IN A SANDBOX (cutbox-rows.mjs): the forced cells as the released guide's own fill.sh prints them over the translation 19658c3f651dcdfb… (all of the seat's roots in one cut). By AI agents, Wed Nov 11 2026. No macro, syntax, notation, axiom, sorry.
-/
import Derived.Test.YtdgbojaihhknaaaChecked
import GoSem.Claim
import GoSem.ClaimJoined
import GoSem.ClaimMapViews
import Derived.JoinedTies
import Derived.KernelRfl
namespace Go.Proofs.Ytdgbojaihhknaaa
/- THE CELL 'sum', in the pinned program and in every row, IS THE sha256 OF THE DUMP (.gsa) THAT YtdgbojaihhknaaaProg.lean LOADS. Nothing in Lean hashes anything: it is a label: what it is worth is what the hold of that sum in a sandbox is worth. -/
noncomputable def Try.pinned : Pinned := { name := "ytdgbojaihhknaaa", sum := "19658c3f651dcdfbd6d03471c12ac0d83fac36699fa2ca01736eceb861268673", checked := Try.checked }
namespace Rows
def none {H : Type} : Left H := { results := [], args := [] }

/-- 'laws.FnExactDoShare': WHATEVER THE INPUT: true; the input reads as it did. -/
def fnExactDoShareSpec : ChangeSpec := { name := "fnExactDoShare", fn := fun _ => fun
  | [d1, d2, d3] => { results := [.lit (.bool true)], args := [d1, d2, d3] }
  | _ => none }
def fnExactDoShareRow : OpenClaim := { program := "ytdgbojaihhknaaa", sum := "19658c3f651dcdfbd6d03471c12ac0d83fac36699fa2ca01736eceb861268673", func := "loop.example/g01179/laws.FnExactDoShare", spec := "fnExactDoShare", unfollowed := true, recurses := true, apart := false }
def FnExactDoShareSaid : Prop := fnExactDoShareRow.holds Try.pinned (OpenSpec.ofChange fnExactDoShareSpec)

/-- ITS FALSE NEIGHBOUR: 'it returns false'. Refute it at one input. -/
def fnExactDoShareWrong : ChangeSpec := { name := "fnExactDoShare", fn := fun _ => fun
  | [d1, d2, d3] => { results := [.lit (.bool false)], args := [d1, d2, d3] }
  | _ => none }
def FnExactDoShareWrongFalsely : Prop := fnExactDoShareRow.holds Try.pinned (OpenSpec.ofChange fnExactDoShareWrong)

/-- 'laws.FnExactCommonPlaces': WHATEVER THE INPUT: true; the input reads as it did. -/
def fnExactCommonPlacesSpec : ChangeSpec := { name := "fnExactCommonPlaces", fn := fun _ => fun
  | [d1, d2, d3] => { results := [.lit (.bool true)], args := [d1, d2, d3] }
  | _ => none }
def fnExactCommonPlacesRow : OpenClaim := { program := "ytdgbojaihhknaaa", sum := "19658c3f651dcdfbd6d03471c12ac0d83fac36699fa2ca01736eceb861268673", func := "loop.example/g01179/laws.FnExactCommonPlaces", spec := "fnExactCommonPlaces", unfollowed := true, recurses := true, apart := false }
def FnExactCommonPlacesSaid : Prop := fnExactCommonPlacesRow.holds Try.pinned (OpenSpec.ofChange fnExactCommonPlacesSpec)

/-- ITS FALSE NEIGHBOUR: 'it returns false'. Refute it at one input. -/
def fnExactCommonPlacesWrong : ChangeSpec := { name := "fnExactCommonPlaces", fn := fun _ => fun
  | [d1, d2, d3] => { results := [.lit (.bool false)], args := [d1, d2, d3] }
  | _ => none }
def FnExactCommonPlacesWrongFalsely : Prop := fnExactCommonPlacesRow.holds Try.pinned (OpenSpec.ofChange fnExactCommonPlacesWrong)

/-- 'laws.FnExactOrderOf': WHATEVER THE INPUT: true; the input reads as it did. -/
def fnExactOrderOfSpec : ChangeSpec := { name := "fnExactOrderOf", fn := fun _ => fun
  | [d1, d2, d3] => { results := [.lit (.bool true)], args := [d1, d2, d3] }
  | _ => none }
def fnExactOrderOfRow : OpenClaim := { program := "ytdgbojaihhknaaa", sum := "19658c3f651dcdfbd6d03471c12ac0d83fac36699fa2ca01736eceb861268673", func := "loop.example/g01179/laws.FnExactOrderOf", spec := "fnExactOrderOf", inPlace := ["internal/bytealg.Compare"], unfollowed := true, recurses := true, apart := false }
def FnExactOrderOfSaid : Prop := fnExactOrderOfRow.holds Try.pinned (OpenSpec.ofChange fnExactOrderOfSpec)

/-- ITS FALSE NEIGHBOUR: 'it returns false'. Refute it at one input. -/
def fnExactOrderOfWrong : ChangeSpec := { name := "fnExactOrderOf", fn := fun _ => fun
  | [d1, d2, d3] => { results := [.lit (.bool false)], args := [d1, d2, d3] }
  | _ => none }
def FnExactOrderOfWrongFalsely : Prop := fnExactOrderOfRow.holds Try.pinned (OpenSpec.ofChange fnExactOrderOfWrong)

/-- 'laws.FnExactAreNear': WHATEVER THE INPUT: true; the input reads as it did. -/
def fnExactAreNearSpec : ChangeSpec := { name := "fnExactAreNear", fn := fun _ => fun
  | [d1, d2, d3] => { results := [.lit (.bool true)], args := [d1, d2, d3] }
  | _ => none }
def fnExactAreNearRow : OpenClaim := { program := "ytdgbojaihhknaaa", sum := "19658c3f651dcdfbd6d03471c12ac0d83fac36699fa2ca01736eceb861268673", func := "loop.example/g01179/laws.FnExactAreNear", spec := "fnExactAreNear", unfollowed := true, recurses := true, apart := false }
def FnExactAreNearSaid : Prop := fnExactAreNearRow.holds Try.pinned (OpenSpec.ofChange fnExactAreNearSpec)

/-- ITS FALSE NEIGHBOUR: 'it returns false'. Refute it at one input. -/
def fnExactAreNearWrong : ChangeSpec := { name := "fnExactAreNear", fn := fun _ => fun
  | [d1, d2, d3] => { results := [.lit (.bool false)], args := [d1, d2, d3] }
  | _ => none }
def FnExactAreNearWrongFalsely : Prop := fnExactAreNearRow.holds Try.pinned (OpenSpec.ofChange fnExactAreNearWrong)

/-- 'laws.FnExactSameBytes': WHATEVER THE INPUT: true; the input reads as it did. -/
def fnExactSameBytesSpec : ChangeSpec := { name := "fnExactSameBytes", fn := fun _ => fun
  | [d1, d2, d3] => { results := [.lit (.bool true)], args := [d1, d2, d3] }
  | _ => none }
def fnExactSameBytesRow : OpenClaim := { program := "ytdgbojaihhknaaa", sum := "19658c3f651dcdfbd6d03471c12ac0d83fac36699fa2ca01736eceb861268673", func := "loop.example/g01179/laws.FnExactSameBytes", spec := "fnExactSameBytes", unfollowed := true, recurses := true, apart := false }
def FnExactSameBytesSaid : Prop := fnExactSameBytesRow.holds Try.pinned (OpenSpec.ofChange fnExactSameBytesSpec)

/-- ITS FALSE NEIGHBOUR: 'it returns false'. Refute it at one input. -/
def fnExactSameBytesWrong : ChangeSpec := { name := "fnExactSameBytes", fn := fun _ => fun
  | [d1, d2, d3] => { results := [.lit (.bool false)], args := [d1, d2, d3] }
  | _ => none }
def FnExactSameBytesWrongFalsely : Prop := fnExactSameBytesRow.holds Try.pinned (OpenSpec.ofChange fnExactSameBytesWrong)

/-- 'laws.FnExactWindowBytes': WHATEVER THE INPUT: true; the input reads as it did. -/
def fnExactWindowBytesSpec : ChangeSpec := { name := "fnExactWindowBytes", fn := fun _ => fun
  | [d1, d2] => { results := [.lit (.bool true)], args := [d1, d2] }
  | _ => none }
def fnExactWindowBytesRow : OpenClaim := { program := "ytdgbojaihhknaaa", sum := "19658c3f651dcdfbd6d03471c12ac0d83fac36699fa2ca01736eceb861268673", func := "loop.example/g01179/laws.FnExactWindowBytes", spec := "fnExactWindowBytes", unfollowed := true, recurses := true, apart := false }
def FnExactWindowBytesSaid : Prop := fnExactWindowBytesRow.holds Try.pinned (OpenSpec.ofChange fnExactWindowBytesSpec)

/-- ITS FALSE NEIGHBOUR: 'it returns false'. Refute it at one input. -/
def fnExactWindowBytesWrong : ChangeSpec := { name := "fnExactWindowBytes", fn := fun _ => fun
  | [d1, d2] => { results := [.lit (.bool false)], args := [d1, d2] }
  | _ => none }
def FnExactWindowBytesWrongFalsely : Prop := fnExactWindowBytesRow.holds Try.pinned (OpenSpec.ofChange fnExactWindowBytesWrong)

/-- 'laws.FnExactAreWatched': WHATEVER THE INPUT: true; the input reads as it did. -/
def fnExactAreWatchedSpec : ChangeSpec := { name := "fnExactAreWatched", fn := fun _ => fun
  | [d1, d2] => { results := [.lit (.bool true)], args := [d1, d2] }
  | _ => none }
def fnExactAreWatchedRow : OpenClaim := { program := "ytdgbojaihhknaaa", sum := "19658c3f651dcdfbd6d03471c12ac0d83fac36699fa2ca01736eceb861268673", func := "loop.example/g01179/laws.FnExactAreWatched", spec := "fnExactAreWatched", unfollowed := true, recurses := true, apart := false }
def FnExactAreWatchedSaid : Prop := fnExactAreWatchedRow.holds Try.pinned (OpenSpec.ofChange fnExactAreWatchedSpec)

/-- ITS FALSE NEIGHBOUR: 'it returns false'. Refute it at one input. -/
def fnExactAreWatchedWrong : ChangeSpec := { name := "fnExactAreWatched", fn := fun _ => fun
  | [d1, d2] => { results := [.lit (.bool false)], args := [d1, d2] }
  | _ => none }
def FnExactAreWatchedWrongFalsely : Prop := fnExactAreWatchedRow.holds Try.pinned (OpenSpec.ofChange fnExactAreWatchedWrong)

/-- 'laws.FnExactSafeToAppend': WHATEVER THE INPUT: true; the input reads as it did. -/
def fnExactSafeToAppendSpec : ChangeSpec := { name := "fnExactSafeToAppend", fn := fun _ => fun
  | [d1, d2, d3] => { results := [.lit (.bool true)], args := [d1, d2, d3] }
  | _ => none }
def fnExactSafeToAppendRow : OpenClaim := { program := "ytdgbojaihhknaaa", sum := "19658c3f651dcdfbd6d03471c12ac0d83fac36699fa2ca01736eceb861268673", func := "loop.example/g01179/laws.FnExactSafeToAppend", spec := "fnExactSafeToAppend", unfollowed := true, recurses := true, apart := false }
def FnExactSafeToAppendSaid : Prop := fnExactSafeToAppendRow.holds Try.pinned (OpenSpec.ofChange fnExactSafeToAppendSpec)

/-- ITS FALSE NEIGHBOUR: 'it returns false'. Refute it at one input. -/
def fnExactSafeToAppendWrong : ChangeSpec := { name := "fnExactSafeToAppend", fn := fun _ => fun
  | [d1, d2, d3] => { results := [.lit (.bool false)], args := [d1, d2, d3] }
  | _ => none }
def FnExactSafeToAppendWrongFalsely : Prop := fnExactSafeToAppendRow.holds Try.pinned (OpenSpec.ofChange fnExactSafeToAppendWrong)

/-- 'laws.FnExactNoticedBy': WHATEVER THE INPUT: true; the input reads as it did. -/
def fnExactNoticedBySpec : ChangeSpec := { name := "fnExactNoticedBy", fn := fun _ => fun
  | [d1, d2, d3, d4] => { results := [.lit (.bool true)], args := [d1, d2, d3, d4] }
  | _ => none }
def fnExactNoticedByRow : OpenClaim := { program := "ytdgbojaihhknaaa", sum := "19658c3f651dcdfbd6d03471c12ac0d83fac36699fa2ca01736eceb861268673", func := "loop.example/g01179/laws.FnExactNoticedBy", spec := "fnExactNoticedBy", unfollowed := true, recurses := true, apart := false }
def FnExactNoticedBySaid : Prop := fnExactNoticedByRow.holds Try.pinned (OpenSpec.ofChange fnExactNoticedBySpec)

/-- ITS FALSE NEIGHBOUR: 'it returns false'. Refute it at one input. -/
def fnExactNoticedByWrong : ChangeSpec := { name := "fnExactNoticedBy", fn := fun _ => fun
  | [d1, d2, d3, d4] => { results := [.lit (.bool false)], args := [d1, d2, d3, d4] }
  | _ => none }
def FnExactNoticedByWrongFalsely : Prop := fnExactNoticedByRow.holds Try.pinned (OpenSpec.ofChange fnExactNoticedByWrong)

/-- 'laws.FnExactNoticedCounts': WHATEVER THE INPUT: true; the input reads as it did. -/
def fnExactNoticedCountsSpec : ChangeSpec := { name := "fnExactNoticedCounts", fn := fun _ => fun
  | [d1, d2, d3] => { results := [.lit (.bool true)], args := [d1, d2, d3] }
  | _ => none }
def fnExactNoticedCountsRow : OpenClaim := { program := "ytdgbojaihhknaaa", sum := "19658c3f651dcdfbd6d03471c12ac0d83fac36699fa2ca01736eceb861268673", func := "loop.example/g01179/laws.FnExactNoticedCounts", spec := "fnExactNoticedCounts", unfollowed := true, recurses := true, apart := false }
def FnExactNoticedCountsSaid : Prop := fnExactNoticedCountsRow.holds Try.pinned (OpenSpec.ofChange fnExactNoticedCountsSpec)

/-- ITS FALSE NEIGHBOUR: 'it returns false'. Refute it at one input. -/
def fnExactNoticedCountsWrong : ChangeSpec := { name := "fnExactNoticedCounts", fn := fun _ => fun
  | [d1, d2, d3] => { results := [.lit (.bool false)], args := [d1, d2, d3] }
  | _ => none }
def FnExactNoticedCountsWrongFalsely : Prop := fnExactNoticedCountsRow.holds Try.pinned (OpenSpec.ofChange fnExactNoticedCountsWrong)

/-- 'laws.FnExactTakeSnapshot': WHATEVER THE INPUT: true; the input reads as it did. -/
def fnExactTakeSnapshotSpec : ChangeSpec := { name := "fnExactTakeSnapshot", fn := fun _ => fun
  | [d1, d2] => { results := [.lit (.bool true)], args := [d1, d2] }
  | _ => none }
def fnExactTakeSnapshotRow : OpenClaim := { program := "ytdgbojaihhknaaa", sum := "19658c3f651dcdfbd6d03471c12ac0d83fac36699fa2ca01736eceb861268673", func := "loop.example/g01179/laws.FnExactTakeSnapshot", spec := "fnExactTakeSnapshot", unfollowed := true, recurses := true, apart := false }
def FnExactTakeSnapshotSaid : Prop := fnExactTakeSnapshotRow.holds Try.pinned (OpenSpec.ofChange fnExactTakeSnapshotSpec)

/-- ITS FALSE NEIGHBOUR: 'it returns false'. Refute it at one input. -/
def fnExactTakeSnapshotWrong : ChangeSpec := { name := "fnExactTakeSnapshot", fn := fun _ => fun
  | [d1, d2] => { results := [.lit (.bool false)], args := [d1, d2] }
  | _ => none }
def FnExactTakeSnapshotWrongFalsely : Prop := fnExactTakeSnapshotRow.holds Try.pinned (OpenSpec.ofChange fnExactTakeSnapshotWrong)

/-- 'laws.FnExactTroddenBy': WHATEVER THE INPUT: true; the input reads as it did. -/
def fnExactTroddenBySpec : ChangeSpec := { name := "fnExactTroddenBy", fn := fun _ => fun
  | [d1, d2, d3, d4] => { results := [.lit (.bool true)], args := [d1, d2, d3, d4] }
  | _ => none }
def fnExactTroddenByRow : OpenClaim := { program := "ytdgbojaihhknaaa", sum := "19658c3f651dcdfbd6d03471c12ac0d83fac36699fa2ca01736eceb861268673", func := "loop.example/g01179/laws.FnExactTroddenBy", spec := "fnExactTroddenBy", unfollowed := true, recurses := true, apart := false }
def FnExactTroddenBySaid : Prop := fnExactTroddenByRow.holds Try.pinned (OpenSpec.ofChange fnExactTroddenBySpec)

/-- ITS FALSE NEIGHBOUR: 'it returns false'. Refute it at one input. -/
def fnExactTroddenByWrong : ChangeSpec := { name := "fnExactTroddenBy", fn := fun _ => fun
  | [d1, d2, d3, d4] => { results := [.lit (.bool false)], args := [d1, d2, d3, d4] }
  | _ => none }
def FnExactTroddenByWrongFalsely : Prop := fnExactTroddenByRow.holds Try.pinned (OpenSpec.ofChange fnExactTroddenByWrong)

/- THE SECOND FORM. 'bulk': how many values and letters a reading holds, each counted each time it is reached (what is shared counts as often as it is met; a slice's spare places count too). A statement '..UptoSaid' is the law's where the arguments, and the package variables that the reading takes, are together of bulk at most 1048576: NARROWER than '..Said'. Prove '..Said' where nothing that the law and all that it calls make is longer than what came in: it says more and counts as full. Else prove '..UptoSaid'. A law counts once. -/
mutual
def uptoBulk {H : Type} : DataW H → Nat
  | .lit (.string bytes) => bytes.length + 1
  | .lit _ => 1
  | .nil => 1
  | .ptr d => uptoBulk d + 1
  | .slice elems spare => uptoBulkAll elems + uptoBulkAll spare + 1
  | .agg parts => uptoBulkAll parts + 1
  | .iface _ d => uptoBulk d + 1
  | .map entries => uptoBulkEntries entries + 1
  | .held _ => 1
def uptoBulkAll {H : Type} : List (DataW H) → Nat
  | [] => 0
  | d :: r => uptoBulk d + uptoBulkAll r
def uptoBulkEntries {H : Type} : List (Lit × DataW H) → Nat
  | [] => 0
  | x :: r => uptoBulkEntry x + uptoBulkEntries r
def uptoBulkEntry {H : Type} : Lit × DataW H → Nat
  | (.string bytes, d) => bytes.length + uptoBulk d + 1
  | (_, d) => uptoBulk d + 1
 end
def uptoSmall : (H : Type) → List (DataW H) → Bool := fun _ ds => decide (uptoBulkAll ds ≤ 1048576)
def OpenSpec.upto (s : _root_.Go.ChangeSpec) : _root_.Go.OpenSpec := { _root_.Go.OpenSpec.ofChange s with cond := some uptoSmall }

/-- 'laws.FnExactDoShare', WHERE WHAT IT READS IS OF BULK AT MOST 1048576: true; the input reads as it did. -/
def fnExactDoShareUptoRow : OpenClaim := { program := "ytdgbojaihhknaaa", sum := "19658c3f651dcdfbd6d03471c12ac0d83fac36699fa2ca01736eceb861268673", func := "loop.example/g01179/laws.FnExactDoShare", spec := "fnExactDoShare", unfollowed := true, recurses := true, apart := false, narrowed := true }
def FnExactDoShareUptoSaid : Prop := fnExactDoShareUptoRow.holds Try.pinned (OpenSpec.upto fnExactDoShareSpec)

/-- 'laws.FnExactCommonPlaces', WHERE WHAT IT READS IS OF BULK AT MOST 1048576: true; the input reads as it did. -/
def fnExactCommonPlacesUptoRow : OpenClaim := { program := "ytdgbojaihhknaaa", sum := "19658c3f651dcdfbd6d03471c12ac0d83fac36699fa2ca01736eceb861268673", func := "loop.example/g01179/laws.FnExactCommonPlaces", spec := "fnExactCommonPlaces", unfollowed := true, recurses := true, apart := false, narrowed := true }
def FnExactCommonPlacesUptoSaid : Prop := fnExactCommonPlacesUptoRow.holds Try.pinned (OpenSpec.upto fnExactCommonPlacesSpec)

/-- 'laws.FnExactOrderOf', WHERE WHAT IT READS IS OF BULK AT MOST 1048576: true; the input reads as it did. -/
def fnExactOrderOfUptoRow : OpenClaim := { program := "ytdgbojaihhknaaa", sum := "19658c3f651dcdfbd6d03471c12ac0d83fac36699fa2ca01736eceb861268673", func := "loop.example/g01179/laws.FnExactOrderOf", spec := "fnExactOrderOf", inPlace := ["internal/bytealg.Compare"], unfollowed := true, recurses := true, apart := false, narrowed := true }
def FnExactOrderOfUptoSaid : Prop := fnExactOrderOfUptoRow.holds Try.pinned (OpenSpec.upto fnExactOrderOfSpec)

/-- 'laws.FnExactAreNear', WHERE WHAT IT READS IS OF BULK AT MOST 1048576: true; the input reads as it did. -/
def fnExactAreNearUptoRow : OpenClaim := { program := "ytdgbojaihhknaaa", sum := "19658c3f651dcdfbd6d03471c12ac0d83fac36699fa2ca01736eceb861268673", func := "loop.example/g01179/laws.FnExactAreNear", spec := "fnExactAreNear", unfollowed := true, recurses := true, apart := false, narrowed := true }
def FnExactAreNearUptoSaid : Prop := fnExactAreNearUptoRow.holds Try.pinned (OpenSpec.upto fnExactAreNearSpec)

/-- 'laws.FnExactSameBytes', WHERE WHAT IT READS IS OF BULK AT MOST 1048576: true; the input reads as it did. -/
def fnExactSameBytesUptoRow : OpenClaim := { program := "ytdgbojaihhknaaa", sum := "19658c3f651dcdfbd6d03471c12ac0d83fac36699fa2ca01736eceb861268673", func := "loop.example/g01179/laws.FnExactSameBytes", spec := "fnExactSameBytes", unfollowed := true, recurses := true, apart := false, narrowed := true }
def FnExactSameBytesUptoSaid : Prop := fnExactSameBytesUptoRow.holds Try.pinned (OpenSpec.upto fnExactSameBytesSpec)

/-- 'laws.FnExactWindowBytes', WHERE WHAT IT READS IS OF BULK AT MOST 1048576: true; the input reads as it did. -/
def fnExactWindowBytesUptoRow : OpenClaim := { program := "ytdgbojaihhknaaa", sum := "19658c3f651dcdfbd6d03471c12ac0d83fac36699fa2ca01736eceb861268673", func := "loop.example/g01179/laws.FnExactWindowBytes", spec := "fnExactWindowBytes", unfollowed := true, recurses := true, apart := false, narrowed := true }
def FnExactWindowBytesUptoSaid : Prop := fnExactWindowBytesUptoRow.holds Try.pinned (OpenSpec.upto fnExactWindowBytesSpec)

/-- 'laws.FnExactAreWatched', WHERE WHAT IT READS IS OF BULK AT MOST 1048576: true; the input reads as it did. -/
def fnExactAreWatchedUptoRow : OpenClaim := { program := "ytdgbojaihhknaaa", sum := "19658c3f651dcdfbd6d03471c12ac0d83fac36699fa2ca01736eceb861268673", func := "loop.example/g01179/laws.FnExactAreWatched", spec := "fnExactAreWatched", unfollowed := true, recurses := true, apart := false, narrowed := true }
def FnExactAreWatchedUptoSaid : Prop := fnExactAreWatchedUptoRow.holds Try.pinned (OpenSpec.upto fnExactAreWatchedSpec)

/-- 'laws.FnExactSafeToAppend', WHERE WHAT IT READS IS OF BULK AT MOST 1048576: true; the input reads as it did. -/
def fnExactSafeToAppendUptoRow : OpenClaim := { program := "ytdgbojaihhknaaa", sum := "19658c3f651dcdfbd6d03471c12ac0d83fac36699fa2ca01736eceb861268673", func := "loop.example/g01179/laws.FnExactSafeToAppend", spec := "fnExactSafeToAppend", unfollowed := true, recurses := true, apart := false, narrowed := true }
def FnExactSafeToAppendUptoSaid : Prop := fnExactSafeToAppendUptoRow.holds Try.pinned (OpenSpec.upto fnExactSafeToAppendSpec)

/-- 'laws.FnExactNoticedBy', WHERE WHAT IT READS IS OF BULK AT MOST 1048576: true; the input reads as it did. -/
def fnExactNoticedByUptoRow : OpenClaim := { program := "ytdgbojaihhknaaa", sum := "19658c3f651dcdfbd6d03471c12ac0d83fac36699fa2ca01736eceb861268673", func := "loop.example/g01179/laws.FnExactNoticedBy", spec := "fnExactNoticedBy", unfollowed := true, recurses := true, apart := false, narrowed := true }
def FnExactNoticedByUptoSaid : Prop := fnExactNoticedByUptoRow.holds Try.pinned (OpenSpec.upto fnExactNoticedBySpec)

/-- 'laws.FnExactNoticedCounts', WHERE WHAT IT READS IS OF BULK AT MOST 1048576: true; the input reads as it did. -/
def fnExactNoticedCountsUptoRow : OpenClaim := { program := "ytdgbojaihhknaaa", sum := "19658c3f651dcdfbd6d03471c12ac0d83fac36699fa2ca01736eceb861268673", func := "loop.example/g01179/laws.FnExactNoticedCounts", spec := "fnExactNoticedCounts", unfollowed := true, recurses := true, apart := false, narrowed := true }
def FnExactNoticedCountsUptoSaid : Prop := fnExactNoticedCountsUptoRow.holds Try.pinned (OpenSpec.upto fnExactNoticedCountsSpec)

/-- 'laws.FnExactTakeSnapshot', WHERE WHAT IT READS IS OF BULK AT MOST 1048576: true; the input reads as it did. -/
def fnExactTakeSnapshotUptoRow : OpenClaim := { program := "ytdgbojaihhknaaa", sum := "19658c3f651dcdfbd6d03471c12ac0d83fac36699fa2ca01736eceb861268673", func := "loop.example/g01179/laws.FnExactTakeSnapshot", spec := "fnExactTakeSnapshot", unfollowed := true, recurses := true, apart := false, narrowed := true }
def FnExactTakeSnapshotUptoSaid : Prop := fnExactTakeSnapshotUptoRow.holds Try.pinned (OpenSpec.upto fnExactTakeSnapshotSpec)

/-- 'laws.FnExactTroddenBy', WHERE WHAT IT READS IS OF BULK AT MOST 1048576: true; the input reads as it did. -/
def fnExactTroddenByUptoRow : OpenClaim := { program := "ytdgbojaihhknaaa", sum := "19658c3f651dcdfbd6d03471c12ac0d83fac36699fa2ca01736eceb861268673", func := "loop.example/g01179/laws.FnExactTroddenBy", spec := "fnExactTroddenBy", unfollowed := true, recurses := true, apart := false, narrowed := true }
def FnExactTroddenByUptoSaid : Prop := fnExactTroddenByUptoRow.holds Try.pinned (OpenSpec.upto fnExactTroddenBySpec)

end Rows
end Go.Proofs.Ytdgbojaihhknaaa
