/-
  No cell of these rows narrows 'for every input' (looked for: loops, veiled, ifaces, maps, wideKeys, modest, calm, conditions, laid).
  DERIVED. THE GIVEN ROWS OF THIS SEAT. 12 by the template 'for every input the law returns true; each argument reads behind the call as it read before'; 0 by the template 'total and deterministic' (their statements: YtbbohccnhcfmnabTotals.lean).
  GIVEN WITH THE SEED: the statements are not yours to turn. If you find one false, say at which input.
  Laid BY PROGRAM, IN A SANDBOX (cutbox-rows.mjs): the forced cells as the released guide's own fill.sh prints them over the translation 2b2e7f5d14f6008d… (all of the seat's roots in one cut). By AI agents, Wed Nov 11 2026. No macro, syntax, notation, axiom, sorry.
-/
import Derived.Test.YtbbohccnhcfmnabChecked
import GoSem.Claim
import GoSem.ClaimJoined
import GoSem.ClaimMapViews
import Derived.JoinedTies
import Derived.KernelRfl
namespace Go.Proofs.Ytbbohccnhcfmnab
/- THE CELL 'sum', in the pinned program and in every row, IS THE sha256 OF THE DUMP (.gsa) THAT YtbbohccnhcfmnabProg.lean LOADS. Nothing in Lean hashes anything: it is a label: what it is worth is what the hold of that sum in a sandbox is worth. -/
noncomputable def Try.pinned : Pinned := { name := "ytbbohccnhcfmnab", sum := "2b2e7f5d14f6008d67b548eceed1e387a6b0200bcb0473f1538ca175358d9add", checked := Try.checked }
namespace Rows
def none {H : Type} : Left H := { results := [], args := [] }

/-- 'packthreadlaw.SerialNears': WHATEVER THE INPUT: true; the input reads as it did. -/
def serialNearsSpec : ChangeSpec := { name := "serialNears", fn := fun _ => fun
  | [d1, d2] => { results := [.lit (.bool true)], args := [d1, d2] }
  | _ => none }
def serialNearsRow : OpenClaim := { program := "ytbbohccnhcfmnab", sum := "2b2e7f5d14f6008d67b548eceed1e387a6b0200bcb0473f1538ca175358d9add", func := "packthread/packthreadlaw.SerialNears", spec := "serialNears", apart := false }
def SerialNearsSaid : Prop := serialNearsRow.holds Try.pinned (OpenSpec.ofChange serialNearsSpec)

/-- ITS FALSE NEIGHBOUR: 'it returns false'. Refute it at one input. -/
def serialNearsWrong : ChangeSpec := { name := "serialNears", fn := fun _ => fun
  | [d1, d2] => { results := [.lit (.bool false)], args := [d1, d2] }
  | _ => none }
def SerialNearsWrongFalsely : Prop := serialNearsRow.holds Try.pinned (OpenSpec.ofChange serialNearsWrong)

/-- 'packthreadlaw.InetUpdates': WHATEVER THE INPUT: true; the input reads as it did. -/
def inetUpdatesSpec : ChangeSpec := { name := "inetUpdates", fn := fun _ => fun
  | [d1, d2, d3] => { results := [.lit (.bool true)], args := [d1, d2, d3] }
  | _ => none }
def inetUpdatesRow : OpenClaim := { program := "ytbbohccnhcfmnab", sum := "2b2e7f5d14f6008d67b548eceed1e387a6b0200bcb0473f1538ca175358d9add", func := "packthread/packthreadlaw.InetUpdates", spec := "inetUpdates", apart := false }
def InetUpdatesSaid : Prop := inetUpdatesRow.holds Try.pinned (OpenSpec.ofChange inetUpdatesSpec)

/-- ITS FALSE NEIGHBOUR: 'it returns false'. Refute it at one input. -/
def inetUpdatesWrong : ChangeSpec := { name := "inetUpdates", fn := fun _ => fun
  | [d1, d2, d3] => { results := [.lit (.bool false)], args := [d1, d2, d3] }
  | _ => none }
def InetUpdatesWrongFalsely : Prop := inetUpdatesRow.holds Try.pinned (OpenSpec.ofChange inetUpdatesWrong)

/-- 'packthreadlaw.RtoNexts': WHATEVER THE INPUT: true; the input reads as it did. -/
def rtoNextsSpec : ChangeSpec := { name := "rtoNexts", fn := fun _ => fun
  | [d1, d2] => { results := [.lit (.bool true)], args := [d1, d2] }
  | _ => none }
def rtoNextsRow : OpenClaim := { program := "ytbbohccnhcfmnab", sum := "2b2e7f5d14f6008d67b548eceed1e387a6b0200bcb0473f1538ca175358d9add", func := "packthread/packthreadlaw.RtoNexts", spec := "rtoNexts", apart := false }
def RtoNextsSaid : Prop := rtoNextsRow.holds Try.pinned (OpenSpec.ofChange rtoNextsSpec)

/-- ITS FALSE NEIGHBOUR: 'it returns false'. Refute it at one input. -/
def rtoNextsWrong : ChangeSpec := { name := "rtoNexts", fn := fun _ => fun
  | [d1, d2] => { results := [.lit (.bool false)], args := [d1, d2] }
  | _ => none }
def RtoNextsWrongFalsely : Prop := rtoNextsRow.holds Try.pinned (OpenSpec.ofChange rtoNextsWrong)

/-- 'packthreadtop.TopShaped': WHATEVER THE INPUT: true; the input reads as it did. -/
def topShapedSpec : ChangeSpec := { name := "topShaped", fn := fun _ => fun
  | [d1, d2, d3, d4] => { results := [.lit (.bool true)], args := [d1, d2, d3, d4] }
  | _ => none }
def topShapedRow : OpenClaim := { program := "ytbbohccnhcfmnab", sum := "2b2e7f5d14f6008d67b548eceed1e387a6b0200bcb0473f1538ca175358d9add", func := "packthread/packthreadtop.TopShaped", spec := "topShaped", unfollowed := true, recurses := true, apart := false }
def TopShapedSaid : Prop := topShapedRow.holds Try.pinned (OpenSpec.ofChange topShapedSpec)

/-- ITS FALSE NEIGHBOUR: 'it returns false'. Refute it at one input. -/
def topShapedWrong : ChangeSpec := { name := "topShaped", fn := fun _ => fun
  | [d1, d2, d3, d4] => { results := [.lit (.bool false)], args := [d1, d2, d3, d4] }
  | _ => none }
def TopShapedWrongFalsely : Prop := topShapedRow.holds Try.pinned (OpenSpec.ofChange topShapedWrong)

/-- 'packthreadlaw.HoleGaps': WHATEVER THE INPUT: true; the input reads as it did. -/
def holeGapsSpec : ChangeSpec := { name := "holeGaps", fn := fun _ => fun
  | [d1, d2] => { results := [.lit (.bool true)], args := [d1, d2] }
  | _ => none }
def holeGapsRow : OpenClaim := { program := "ytbbohccnhcfmnab", sum := "2b2e7f5d14f6008d67b548eceed1e387a6b0200bcb0473f1538ca175358d9add", func := "packthread/packthreadlaw.HoleGaps", spec := "holeGaps", apart := false }
def HoleGapsSaid : Prop := holeGapsRow.holds Try.pinned (OpenSpec.ofChange holeGapsSpec)

/-- ITS FALSE NEIGHBOUR: 'it returns false'. Refute it at one input. -/
def holeGapsWrong : ChangeSpec := { name := "holeGaps", fn := fun _ => fun
  | [d1, d2] => { results := [.lit (.bool false)], args := [d1, d2] }
  | _ => none }
def HoleGapsWrongFalsely : Prop := holeGapsRow.holds Try.pinned (OpenSpec.ofChange holeGapsWrong)

/-- 'packthreadlaw.SerialOrders': WHATEVER THE INPUT: true; the input reads as it did. -/
def serialOrdersSpec : ChangeSpec := { name := "serialOrders", fn := fun _ => fun
  | [d1, d2] => { results := [.lit (.bool true)], args := [d1, d2] }
  | _ => none }
def serialOrdersRow : OpenClaim := { program := "ytbbohccnhcfmnab", sum := "2b2e7f5d14f6008d67b548eceed1e387a6b0200bcb0473f1538ca175358d9add", func := "packthread/packthreadlaw.SerialOrders", spec := "serialOrders", apart := false }
def SerialOrdersSaid : Prop := serialOrdersRow.holds Try.pinned (OpenSpec.ofChange serialOrdersSpec)

/-- ITS FALSE NEIGHBOUR: 'it returns false'. Refute it at one input. -/
def serialOrdersWrong : ChangeSpec := { name := "serialOrders", fn := fun _ => fun
  | [d1, d2] => { results := [.lit (.bool false)], args := [d1, d2] }
  | _ => none }
def SerialOrdersWrongFalsely : Prop := serialOrdersRow.holds Try.pinned (OpenSpec.ofChange serialOrdersWrong)

/-- 'packthreadlaw.LzExpands': WHATEVER THE INPUT: true; the input reads as it did. -/
def lzExpandsSpec : ChangeSpec := { name := "lzExpands", fn := fun _ => fun
  | [d] => { results := [.lit (.bool true)], args := [d] }
  | _ => none }
def lzExpandsRow : OpenClaim := { program := "ytbbohccnhcfmnab", sum := "2b2e7f5d14f6008d67b548eceed1e387a6b0200bcb0473f1538ca175358d9add", func := "packthread/packthreadlaw.LzExpands", spec := "lzExpands", apart := false }
def LzExpandsSaid : Prop := lzExpandsRow.holds Try.pinned (OpenSpec.ofChange lzExpandsSpec)

/-- ITS FALSE NEIGHBOUR: 'it returns false'. Refute it at one input. -/
def lzExpandsWrong : ChangeSpec := { name := "lzExpands", fn := fun _ => fun
  | [d] => { results := [.lit (.bool false)], args := [d] }
  | _ => none }
def LzExpandsWrongFalsely : Prop := lzExpandsRow.holds Try.pinned (OpenSpec.ofChange lzExpandsWrong)

/-- 'packthreadlaw.InetJoins': WHATEVER THE INPUT: true; the input reads as it did. -/
def inetJoinsSpec : ChangeSpec := { name := "inetJoins", fn := fun _ => fun
  | [d1, d2, d3] => { results := [.lit (.bool true)], args := [d1, d2, d3] }
  | _ => none }
def inetJoinsRow : OpenClaim := { program := "ytbbohccnhcfmnab", sum := "2b2e7f5d14f6008d67b548eceed1e387a6b0200bcb0473f1538ca175358d9add", func := "packthread/packthreadlaw.InetJoins", spec := "inetJoins", apart := false }
def InetJoinsSaid : Prop := inetJoinsRow.holds Try.pinned (OpenSpec.ofChange inetJoinsSpec)

/-- ITS FALSE NEIGHBOUR: 'it returns false'. Refute it at one input. -/
def inetJoinsWrong : ChangeSpec := { name := "inetJoins", fn := fun _ => fun
  | [d1, d2, d3] => { results := [.lit (.bool false)], args := [d1, d2, d3] }
  | _ => none }
def InetJoinsWrongFalsely : Prop := inetJoinsRow.holds Try.pinned (OpenSpec.ofChange inetJoinsWrong)

/-- 'packthreadlaw.DeltaPatches': WHATEVER THE INPUT: true; the input reads as it did. -/
def deltaPatchesSpec : ChangeSpec := { name := "deltaPatches", fn := fun _ => fun
  | [d1, d2] => { results := [.lit (.bool true)], args := [d1, d2] }
  | _ => none }
def deltaPatchesRow : OpenClaim := { program := "ytbbohccnhcfmnab", sum := "2b2e7f5d14f6008d67b548eceed1e387a6b0200bcb0473f1538ca175358d9add", func := "packthread/packthreadlaw.DeltaPatches", spec := "deltaPatches", apart := false }
def DeltaPatchesSaid : Prop := deltaPatchesRow.holds Try.pinned (OpenSpec.ofChange deltaPatchesSpec)

/-- ITS FALSE NEIGHBOUR: 'it returns false'. Refute it at one input. -/
def deltaPatchesWrong : ChangeSpec := { name := "deltaPatches", fn := fun _ => fun
  | [d1, d2] => { results := [.lit (.bool false)], args := [d1, d2] }
  | _ => none }
def DeltaPatchesWrongFalsely : Prop := deltaPatchesRow.holds Try.pinned (OpenSpec.ofChange deltaPatchesWrong)

/-- 'packthreadlaw.BucketPlays': WHATEVER THE INPUT: true; the input reads as it did. -/
def bucketPlaysSpec : ChangeSpec := { name := "bucketPlays", fn := fun _ => fun
  | [d1, d2, d3] => { results := [.lit (.bool true)], args := [d1, d2, d3] }
  | _ => none }
def bucketPlaysRow : OpenClaim := { program := "ytbbohccnhcfmnab", sum := "2b2e7f5d14f6008d67b548eceed1e387a6b0200bcb0473f1538ca175358d9add", func := "packthread/packthreadlaw.BucketPlays", spec := "bucketPlays", apart := false }
def BucketPlaysSaid : Prop := bucketPlaysRow.holds Try.pinned (OpenSpec.ofChange bucketPlaysSpec)

/-- ITS FALSE NEIGHBOUR: 'it returns false'. Refute it at one input. -/
def bucketPlaysWrong : ChangeSpec := { name := "bucketPlays", fn := fun _ => fun
  | [d1, d2, d3] => { results := [.lit (.bool false)], args := [d1, d2, d3] }
  | _ => none }
def BucketPlaysWrongFalsely : Prop := bucketPlaysRow.holds Try.pinned (OpenSpec.ofChange bucketPlaysWrong)

/-- 'packthreadtop.TopHeard': WHATEVER THE INPUT: true; the input reads as it did. -/
def topHeardSpec : ChangeSpec := { name := "topHeard", fn := fun _ => fun
  | [d1, d2, d3] => { results := [.lit (.bool true)], args := [d1, d2, d3] }
  | _ => none }
def topHeardRow : OpenClaim := { program := "ytbbohccnhcfmnab", sum := "2b2e7f5d14f6008d67b548eceed1e387a6b0200bcb0473f1538ca175358d9add", func := "packthread/packthreadtop.TopHeard", spec := "topHeard", unfollowed := true, recurses := true, apart := false }
def TopHeardSaid : Prop := topHeardRow.holds Try.pinned (OpenSpec.ofChange topHeardSpec)

/-- ITS FALSE NEIGHBOUR: 'it returns false'. Refute it at one input. -/
def topHeardWrong : ChangeSpec := { name := "topHeard", fn := fun _ => fun
  | [d1, d2, d3] => { results := [.lit (.bool false)], args := [d1, d2, d3] }
  | _ => none }
def TopHeardWrongFalsely : Prop := topHeardRow.holds Try.pinned (OpenSpec.ofChange topHeardWrong)

/-- 'packthreadlaw.HoleSacks': WHATEVER THE INPUT: true; the input reads as it did. -/
def holeSacksSpec : ChangeSpec := { name := "holeSacks", fn := fun _ => fun
  | [d1, d2, d3, d4] => { results := [.lit (.bool true)], args := [d1, d2, d3, d4] }
  | _ => none }
def holeSacksRow : OpenClaim := { program := "ytbbohccnhcfmnab", sum := "2b2e7f5d14f6008d67b548eceed1e387a6b0200bcb0473f1538ca175358d9add", func := "packthread/packthreadlaw.HoleSacks", spec := "holeSacks", unfollowed := true, recurses := true, apart := false }
def HoleSacksSaid : Prop := holeSacksRow.holds Try.pinned (OpenSpec.ofChange holeSacksSpec)

/-- ITS FALSE NEIGHBOUR: 'it returns false'. Refute it at one input. -/
def holeSacksWrong : ChangeSpec := { name := "holeSacks", fn := fun _ => fun
  | [d1, d2, d3, d4] => { results := [.lit (.bool false)], args := [d1, d2, d3, d4] }
  | _ => none }
def HoleSacksWrongFalsely : Prop := holeSacksRow.holds Try.pinned (OpenSpec.ofChange holeSacksWrong)

/- THE SECOND FORM. 'bulk': how many values and letters a reading holds, each counted each time it is reached (what is shared counts as often as it is met; a slice's spare places count too). A statement '..UptoSaid' is the law's where the arguments, and the package variables that the reading takes, are together of bulk at most 1048576: NARROWER than '..Said'. Prove '..Said' where nothing that the law and all that it calls make is longer than what came in: it says more and counts as full. Else prove '..UptoSaid'. A law counts once. -/
mutual
def uptoBulk {H : Type} : DataW H → Nat
  | .lit (.string bytes) => bytes.length + 1
  | .lit _ => 1
  | .nil => 1
  | .ptr d => uptoBulk d + 1
  | .slice elems spare => uptoBulkAll elems + uptoBulkAll spare + 1
  | .agg parts => uptoBulkAll parts + 1
  | .iface _ d => uptoBulk d + 1
  | .map entries => uptoBulkEntries entries + 1
  | .held _ => 1
def uptoBulkAll {H : Type} : List (DataW H) → Nat
  | [] => 0
  | d :: r => uptoBulk d + uptoBulkAll r
def uptoBulkEntries {H : Type} : List (Lit × DataW H) → Nat
  | [] => 0
  | x :: r => uptoBulkEntry x + uptoBulkEntries r
def uptoBulkEntry {H : Type} : Lit × DataW H → Nat
  | (.string bytes, d) => bytes.length + uptoBulk d + 1
  | (_, d) => uptoBulk d + 1
 end
def uptoSmall : (H : Type) → List (DataW H) → Bool := fun _ ds => decide (uptoBulkAll ds ≤ 1048576)
def OpenSpec.upto (s : _root_.Go.ChangeSpec) : _root_.Go.OpenSpec := { _root_.Go.OpenSpec.ofChange s with cond := some uptoSmall }

/-- 'packthreadlaw.SerialNears', WHERE WHAT IT READS IS OF BULK AT MOST 1048576: true; the input reads as it did. -/
def serialNearsUptoRow : OpenClaim := { program := "ytbbohccnhcfmnab", sum := "2b2e7f5d14f6008d67b548eceed1e387a6b0200bcb0473f1538ca175358d9add", func := "packthread/packthreadlaw.SerialNears", spec := "serialNears", apart := false, narrowed := true }
def SerialNearsUptoSaid : Prop := serialNearsUptoRow.holds Try.pinned (OpenSpec.upto serialNearsSpec)

/-- 'packthreadlaw.InetUpdates', WHERE WHAT IT READS IS OF BULK AT MOST 1048576: true; the input reads as it did. -/
def inetUpdatesUptoRow : OpenClaim := { program := "ytbbohccnhcfmnab", sum := "2b2e7f5d14f6008d67b548eceed1e387a6b0200bcb0473f1538ca175358d9add", func := "packthread/packthreadlaw.InetUpdates", spec := "inetUpdates", apart := false, narrowed := true }
def InetUpdatesUptoSaid : Prop := inetUpdatesUptoRow.holds Try.pinned (OpenSpec.upto inetUpdatesSpec)

/-- 'packthreadlaw.RtoNexts', WHERE WHAT IT READS IS OF BULK AT MOST 1048576: true; the input reads as it did. -/
def rtoNextsUptoRow : OpenClaim := { program := "ytbbohccnhcfmnab", sum := "2b2e7f5d14f6008d67b548eceed1e387a6b0200bcb0473f1538ca175358d9add", func := "packthread/packthreadlaw.RtoNexts", spec := "rtoNexts", apart := false, narrowed := true }
def RtoNextsUptoSaid : Prop := rtoNextsUptoRow.holds Try.pinned (OpenSpec.upto rtoNextsSpec)

/-- 'packthreadtop.TopShaped', WHERE WHAT IT READS IS OF BULK AT MOST 1048576: true; the input reads as it did. -/
def topShapedUptoRow : OpenClaim := { program := "ytbbohccnhcfmnab", sum := "2b2e7f5d14f6008d67b548eceed1e387a6b0200bcb0473f1538ca175358d9add", func := "packthread/packthreadtop.TopShaped", spec := "topShaped", unfollowed := true, recurses := true, apart := false, narrowed := true }
def TopShapedUptoSaid : Prop := topShapedUptoRow.holds Try.pinned (OpenSpec.upto topShapedSpec)

/-- 'packthreadlaw.HoleGaps', WHERE WHAT IT READS IS OF BULK AT MOST 1048576: true; the input reads as it did. -/
def holeGapsUptoRow : OpenClaim := { program := "ytbbohccnhcfmnab", sum := "2b2e7f5d14f6008d67b548eceed1e387a6b0200bcb0473f1538ca175358d9add", func := "packthread/packthreadlaw.HoleGaps", spec := "holeGaps", apart := false, narrowed := true }
def HoleGapsUptoSaid : Prop := holeGapsUptoRow.holds Try.pinned (OpenSpec.upto holeGapsSpec)

/-- 'packthreadlaw.SerialOrders', WHERE WHAT IT READS IS OF BULK AT MOST 1048576: true; the input reads as it did. -/
def serialOrdersUptoRow : OpenClaim := { program := "ytbbohccnhcfmnab", sum := "2b2e7f5d14f6008d67b548eceed1e387a6b0200bcb0473f1538ca175358d9add", func := "packthread/packthreadlaw.SerialOrders", spec := "serialOrders", apart := false, narrowed := true }
def SerialOrdersUptoSaid : Prop := serialOrdersUptoRow.holds Try.pinned (OpenSpec.upto serialOrdersSpec)

/-- 'packthreadlaw.LzExpands', WHERE WHAT IT READS IS OF BULK AT MOST 1048576: true; the input reads as it did. -/
def lzExpandsUptoRow : OpenClaim := { program := "ytbbohccnhcfmnab", sum := "2b2e7f5d14f6008d67b548eceed1e387a6b0200bcb0473f1538ca175358d9add", func := "packthread/packthreadlaw.LzExpands", spec := "lzExpands", apart := false, narrowed := true }
def LzExpandsUptoSaid : Prop := lzExpandsUptoRow.holds Try.pinned (OpenSpec.upto lzExpandsSpec)

/-- 'packthreadlaw.InetJoins', WHERE WHAT IT READS IS OF BULK AT MOST 1048576: true; the input reads as it did. -/
def inetJoinsUptoRow : OpenClaim := { program := "ytbbohccnhcfmnab", sum := "2b2e7f5d14f6008d67b548eceed1e387a6b0200bcb0473f1538ca175358d9add", func := "packthread/packthreadlaw.InetJoins", spec := "inetJoins", apart := false, narrowed := true }
def InetJoinsUptoSaid : Prop := inetJoinsUptoRow.holds Try.pinned (OpenSpec.upto inetJoinsSpec)

/-- 'packthreadlaw.DeltaPatches', WHERE WHAT IT READS IS OF BULK AT MOST 1048576: true; the input reads as it did. -/
def deltaPatchesUptoRow : OpenClaim := { program := "ytbbohccnhcfmnab", sum := "2b2e7f5d14f6008d67b548eceed1e387a6b0200bcb0473f1538ca175358d9add", func := "packthread/packthreadlaw.DeltaPatches", spec := "deltaPatches", apart := false, narrowed := true }
def DeltaPatchesUptoSaid : Prop := deltaPatchesUptoRow.holds Try.pinned (OpenSpec.upto deltaPatchesSpec)

/-- 'packthreadlaw.BucketPlays', WHERE WHAT IT READS IS OF BULK AT MOST 1048576: true; the input reads as it did. -/
def bucketPlaysUptoRow : OpenClaim := { program := "ytbbohccnhcfmnab", sum := "2b2e7f5d14f6008d67b548eceed1e387a6b0200bcb0473f1538ca175358d9add", func := "packthread/packthreadlaw.BucketPlays", spec := "bucketPlays", apart := false, narrowed := true }
def BucketPlaysUptoSaid : Prop := bucketPlaysUptoRow.holds Try.pinned (OpenSpec.upto bucketPlaysSpec)

/-- 'packthreadtop.TopHeard', WHERE WHAT IT READS IS OF BULK AT MOST 1048576: true; the input reads as it did. -/
def topHeardUptoRow : OpenClaim := { program := "ytbbohccnhcfmnab", sum := "2b2e7f5d14f6008d67b548eceed1e387a6b0200bcb0473f1538ca175358d9add", func := "packthread/packthreadtop.TopHeard", spec := "topHeard", unfollowed := true, recurses := true, apart := false, narrowed := true }
def TopHeardUptoSaid : Prop := topHeardUptoRow.holds Try.pinned (OpenSpec.upto topHeardSpec)

/-- 'packthreadlaw.HoleSacks', WHERE WHAT IT READS IS OF BULK AT MOST 1048576: true; the input reads as it did. -/
def holeSacksUptoRow : OpenClaim := { program := "ytbbohccnhcfmnab", sum := "2b2e7f5d14f6008d67b548eceed1e387a6b0200bcb0473f1538ca175358d9add", func := "packthread/packthreadlaw.HoleSacks", spec := "holeSacks", unfollowed := true, recurses := true, apart := false, narrowed := true }
def HoleSacksUptoSaid : Prop := holeSacksUptoRow.holds Try.pinned (OpenSpec.upto holeSacksSpec)

end Rows
end Go.Proofs.Ytbbohccnhcfmnab
