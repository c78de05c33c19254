/-
  No cell of these rows narrows 'for every input' (looked for: loops, veiled, ifaces, maps, wideKeys, modest, calm, conditions, laid).
  DERIVED. THE GIVEN ROWS OF THIS SEAT. 12 by the template 'for every input the law returns true; each argument reads behind the call as it read before'; 0 by the template 'total and deterministic' (their statements: YtbbohccnhcfmnaaTotals.lean).
  GIVEN WITH THE SEED: the statements are not yours to turn. If you find one false, say at which input.
  Laid BY PROGRAM, IN A SANDBOX (cutbox-rows.mjs): the forced cells as the released guide's own fill.sh prints them over the translation 0ef259385393bceb… (all of the seat's roots in one cut). By AI agents, Wed Nov 11 2026. No macro, syntax, notation, axiom, sorry.
-/
import Derived.Test.YtbbohccnhcfmnaaChecked
import GoSem.Claim
import GoSem.ClaimJoined
import GoSem.ClaimMapViews
import Derived.JoinedTies
import Derived.KernelRfl
namespace Go.Proofs.Ytbbohccnhcfmnaa
/- THE CELL 'sum', in the pinned program and in every row, IS THE sha256 OF THE DUMP (.gsa) THAT YtbbohccnhcfmnaaProg.lean LOADS. Nothing in Lean hashes anything: it is a label: what it is worth is what the hold of that sum in a sandbox is worth. -/
noncomputable def Try.pinned : Pinned := { name := "ytbbohccnhcfmnaa", sum := "0ef259385393bceb4d8ef91fa667bcd072b9dc5ab2f2e052a99c61e1f0efaae2", checked := Try.checked }
namespace Rows
def none {H : Type} : Left H := { results := [], args := [] }

/-- 'packthreadlaw.Names': WHATEVER THE INPUT: true; the input reads as it did. -/
def namesSpec : ChangeSpec := { name := "names", fn := fun _ => fun
  | [] => { results := [.lit (.bool true)], args := [] }
  | _ => none }
def namesRow : OpenClaim := { program := "ytbbohccnhcfmnaa", sum := "0ef259385393bceb4d8ef91fa667bcd072b9dc5ab2f2e052a99c61e1f0efaae2", func := "packthread/packthreadlaw.Names", spec := "names", apart := false }
def NamesSaid : Prop := namesRow.holds Try.pinned (OpenSpec.ofChange namesSpec)

/-- ITS FALSE NEIGHBOUR: 'it returns false'. Refute it at one input. -/
def namesWrong : ChangeSpec := { name := "names", fn := fun _ => fun
  | [] => { results := [.lit (.bool false)], args := [] }
  | _ => none }
def NamesWrongFalsely : Prop := namesRow.holds Try.pinned (OpenSpec.ofChange namesWrong)

/-- 'packthreadlaw.RtoMays': WHATEVER THE INPUT: true; the input reads as it did. -/
def rtoMaysSpec : ChangeSpec := { name := "rtoMays", fn := fun _ => fun
  | [d] => { results := [.lit (.bool true)], args := [d] }
  | _ => none }
def rtoMaysRow : OpenClaim := { program := "ytbbohccnhcfmnaa", sum := "0ef259385393bceb4d8ef91fa667bcd072b9dc5ab2f2e052a99c61e1f0efaae2", func := "packthread/packthreadlaw.RtoMays", spec := "rtoMays", apart := false }
def RtoMaysSaid : Prop := rtoMaysRow.holds Try.pinned (OpenSpec.ofChange rtoMaysSpec)

/-- ITS FALSE NEIGHBOUR: 'it returns false'. Refute it at one input. -/
def rtoMaysWrong : ChangeSpec := { name := "rtoMays", fn := fun _ => fun
  | [d] => { results := [.lit (.bool false)], args := [d] }
  | _ => none }
def RtoMaysWrongFalsely : Prop := rtoMaysRow.holds Try.pinned (OpenSpec.ofChange rtoMaysWrong)

/-- 'packthreadlaw.BucketBounds': WHATEVER THE INPUT: true; the input reads as it did. -/
def bucketBoundsSpec : ChangeSpec := { name := "bucketBounds", fn := fun _ => fun
  | [d1, d2, d3] => { results := [.lit (.bool true)], args := [d1, d2, d3] }
  | _ => none }
def bucketBoundsRow : OpenClaim := { program := "ytbbohccnhcfmnaa", sum := "0ef259385393bceb4d8ef91fa667bcd072b9dc5ab2f2e052a99c61e1f0efaae2", func := "packthread/packthreadlaw.BucketBounds", spec := "bucketBounds", apart := false }
def BucketBoundsSaid : Prop := bucketBoundsRow.holds Try.pinned (OpenSpec.ofChange bucketBoundsSpec)

/-- ITS FALSE NEIGHBOUR: 'it returns false'. Refute it at one input. -/
def bucketBoundsWrong : ChangeSpec := { name := "bucketBounds", fn := fun _ => fun
  | [d1, d2, d3] => { results := [.lit (.bool false)], args := [d1, d2, d3] }
  | _ => none }
def BucketBoundsWrongFalsely : Prop := bucketBoundsRow.holds Try.pinned (OpenSpec.ofChange bucketBoundsWrong)

/-- 'packthreadlaw.HoleMays': WHATEVER THE INPUT: true; the input reads as it did. -/
def holeMaysSpec : ChangeSpec := { name := "holeMays", fn := fun _ => fun
  | [d1, d2] => { results := [.lit (.bool true)], args := [d1, d2] }
  | _ => none }
def holeMaysRow : OpenClaim := { program := "ytbbohccnhcfmnaa", sum := "0ef259385393bceb4d8ef91fa667bcd072b9dc5ab2f2e052a99c61e1f0efaae2", func := "packthread/packthreadlaw.HoleMays", spec := "holeMays", apart := false }
def HoleMaysSaid : Prop := holeMaysRow.holds Try.pinned (OpenSpec.ofChange holeMaysSpec)

/-- ITS FALSE NEIGHBOUR: 'it returns false'. Refute it at one input. -/
def holeMaysWrong : ChangeSpec := { name := "holeMays", fn := fun _ => fun
  | [d1, d2] => { results := [.lit (.bool false)], args := [d1, d2] }
  | _ => none }
def HoleMaysWrongFalsely : Prop := holeMaysRow.holds Try.pinned (OpenSpec.ofChange holeMaysWrong)

/-- 'packthreadlaw.RtoFirsts': WHATEVER THE INPUT: true; the input reads as it did. -/
def rtoFirstsSpec : ChangeSpec := { name := "rtoFirsts", fn := fun _ => fun
  | [d] => { results := [.lit (.bool true)], args := [d] }
  | _ => none }
def rtoFirstsRow : OpenClaim := { program := "ytbbohccnhcfmnaa", sum := "0ef259385393bceb4d8ef91fa667bcd072b9dc5ab2f2e052a99c61e1f0efaae2", func := "packthread/packthreadlaw.RtoFirsts", spec := "rtoFirsts", apart := false }
def RtoFirstsSaid : Prop := rtoFirstsRow.holds Try.pinned (OpenSpec.ofChange rtoFirstsSpec)

/-- ITS FALSE NEIGHBOUR: 'it returns false'. Refute it at one input. -/
def rtoFirstsWrong : ChangeSpec := { name := "rtoFirsts", fn := fun _ => fun
  | [d] => { results := [.lit (.bool false)], args := [d] }
  | _ => none }
def RtoFirstsWrongFalsely : Prop := rtoFirstsRow.holds Try.pinned (OpenSpec.ofChange rtoFirstsWrong)

/-- 'packthreadlaw.FrameWraps': WHATEVER THE INPUT: true; the input reads as it did. -/
def frameWrapsSpec : ChangeSpec := { name := "frameWraps", fn := fun _ => fun
  | [d] => { results := [.lit (.bool true)], args := [d] }
  | _ => none }
def frameWrapsRow : OpenClaim := { program := "ytbbohccnhcfmnaa", sum := "0ef259385393bceb4d8ef91fa667bcd072b9dc5ab2f2e052a99c61e1f0efaae2", func := "packthread/packthreadlaw.FrameWraps", spec := "frameWraps", apart := false }
def FrameWrapsSaid : Prop := frameWrapsRow.holds Try.pinned (OpenSpec.ofChange frameWrapsSpec)

/-- ITS FALSE NEIGHBOUR: 'it returns false'. Refute it at one input. -/
def frameWrapsWrong : ChangeSpec := { name := "frameWraps", fn := fun _ => fun
  | [d] => { results := [.lit (.bool false)], args := [d] }
  | _ => none }
def FrameWrapsWrongFalsely : Prop := frameWrapsRow.holds Try.pinned (OpenSpec.ofChange frameWrapsWrong)

/-- 'packthreadlaw.SerialAdds': WHATEVER THE INPUT: true; the input reads as it did. -/
def serialAddsSpec : ChangeSpec := { name := "serialAdds", fn := fun _ => fun
  | [d1, d2] => { results := [.lit (.bool true)], args := [d1, d2] }
  | _ => none }
def serialAddsRow : OpenClaim := { program := "ytbbohccnhcfmnaa", sum := "0ef259385393bceb4d8ef91fa667bcd072b9dc5ab2f2e052a99c61e1f0efaae2", func := "packthread/packthreadlaw.SerialAdds", spec := "serialAdds", apart := false }
def SerialAddsSaid : Prop := serialAddsRow.holds Try.pinned (OpenSpec.ofChange serialAddsSpec)

/-- ITS FALSE NEIGHBOUR: 'it returns false'. Refute it at one input. -/
def serialAddsWrong : ChangeSpec := { name := "serialAdds", fn := fun _ => fun
  | [d1, d2] => { results := [.lit (.bool false)], args := [d1, d2] }
  | _ => none }
def SerialAddsWrongFalsely : Prop := serialAddsRow.holds Try.pinned (OpenSpec.ofChange serialAddsWrong)

/-- 'packthreadlaw.SerialFars': WHATEVER THE INPUT: true; the input reads as it did. -/
def serialFarsSpec : ChangeSpec := { name := "serialFars", fn := fun _ => fun
  | [d1, d2] => { results := [.lit (.bool true)], args := [d1, d2] }
  | _ => none }
def serialFarsRow : OpenClaim := { program := "ytbbohccnhcfmnaa", sum := "0ef259385393bceb4d8ef91fa667bcd072b9dc5ab2f2e052a99c61e1f0efaae2", func := "packthread/packthreadlaw.SerialFars", spec := "serialFars", apart := false }
def SerialFarsSaid : Prop := serialFarsRow.holds Try.pinned (OpenSpec.ofChange serialFarsSpec)

/-- ITS FALSE NEIGHBOUR: 'it returns false'. Refute it at one input. -/
def serialFarsWrong : ChangeSpec := { name := "serialFars", fn := fun _ => fun
  | [d1, d2] => { results := [.lit (.bool false)], args := [d1, d2] }
  | _ => none }
def SerialFarsWrongFalsely : Prop := serialFarsRow.holds Try.pinned (OpenSpec.ofChange serialFarsWrong)

/-- 'packthreadlaw.SerialWithins': WHATEVER THE INPUT: true; the input reads as it did. -/
def serialWithinsSpec : ChangeSpec := { name := "serialWithins", fn := fun _ => fun
  | [d1, d2, d3] => { results := [.lit (.bool true)], args := [d1, d2, d3] }
  | _ => none }
def serialWithinsRow : OpenClaim := { program := "ytbbohccnhcfmnaa", sum := "0ef259385393bceb4d8ef91fa667bcd072b9dc5ab2f2e052a99c61e1f0efaae2", func := "packthread/packthreadlaw.SerialWithins", spec := "serialWithins", apart := false }
def SerialWithinsSaid : Prop := serialWithinsRow.holds Try.pinned (OpenSpec.ofChange serialWithinsSpec)

/-- ITS FALSE NEIGHBOUR: 'it returns false'. Refute it at one input. -/
def serialWithinsWrong : ChangeSpec := { name := "serialWithins", fn := fun _ => fun
  | [d1, d2, d3] => { results := [.lit (.bool false)], args := [d1, d2, d3] }
  | _ => none }
def SerialWithinsWrongFalsely : Prop := serialWithinsRow.holds Try.pinned (OpenSpec.ofChange serialWithinsWrong)

/-- 'packthreadlaw.RtoBacks': WHATEVER THE INPUT: true; the input reads as it did. -/
def rtoBacksSpec : ChangeSpec := { name := "rtoBacks", fn := fun _ => fun
  | [d] => { results := [.lit (.bool true)], args := [d] }
  | _ => none }
def rtoBacksRow : OpenClaim := { program := "ytbbohccnhcfmnaa", sum := "0ef259385393bceb4d8ef91fa667bcd072b9dc5ab2f2e052a99c61e1f0efaae2", func := "packthread/packthreadlaw.RtoBacks", spec := "rtoBacks", apart := false }
def RtoBacksSaid : Prop := rtoBacksRow.holds Try.pinned (OpenSpec.ofChange rtoBacksSpec)

/-- ITS FALSE NEIGHBOUR: 'it returns false'. Refute it at one input. -/
def rtoBacksWrong : ChangeSpec := { name := "rtoBacks", fn := fun _ => fun
  | [d] => { results := [.lit (.bool false)], args := [d] }
  | _ => none }
def RtoBacksWrongFalsely : Prop := rtoBacksRow.holds Try.pinned (OpenSpec.ofChange rtoBacksWrong)

/-- 'packthreadlaw.InetFolds': WHATEVER THE INPUT: true; the input reads as it did. -/
def inetFoldsSpec : ChangeSpec := { name := "inetFolds", fn := fun _ => fun
  | [d] => { results := [.lit (.bool true)], args := [d] }
  | _ => none }
def inetFoldsRow : OpenClaim := { program := "ytbbohccnhcfmnaa", sum := "0ef259385393bceb4d8ef91fa667bcd072b9dc5ab2f2e052a99c61e1f0efaae2", func := "packthread/packthreadlaw.InetFolds", spec := "inetFolds", apart := false }
def InetFoldsSaid : Prop := inetFoldsRow.holds Try.pinned (OpenSpec.ofChange inetFoldsSpec)

/-- ITS FALSE NEIGHBOUR: 'it returns false'. Refute it at one input. -/
def inetFoldsWrong : ChangeSpec := { name := "inetFolds", fn := fun _ => fun
  | [d] => { results := [.lit (.bool false)], args := [d] }
  | _ => none }
def InetFoldsWrongFalsely : Prop := inetFoldsRow.holds Try.pinned (OpenSpec.ofChange inetFoldsWrong)

/-- 'packthreadlaw.InetSums': WHATEVER THE INPUT: true; the input reads as it did. -/
def inetSumsSpec : ChangeSpec := { name := "inetSums", fn := fun _ => fun
  | [d] => { results := [.lit (.bool true)], args := [d] }
  | _ => none }
def inetSumsRow : OpenClaim := { program := "ytbbohccnhcfmnaa", sum := "0ef259385393bceb4d8ef91fa667bcd072b9dc5ab2f2e052a99c61e1f0efaae2", func := "packthread/packthreadlaw.InetSums", spec := "inetSums", apart := false }
def InetSumsSaid : Prop := inetSumsRow.holds Try.pinned (OpenSpec.ofChange inetSumsSpec)

/-- ITS FALSE NEIGHBOUR: 'it returns false'. Refute it at one input. -/
def inetSumsWrong : ChangeSpec := { name := "inetSums", fn := fun _ => fun
  | [d] => { results := [.lit (.bool false)], args := [d] }
  | _ => none }
def InetSumsWrongFalsely : Prop := inetSumsRow.holds Try.pinned (OpenSpec.ofChange inetSumsWrong)

/- THE SECOND FORM. 'bulk': how many values and letters a reading holds, each counted each time it is reached (what is shared counts as often as it is met; a slice's spare places count too). A statement '..UptoSaid' is the law's where the arguments, and the package variables that the reading takes, are together of bulk at most 1048576: NARROWER than '..Said'. Prove '..Said' where nothing that the law and all that it calls make is longer than what came in: it says more and counts as full. Else prove '..UptoSaid'. A law counts once. -/
mutual
def uptoBulk {H : Type} : DataW H → Nat
  | .lit (.string bytes) => bytes.length + 1
  | .lit _ => 1
  | .nil => 1
  | .ptr d => uptoBulk d + 1
  | .slice elems spare => uptoBulkAll elems + uptoBulkAll spare + 1
  | .agg parts => uptoBulkAll parts + 1
  | .iface _ d => uptoBulk d + 1
  | .map entries => uptoBulkEntries entries + 1
  | .held _ => 1
def uptoBulkAll {H : Type} : List (DataW H) → Nat
  | [] => 0
  | d :: r => uptoBulk d + uptoBulkAll r
def uptoBulkEntries {H : Type} : List (Lit × DataW H) → Nat
  | [] => 0
  | x :: r => uptoBulkEntry x + uptoBulkEntries r
def uptoBulkEntry {H : Type} : Lit × DataW H → Nat
  | (.string bytes, d) => bytes.length + uptoBulk d + 1
  | (_, d) => uptoBulk d + 1
 end
def uptoSmall : (H : Type) → List (DataW H) → Bool := fun _ ds => decide (uptoBulkAll ds ≤ 1048576)
def OpenSpec.upto (s : _root_.Go.ChangeSpec) : _root_.Go.OpenSpec := { _root_.Go.OpenSpec.ofChange s with cond := some uptoSmall }

/-- 'packthreadlaw.Names', WHERE WHAT IT READS IS OF BULK AT MOST 1048576: true; the input reads as it did. -/
def namesUptoRow : OpenClaim := { program := "ytbbohccnhcfmnaa", sum := "0ef259385393bceb4d8ef91fa667bcd072b9dc5ab2f2e052a99c61e1f0efaae2", func := "packthread/packthreadlaw.Names", spec := "names", apart := false, narrowed := true }
def NamesUptoSaid : Prop := namesUptoRow.holds Try.pinned (OpenSpec.upto namesSpec)

/-- 'packthreadlaw.RtoMays', WHERE WHAT IT READS IS OF BULK AT MOST 1048576: true; the input reads as it did. -/
def rtoMaysUptoRow : OpenClaim := { program := "ytbbohccnhcfmnaa", sum := "0ef259385393bceb4d8ef91fa667bcd072b9dc5ab2f2e052a99c61e1f0efaae2", func := "packthread/packthreadlaw.RtoMays", spec := "rtoMays", apart := false, narrowed := true }
def RtoMaysUptoSaid : Prop := rtoMaysUptoRow.holds Try.pinned (OpenSpec.upto rtoMaysSpec)

/-- 'packthreadlaw.BucketBounds', WHERE WHAT IT READS IS OF BULK AT MOST 1048576: true; the input reads as it did. -/
def bucketBoundsUptoRow : OpenClaim := { program := "ytbbohccnhcfmnaa", sum := "0ef259385393bceb4d8ef91fa667bcd072b9dc5ab2f2e052a99c61e1f0efaae2", func := "packthread/packthreadlaw.BucketBounds", spec := "bucketBounds", apart := false, narrowed := true }
def BucketBoundsUptoSaid : Prop := bucketBoundsUptoRow.holds Try.pinned (OpenSpec.upto bucketBoundsSpec)

/-- 'packthreadlaw.HoleMays', WHERE WHAT IT READS IS OF BULK AT MOST 1048576: true; the input reads as it did. -/
def holeMaysUptoRow : OpenClaim := { program := "ytbbohccnhcfmnaa", sum := "0ef259385393bceb4d8ef91fa667bcd072b9dc5ab2f2e052a99c61e1f0efaae2", func := "packthread/packthreadlaw.HoleMays", spec := "holeMays", apart := false, narrowed := true }
def HoleMaysUptoSaid : Prop := holeMaysUptoRow.holds Try.pinned (OpenSpec.upto holeMaysSpec)

/-- 'packthreadlaw.RtoFirsts', WHERE WHAT IT READS IS OF BULK AT MOST 1048576: true; the input reads as it did. -/
def rtoFirstsUptoRow : OpenClaim := { program := "ytbbohccnhcfmnaa", sum := "0ef259385393bceb4d8ef91fa667bcd072b9dc5ab2f2e052a99c61e1f0efaae2", func := "packthread/packthreadlaw.RtoFirsts", spec := "rtoFirsts", apart := false, narrowed := true }
def RtoFirstsUptoSaid : Prop := rtoFirstsUptoRow.holds Try.pinned (OpenSpec.upto rtoFirstsSpec)

/-- 'packthreadlaw.FrameWraps', WHERE WHAT IT READS IS OF BULK AT MOST 1048576: true; the input reads as it did. -/
def frameWrapsUptoRow : OpenClaim := { program := "ytbbohccnhcfmnaa", sum := "0ef259385393bceb4d8ef91fa667bcd072b9dc5ab2f2e052a99c61e1f0efaae2", func := "packthread/packthreadlaw.FrameWraps", spec := "frameWraps", apart := false, narrowed := true }
def FrameWrapsUptoSaid : Prop := frameWrapsUptoRow.holds Try.pinned (OpenSpec.upto frameWrapsSpec)

/-- 'packthreadlaw.SerialAdds', WHERE WHAT IT READS IS OF BULK AT MOST 1048576: true; the input reads as it did. -/
def serialAddsUptoRow : OpenClaim := { program := "ytbbohccnhcfmnaa", sum := "0ef259385393bceb4d8ef91fa667bcd072b9dc5ab2f2e052a99c61e1f0efaae2", func := "packthread/packthreadlaw.SerialAdds", spec := "serialAdds", apart := false, narrowed := true }
def SerialAddsUptoSaid : Prop := serialAddsUptoRow.holds Try.pinned (OpenSpec.upto serialAddsSpec)

/-- 'packthreadlaw.SerialFars', WHERE WHAT IT READS IS OF BULK AT MOST 1048576: true; the input reads as it did. -/
def serialFarsUptoRow : OpenClaim := { program := "ytbbohccnhcfmnaa", sum := "0ef259385393bceb4d8ef91fa667bcd072b9dc5ab2f2e052a99c61e1f0efaae2", func := "packthread/packthreadlaw.SerialFars", spec := "serialFars", apart := false, narrowed := true }
def SerialFarsUptoSaid : Prop := serialFarsUptoRow.holds Try.pinned (OpenSpec.upto serialFarsSpec)

/-- 'packthreadlaw.SerialWithins', WHERE WHAT IT READS IS OF BULK AT MOST 1048576: true; the input reads as it did. -/
def serialWithinsUptoRow : OpenClaim := { program := "ytbbohccnhcfmnaa", sum := "0ef259385393bceb4d8ef91fa667bcd072b9dc5ab2f2e052a99c61e1f0efaae2", func := "packthread/packthreadlaw.SerialWithins", spec := "serialWithins", apart := false, narrowed := true }
def SerialWithinsUptoSaid : Prop := serialWithinsUptoRow.holds Try.pinned (OpenSpec.upto serialWithinsSpec)

/-- 'packthreadlaw.RtoBacks', WHERE WHAT IT READS IS OF BULK AT MOST 1048576: true; the input reads as it did. -/
def rtoBacksUptoRow : OpenClaim := { program := "ytbbohccnhcfmnaa", sum := "0ef259385393bceb4d8ef91fa667bcd072b9dc5ab2f2e052a99c61e1f0efaae2", func := "packthread/packthreadlaw.RtoBacks", spec := "rtoBacks", apart := false, narrowed := true }
def RtoBacksUptoSaid : Prop := rtoBacksUptoRow.holds Try.pinned (OpenSpec.upto rtoBacksSpec)

/-- 'packthreadlaw.InetFolds', WHERE WHAT IT READS IS OF BULK AT MOST 1048576: true; the input reads as it did. -/
def inetFoldsUptoRow : OpenClaim := { program := "ytbbohccnhcfmnaa", sum := "0ef259385393bceb4d8ef91fa667bcd072b9dc5ab2f2e052a99c61e1f0efaae2", func := "packthread/packthreadlaw.InetFolds", spec := "inetFolds", apart := false, narrowed := true }
def InetFoldsUptoSaid : Prop := inetFoldsUptoRow.holds Try.pinned (OpenSpec.upto inetFoldsSpec)

/-- 'packthreadlaw.InetSums', WHERE WHAT IT READS IS OF BULK AT MOST 1048576: true; the input reads as it did. -/
def inetSumsUptoRow : OpenClaim := { program := "ytbbohccnhcfmnaa", sum := "0ef259385393bceb4d8ef91fa667bcd072b9dc5ab2f2e052a99c61e1f0efaae2", func := "packthread/packthreadlaw.InetSums", spec := "inetSums", apart := false, narrowed := true }
def InetSumsUptoSaid : Prop := inetSumsUptoRow.holds Try.pinned (OpenSpec.upto inetSumsSpec)

end Rows
end Go.Proofs.Ytbbohccnhcfmnaa
