/-
  No cell of these rows narrows 'for every input' (looked for: loops, veiled, ifaces, maps, wideKeys, modest, calm, conditions, laid).
  DERIVED. THE GIVEN ROWS OF THIS SEAT. 10 by the template 'for every input the law returns true; each argument reads behind the call as it read before'; 0 by the template 'total and deterministic' (their statements: YtkghoodhgihokaaTotals.lean).
  GIVEN WITH THE SEED: the statements are not yours to turn. If you find one false, say at which input.
  Laid BY PROGRAM, IN A SANDBOX (cutbox-rows.mjs): the forced cells as the released guide's own fill.sh prints them over the translation bc9e352a4067dc13… (all of the seat's roots in one cut). By AI agents, Wed Nov 11 2026. No macro, syntax, notation, axiom, sorry.
-/
import Derived.Test.YtkghoodhgihokaaChecked
import GoSem.Claim
import GoSem.ClaimJoined
import GoSem.ClaimMapViews
import Derived.JoinedTies
import Derived.KernelRfl
namespace Go.Proofs.Ytkghoodhgihokaa
/- THE CELL 'sum', in the pinned program and in every row, IS THE sha256 OF THE DUMP (.gsa) THAT YtkghoodhgihokaaProg.lean LOADS. Nothing in Lean hashes anything: it is a label: what it is worth is what the hold of that sum in a sandbox is worth. -/
noncomputable def Try.pinned : Pinned := { name := "ytkghoodhgihokaa", sum := "bc9e352a4067dc135c2e45ea3677ba50d081a718f1cfb9fa128150df45986f4d", checked := Try.checked }
namespace Rows
def none {H : Type} : Left H := { results := [], args := [] }

/-- 'packthreadlaw.PathJoins': WHATEVER THE INPUT: true; the input reads as it did. -/
def pathJoinsSpec : ChangeSpec := { name := "pathJoins", fn := fun _ => fun
  | [d] => { results := [.lit (.bool true)], args := [d] }
  | _ => none }
def pathJoinsRow : OpenClaim := { program := "ytkghoodhgihokaa", sum := "bc9e352a4067dc135c2e45ea3677ba50d081a718f1cfb9fa128150df45986f4d", func := "packthread/packthreadlaw.PathJoins", spec := "pathJoins", inPlace := ["internal/bytealg.IndexByteString", "internal/bytealg.IndexString", "internal/abi.NoEscape", "internal/bytealg.MakeNoZero"], unfollowed := true, recurses := true, named := ["internal/bytealg.MaxLen"], apart := false }
def PathJoinsSaid : Prop := pathJoinsRow.holds Try.pinned (OpenSpec.ofChange pathJoinsSpec)

/-- ITS FALSE NEIGHBOUR: 'it returns false'. Refute it at one input. -/
def pathJoinsWrong : ChangeSpec := { name := "pathJoins", fn := fun _ => fun
  | [d] => { results := [.lit (.bool false)], args := [d] }
  | _ => none }
def PathJoinsWrongFalsely : Prop := pathJoinsRow.holds Try.pinned (OpenSpec.ofChange pathJoinsWrong)

/-- 'packthreadlaw.MsgAsks': WHATEVER THE INPUT: true; the input reads as it did. -/
def msgAsksSpec : ChangeSpec := { name := "msgAsks", fn := fun _ => fun
  | [d] => { results := [.lit (.bool true)], args := [d] }
  | _ => none }
def msgAsksRow : OpenClaim := { program := "ytkghoodhgihokaa", sum := "bc9e352a4067dc135c2e45ea3677ba50d081a718f1cfb9fa128150df45986f4d", func := "packthread/packthreadlaw.MsgAsks", spec := "msgAsks", unfollowed := true, recurses := true, apart := false }
def MsgAsksSaid : Prop := msgAsksRow.holds Try.pinned (OpenSpec.ofChange msgAsksSpec)

/-- ITS FALSE NEIGHBOUR: 'it returns false'. Refute it at one input. -/
def msgAsksWrong : ChangeSpec := { name := "msgAsks", fn := fun _ => fun
  | [d] => { results := [.lit (.bool false)], args := [d] }
  | _ => none }
def MsgAsksWrongFalsely : Prop := msgAsksRow.holds Try.pinned (OpenSpec.ofChange msgAsksWrong)

/-- 'packthreadlaw.MsgAskeds': WHATEVER THE INPUT: true; the input reads as it did. -/
def msgAskedsSpec : ChangeSpec := { name := "msgAskeds", fn := fun _ => fun
  | [d] => { results := [.lit (.bool true)], args := [d] }
  | _ => none }
def msgAskedsRow : OpenClaim := { program := "ytkghoodhgihokaa", sum := "bc9e352a4067dc135c2e45ea3677ba50d081a718f1cfb9fa128150df45986f4d", func := "packthread/packthreadlaw.MsgAskeds", spec := "msgAskeds", unfollowed := true, recurses := true, apart := false }
def MsgAskedsSaid : Prop := msgAskedsRow.holds Try.pinned (OpenSpec.ofChange msgAskedsSpec)

/-- ITS FALSE NEIGHBOUR: 'it returns false'. Refute it at one input. -/
def msgAskedsWrong : ChangeSpec := { name := "msgAskeds", fn := fun _ => fun
  | [d] => { results := [.lit (.bool false)], args := [d] }
  | _ => none }
def MsgAskedsWrongFalsely : Prop := msgAskedsRow.holds Try.pinned (OpenSpec.ofChange msgAskedsWrong)

/-- 'packthreadlaw.MsgAnswers': WHATEVER THE INPUT: true; the input reads as it did. -/
def msgAnswersSpec : ChangeSpec := { name := "msgAnswers", fn := fun _ => fun
  | [d] => { results := [.lit (.bool true)], args := [d] }
  | _ => none }
def msgAnswersRow : OpenClaim := { program := "ytkghoodhgihokaa", sum := "bc9e352a4067dc135c2e45ea3677ba50d081a718f1cfb9fa128150df45986f4d", func := "packthread/packthreadlaw.MsgAnswers", spec := "msgAnswers", inPlace := ["internal/bytealg.IndexByteString", "internal/bytealg.IndexString"], unfollowed := true, recurses := true, named := ["internal/bytealg.MaxLen"], apart := false }
def MsgAnswersSaid : Prop := msgAnswersRow.holds Try.pinned (OpenSpec.ofChange msgAnswersSpec)

/-- ITS FALSE NEIGHBOUR: 'it returns false'. Refute it at one input. -/
def msgAnswersWrong : ChangeSpec := { name := "msgAnswers", fn := fun _ => fun
  | [d] => { results := [.lit (.bool false)], args := [d] }
  | _ => none }
def MsgAnswersWrongFalsely : Prop := msgAnswersRow.holds Try.pinned (OpenSpec.ofChange msgAnswersWrong)

/-- 'packthreadlaw.MsgAnswereds': WHATEVER THE INPUT: true; the input reads as it did. -/
def msgAnsweredsSpec : ChangeSpec := { name := "msgAnswereds", fn := fun _ => fun
  | [d] => { results := [.lit (.bool true)], args := [d] }
  | _ => none }
def msgAnsweredsRow : OpenClaim := { program := "ytkghoodhgihokaa", sum := "bc9e352a4067dc135c2e45ea3677ba50d081a718f1cfb9fa128150df45986f4d", func := "packthread/packthreadlaw.MsgAnswereds", spec := "msgAnswereds", inPlace := ["internal/bytealg.IndexByteString", "internal/bytealg.IndexString"], unfollowed := true, recurses := true, named := ["internal/bytealg.MaxLen"], apart := false }
def MsgAnsweredsSaid : Prop := msgAnsweredsRow.holds Try.pinned (OpenSpec.ofChange msgAnsweredsSpec)

/-- ITS FALSE NEIGHBOUR: 'it returns false'. Refute it at one input. -/
def msgAnsweredsWrong : ChangeSpec := { name := "msgAnswereds", fn := fun _ => fun
  | [d] => { results := [.lit (.bool false)], args := [d] }
  | _ => none }
def MsgAnsweredsWrongFalsely : Prop := msgAnsweredsRow.holds Try.pinned (OpenSpec.ofChange msgAnsweredsWrong)

/-- 'packthreadlaw.GlobMays': WHATEVER THE INPUT: true; the input reads as it did. -/
def globMaysSpec : ChangeSpec := { name := "globMays", fn := fun _ => fun
  | [d] => { results := [.lit (.bool true)], args := [d] }
  | _ => none }
def globMaysRow : OpenClaim := { program := "ytkghoodhgihokaa", sum := "bc9e352a4067dc135c2e45ea3677ba50d081a718f1cfb9fa128150df45986f4d", func := "packthread/packthreadlaw.GlobMays", spec := "globMays", unfollowed := true, recurses := true, apart := false }
def GlobMaysSaid : Prop := globMaysRow.holds Try.pinned (OpenSpec.ofChange globMaysSpec)

/-- ITS FALSE NEIGHBOUR: 'it returns false'. Refute it at one input. -/
def globMaysWrong : ChangeSpec := { name := "globMays", fn := fun _ => fun
  | [d] => { results := [.lit (.bool false)], args := [d] }
  | _ => none }
def GlobMaysWrongFalsely : Prop := globMaysRow.holds Try.pinned (OpenSpec.ofChange globMaysWrong)

/-- 'packthreadlaw.GlobMatches': WHATEVER THE INPUT: true; the input reads as it did. -/
def globMatchesSpec : ChangeSpec := { name := "globMatches", fn := fun _ => fun
  | [d1, d2] => { results := [.lit (.bool true)], args := [d1, d2] }
  | _ => none }
def globMatchesRow : OpenClaim := { program := "ytkghoodhgihokaa", sum := "bc9e352a4067dc135c2e45ea3677ba50d081a718f1cfb9fa128150df45986f4d", func := "packthread/packthreadlaw.GlobMatches", spec := "globMatches", unfollowed := true, recurses := true, apart := false }
def GlobMatchesSaid : Prop := globMatchesRow.holds Try.pinned (OpenSpec.ofChange globMatchesSpec)

/-- ITS FALSE NEIGHBOUR: 'it returns false'. Refute it at one input. -/
def globMatchesWrong : ChangeSpec := { name := "globMatches", fn := fun _ => fun
  | [d1, d2] => { results := [.lit (.bool false)], args := [d1, d2] }
  | _ => none }
def GlobMatchesWrongFalsely : Prop := globMatchesRow.holds Try.pinned (OpenSpec.ofChange globMatchesWrong)

/-- 'packthreadlaw.GlobPicks': WHATEVER THE INPUT: true; the input reads as it did. -/
def globPicksSpec : ChangeSpec := { name := "globPicks", fn := fun _ => fun
  | [d1, d2] => { results := [.lit (.bool true)], args := [d1, d2] }
  | _ => none }
def globPicksRow : OpenClaim := { program := "ytkghoodhgihokaa", sum := "bc9e352a4067dc135c2e45ea3677ba50d081a718f1cfb9fa128150df45986f4d", func := "packthread/packthreadlaw.GlobPicks", spec := "globPicks", unfollowed := true, recurses := true, apart := false }
def GlobPicksSaid : Prop := globPicksRow.holds Try.pinned (OpenSpec.ofChange globPicksSpec)

/-- ITS FALSE NEIGHBOUR: 'it returns false'. Refute it at one input. -/
def globPicksWrong : ChangeSpec := { name := "globPicks", fn := fun _ => fun
  | [d1, d2] => { results := [.lit (.bool false)], args := [d1, d2] }
  | _ => none }
def GlobPicksWrongFalsely : Prop := globPicksRow.holds Try.pinned (OpenSpec.ofChange globPicksWrong)

/-- 'packthreadlaw.FetchPlays': WHATEVER THE INPUT: true; the input reads as it did. -/
def fetchPlaysSpec : ChangeSpec := { name := "fetchPlays", fn := fun _ => fun
  | [d] => { results := [.lit (.bool true)], args := [d] }
  | _ => none }
def fetchPlaysRow : OpenClaim := { program := "ytkghoodhgihokaa", sum := "bc9e352a4067dc135c2e45ea3677ba50d081a718f1cfb9fa128150df45986f4d", func := "packthread/packthreadlaw.FetchPlays", spec := "fetchPlays", unfollowed := true, recurses := true, apart := false }
def FetchPlaysSaid : Prop := fetchPlaysRow.holds Try.pinned (OpenSpec.ofChange fetchPlaysSpec)

/-- ITS FALSE NEIGHBOUR: 'it returns false'. Refute it at one input. -/
def fetchPlaysWrong : ChangeSpec := { name := "fetchPlays", fn := fun _ => fun
  | [d] => { results := [.lit (.bool false)], args := [d] }
  | _ => none }
def FetchPlaysWrongFalsely : Prop := fetchPlaysRow.holds Try.pinned (OpenSpec.ofChange fetchPlaysWrong)

/-- 'packthreadlaw.HuffCodes': WHATEVER THE INPUT: true; the input reads as it did. -/
def huffCodesSpec : ChangeSpec := { name := "huffCodes", fn := fun _ => fun
  | [d] => { results := [.lit (.bool true)], args := [d] }
  | _ => none }
def huffCodesRow : OpenClaim := { program := "ytkghoodhgihokaa", sum := "bc9e352a4067dc135c2e45ea3677ba50d081a718f1cfb9fa128150df45986f4d", func := "packthread/packthreadlaw.HuffCodes", spec := "huffCodes", unfollowed := true, recurses := true, apart := false }
def HuffCodesSaid : Prop := huffCodesRow.holds Try.pinned (OpenSpec.ofChange huffCodesSpec)

/-- ITS FALSE NEIGHBOUR: 'it returns false'. Refute it at one input. -/
def huffCodesWrong : ChangeSpec := { name := "huffCodes", fn := fun _ => fun
  | [d] => { results := [.lit (.bool false)], args := [d] }
  | _ => none }
def HuffCodesWrongFalsely : Prop := huffCodesRow.holds Try.pinned (OpenSpec.ofChange huffCodesWrong)

/- THE SECOND FORM. 'bulk': how many values and letters a reading holds, each counted each time it is reached (what is shared counts as often as it is met; a slice's spare places count too). A statement '..UptoSaid' is the law's where the arguments, and the package variables that the reading takes, are together of bulk at most 1048576: NARROWER than '..Said'. Prove '..Said' where nothing that the law and all that it calls make is longer than what came in: it says more and counts as full. Else prove '..UptoSaid'. A law counts once. -/
mutual
def uptoBulk {H : Type} : DataW H → Nat
  | .lit (.string bytes) => bytes.length + 1
  | .lit _ => 1
  | .nil => 1
  | .ptr d => uptoBulk d + 1
  | .slice elems spare => uptoBulkAll elems + uptoBulkAll spare + 1
  | .agg parts => uptoBulkAll parts + 1
  | .iface _ d => uptoBulk d + 1
  | .map entries => uptoBulkEntries entries + 1
  | .held _ => 1
def uptoBulkAll {H : Type} : List (DataW H) → Nat
  | [] => 0
  | d :: r => uptoBulk d + uptoBulkAll r
def uptoBulkEntries {H : Type} : List (Lit × DataW H) → Nat
  | [] => 0
  | x :: r => uptoBulkEntry x + uptoBulkEntries r
def uptoBulkEntry {H : Type} : Lit × DataW H → Nat
  | (.string bytes, d) => bytes.length + uptoBulk d + 1
  | (_, d) => uptoBulk d + 1
 end
def uptoSmall : (H : Type) → List (DataW H) → Bool := fun _ ds => decide (uptoBulkAll ds ≤ 1048576)
def OpenSpec.upto (s : _root_.Go.ChangeSpec) : _root_.Go.OpenSpec := { _root_.Go.OpenSpec.ofChange s with cond := some uptoSmall }

/-- 'packthreadlaw.PathJoins', WHERE WHAT IT READS IS OF BULK AT MOST 1048576: true; the input reads as it did. -/
def pathJoinsUptoRow : OpenClaim := { program := "ytkghoodhgihokaa", sum := "bc9e352a4067dc135c2e45ea3677ba50d081a718f1cfb9fa128150df45986f4d", func := "packthread/packthreadlaw.PathJoins", spec := "pathJoins", inPlace := ["internal/bytealg.IndexByteString", "internal/bytealg.IndexString", "internal/abi.NoEscape", "internal/bytealg.MakeNoZero"], unfollowed := true, recurses := true, named := ["internal/bytealg.MaxLen"], apart := false, narrowed := true }
def PathJoinsUptoSaid : Prop := pathJoinsUptoRow.holds Try.pinned (OpenSpec.upto pathJoinsSpec)

/-- 'packthreadlaw.MsgAsks', WHERE WHAT IT READS IS OF BULK AT MOST 1048576: true; the input reads as it did. -/
def msgAsksUptoRow : OpenClaim := { program := "ytkghoodhgihokaa", sum := "bc9e352a4067dc135c2e45ea3677ba50d081a718f1cfb9fa128150df45986f4d", func := "packthread/packthreadlaw.MsgAsks", spec := "msgAsks", unfollowed := true, recurses := true, apart := false, narrowed := true }
def MsgAsksUptoSaid : Prop := msgAsksUptoRow.holds Try.pinned (OpenSpec.upto msgAsksSpec)

/-- 'packthreadlaw.MsgAskeds', WHERE WHAT IT READS IS OF BULK AT MOST 1048576: true; the input reads as it did. -/
def msgAskedsUptoRow : OpenClaim := { program := "ytkghoodhgihokaa", sum := "bc9e352a4067dc135c2e45ea3677ba50d081a718f1cfb9fa128150df45986f4d", func := "packthread/packthreadlaw.MsgAskeds", spec := "msgAskeds", unfollowed := true, recurses := true, apart := false, narrowed := true }
def MsgAskedsUptoSaid : Prop := msgAskedsUptoRow.holds Try.pinned (OpenSpec.upto msgAskedsSpec)

/-- 'packthreadlaw.MsgAnswers', WHERE WHAT IT READS IS OF BULK AT MOST 1048576: true; the input reads as it did. -/
def msgAnswersUptoRow : OpenClaim := { program := "ytkghoodhgihokaa", sum := "bc9e352a4067dc135c2e45ea3677ba50d081a718f1cfb9fa128150df45986f4d", func := "packthread/packthreadlaw.MsgAnswers", spec := "msgAnswers", inPlace := ["internal/bytealg.IndexByteString", "internal/bytealg.IndexString"], unfollowed := true, recurses := true, named := ["internal/bytealg.MaxLen"], apart := false, narrowed := true }
def MsgAnswersUptoSaid : Prop := msgAnswersUptoRow.holds Try.pinned (OpenSpec.upto msgAnswersSpec)

/-- 'packthreadlaw.MsgAnswereds', WHERE WHAT IT READS IS OF BULK AT MOST 1048576: true; the input reads as it did. -/
def msgAnsweredsUptoRow : OpenClaim := { program := "ytkghoodhgihokaa", sum := "bc9e352a4067dc135c2e45ea3677ba50d081a718f1cfb9fa128150df45986f4d", func := "packthread/packthreadlaw.MsgAnswereds", spec := "msgAnswereds", inPlace := ["internal/bytealg.IndexByteString", "internal/bytealg.IndexString"], unfollowed := true, recurses := true, named := ["internal/bytealg.MaxLen"], apart := false, narrowed := true }
def MsgAnsweredsUptoSaid : Prop := msgAnsweredsUptoRow.holds Try.pinned (OpenSpec.upto msgAnsweredsSpec)

/-- 'packthreadlaw.GlobMays', WHERE WHAT IT READS IS OF BULK AT MOST 1048576: true; the input reads as it did. -/
def globMaysUptoRow : OpenClaim := { program := "ytkghoodhgihokaa", sum := "bc9e352a4067dc135c2e45ea3677ba50d081a718f1cfb9fa128150df45986f4d", func := "packthread/packthreadlaw.GlobMays", spec := "globMays", unfollowed := true, recurses := true, apart := false, narrowed := true }
def GlobMaysUptoSaid : Prop := globMaysUptoRow.holds Try.pinned (OpenSpec.upto globMaysSpec)

/-- 'packthreadlaw.GlobMatches', WHERE WHAT IT READS IS OF BULK AT MOST 1048576: true; the input reads as it did. -/
def globMatchesUptoRow : OpenClaim := { program := "ytkghoodhgihokaa", sum := "bc9e352a4067dc135c2e45ea3677ba50d081a718f1cfb9fa128150df45986f4d", func := "packthread/packthreadlaw.GlobMatches", spec := "globMatches", unfollowed := true, recurses := true, apart := false, narrowed := true }
def GlobMatchesUptoSaid : Prop := globMatchesUptoRow.holds Try.pinned (OpenSpec.upto globMatchesSpec)

/-- 'packthreadlaw.GlobPicks', WHERE WHAT IT READS IS OF BULK AT MOST 1048576: true; the input reads as it did. -/
def globPicksUptoRow : OpenClaim := { program := "ytkghoodhgihokaa", sum := "bc9e352a4067dc135c2e45ea3677ba50d081a718f1cfb9fa128150df45986f4d", func := "packthread/packthreadlaw.GlobPicks", spec := "globPicks", unfollowed := true, recurses := true, apart := false, narrowed := true }
def GlobPicksUptoSaid : Prop := globPicksUptoRow.holds Try.pinned (OpenSpec.upto globPicksSpec)

/-- 'packthreadlaw.FetchPlays', WHERE WHAT IT READS IS OF BULK AT MOST 1048576: true; the input reads as it did. -/
def fetchPlaysUptoRow : OpenClaim := { program := "ytkghoodhgihokaa", sum := "bc9e352a4067dc135c2e45ea3677ba50d081a718f1cfb9fa128150df45986f4d", func := "packthread/packthreadlaw.FetchPlays", spec := "fetchPlays", unfollowed := true, recurses := true, apart := false, narrowed := true }
def FetchPlaysUptoSaid : Prop := fetchPlaysUptoRow.holds Try.pinned (OpenSpec.upto fetchPlaysSpec)

/-- 'packthreadlaw.HuffCodes', WHERE WHAT IT READS IS OF BULK AT MOST 1048576: true; the input reads as it did. -/
def huffCodesUptoRow : OpenClaim := { program := "ytkghoodhgihokaa", sum := "bc9e352a4067dc135c2e45ea3677ba50d081a718f1cfb9fa128150df45986f4d", func := "packthread/packthreadlaw.HuffCodes", spec := "huffCodes", unfollowed := true, recurses := true, apart := false, narrowed := true }
def HuffCodesUptoSaid : Prop := huffCodesUptoRow.holds Try.pinned (OpenSpec.upto huffCodesSpec)

end Rows
end Go.Proofs.Ytkghoodhgihokaa
