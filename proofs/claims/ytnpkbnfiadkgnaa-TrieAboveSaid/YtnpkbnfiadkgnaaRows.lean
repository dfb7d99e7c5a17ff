/-
  No cell of these rows narrows 'for every input' (looked for: loops, veiled, ifaces, maps, wideKeys, modest, calm, conditions, laid).
  DERIVED. THE GIVEN ROWS OF THIS SEAT. 7 by the template 'for every input the law returns true; each argument reads behind the call as it read before'; 0 by the template 'total and deterministic' (their statements: YtnpkbnfiadkgnaaTotals.lean).
  GIVEN WITH THE SEED: the statements are not yours to turn. If you find one false, say at which input.
  Laid BY PROGRAM, IN A SANDBOX (cutbox-rows.mjs): the forced cells as the released guide's own fill.sh prints them over the translation b1c278499d656ba0… (all of the seat's roots in one cut). By AI agents, Wed Nov 11 2026. No macro, syntax, notation, axiom, sorry.
-/
import Derived.Test.YtnpkbnfiadkgnaaChecked
import GoSem.Claim
import GoSem.ClaimJoined
import GoSem.ClaimMapViews
import Derived.JoinedTies
import Derived.KernelRfl
namespace Go.Proofs.Ytnpkbnfiadkgnaa
/- THE CELL 'sum', in the pinned program and in every row, IS THE sha256 OF THE DUMP (.gsa) THAT YtnpkbnfiadkgnaaProg.lean LOADS. Nothing in Lean hashes anything: it is a label: what it is worth is what the hold of that sum in a sandbox is worth. -/
noncomputable def Try.pinned : Pinned := { name := "ytnpkbnfiadkgnaa", sum := "b1c278499d656ba0fea4604301ac6f812c2951347d6a4cb91d47aebe9b5f2cc2", checked := Try.checked }
namespace Rows
def none {H : Type} : Left H := { results := [], args := [] }

/-- 'juratlaw12.BucketTells': WHATEVER THE INPUT: true; the input reads as it did. -/
def bucketTellsSpec : ChangeSpec := { name := "bucketTells", fn := fun _ => fun
  | [d1, d2] => { results := [.lit (.bool true)], args := [d1, d2] }
  | _ => none }
def bucketTellsRow : OpenClaim := { program := "ytnpkbnfiadkgnaa", sum := "b1c278499d656ba0fea4604301ac6f812c2951347d6a4cb91d47aebe9b5f2cc2", func := "jurat/juratlaw12.BucketTells", spec := "bucketTells", unfollowed := true, recurses := true, plainKeys := false, apart := false }
def BucketTellsSaid : Prop := bucketTellsRow.holds Try.pinned (OpenSpec.ofChange bucketTellsSpec)

/-- ITS FALSE NEIGHBOUR: 'it returns false'. Refute it at one input. -/
def bucketTellsWrong : ChangeSpec := { name := "bucketTells", fn := fun _ => fun
  | [d1, d2] => { results := [.lit (.bool false)], args := [d1, d2] }
  | _ => none }
def BucketTellsWrongFalsely : Prop := bucketTellsRow.holds Try.pinned (OpenSpec.ofChange bucketTellsWrong)

/-- 'juratlaw12.BucketOnce': WHATEVER THE INPUT: true; the input reads as it did. -/
def bucketOnceSpec : ChangeSpec := { name := "bucketOnce", fn := fun _ => fun
  | [d1, d2, d3] => { results := [.lit (.bool true)], args := [d1, d2, d3] }
  | _ => none }
def bucketOnceRow : OpenClaim := { program := "ytnpkbnfiadkgnaa", sum := "b1c278499d656ba0fea4604301ac6f812c2951347d6a4cb91d47aebe9b5f2cc2", func := "jurat/juratlaw12.BucketOnce", spec := "bucketOnce", unfollowed := true, recurses := true, plainKeys := false, apart := false }
def BucketOnceSaid : Prop := bucketOnceRow.holds Try.pinned (OpenSpec.ofChange bucketOnceSpec)

/-- ITS FALSE NEIGHBOUR: 'it returns false'. Refute it at one input. -/
def bucketOnceWrong : ChangeSpec := { name := "bucketOnce", fn := fun _ => fun
  | [d1, d2, d3] => { results := [.lit (.bool false)], args := [d1, d2, d3] }
  | _ => none }
def BucketOnceWrongFalsely : Prop := bucketOnceRow.holds Try.pinned (OpenSpec.ofChange bucketOnceWrong)

/-- 'juratlaw14.PairClears': WHATEVER THE INPUT: true; the input reads as it did. -/
def pairClearsSpec : ChangeSpec := { name := "pairClears", fn := fun _ => fun
  | [d1, d2, d3] => { results := [.lit (.bool true)], args := [d1, d2, d3] }
  | _ => none }
def pairClearsRow : OpenClaim := { program := "ytnpkbnfiadkgnaa", sum := "b1c278499d656ba0fea4604301ac6f812c2951347d6a4cb91d47aebe9b5f2cc2", func := "jurat/juratlaw14.PairClears", spec := "pairClears", unfollowed := true, recurses := true, plainKeys := false, apart := false }
def PairClearsSaid : Prop := pairClearsRow.holds Try.pinned (OpenSpec.ofChange pairClearsSpec)

/-- ITS FALSE NEIGHBOUR: 'it returns false'. Refute it at one input. -/
def pairClearsWrong : ChangeSpec := { name := "pairClears", fn := fun _ => fun
  | [d1, d2, d3] => { results := [.lit (.bool false)], args := [d1, d2, d3] }
  | _ => none }
def PairClearsWrongFalsely : Prop := pairClearsRow.holds Try.pinned (OpenSpec.ofChange pairClearsWrong)

/-- 'juratlaw14.PairTells': WHATEVER THE INPUT: true; the input reads as it did. -/
def pairTellsSpec : ChangeSpec := { name := "pairTells", fn := fun _ => fun
  | [d1, d2, d3, d4, d5] => { results := [.lit (.bool true)], args := [d1, d2, d3, d4, d5] }
  | _ => none }
def pairTellsRow : OpenClaim := { program := "ytnpkbnfiadkgnaa", sum := "b1c278499d656ba0fea4604301ac6f812c2951347d6a4cb91d47aebe9b5f2cc2", func := "jurat/juratlaw14.PairTells", spec := "pairTells", unfollowed := true, recurses := true, plainKeys := false, apart := false }
def PairTellsSaid : Prop := pairTellsRow.holds Try.pinned (OpenSpec.ofChange pairTellsSpec)

/-- ITS FALSE NEIGHBOUR: 'it returns false'. Refute it at one input. -/
def pairTellsWrong : ChangeSpec := { name := "pairTells", fn := fun _ => fun
  | [d1, d2, d3, d4, d5] => { results := [.lit (.bool false)], args := [d1, d2, d3, d4, d5] }
  | _ => none }
def PairTellsWrongFalsely : Prop := pairTellsRow.holds Try.pinned (OpenSpec.ofChange pairTellsWrong)

/-- 'juratlaw16.TrieAbove': WHATEVER THE INPUT: true; the input reads as it did. -/
def trieAboveSpec : ChangeSpec := { name := "trieAbove", fn := fun _ => fun
  | [d] => { results := [.lit (.bool true)], args := [d] }
  | _ => none }
def trieAboveRow : OpenClaim := { program := "ytnpkbnfiadkgnaa", sum := "b1c278499d656ba0fea4604301ac6f812c2951347d6a4cb91d47aebe9b5f2cc2", func := "jurat/juratlaw16.TrieAbove", spec := "trieAbove", unfollowed := true, recurses := true, plainKeys := false, apart := false }
def TrieAboveSaid : Prop := trieAboveRow.holds Try.pinned (OpenSpec.ofChange trieAboveSpec)

/-- ITS FALSE NEIGHBOUR: 'it returns false'. Refute it at one input. -/
def trieAboveWrong : ChangeSpec := { name := "trieAbove", fn := fun _ => fun
  | [d] => { results := [.lit (.bool false)], args := [d] }
  | _ => none }
def TrieAboveWrongFalsely : Prop := trieAboveRow.holds Try.pinned (OpenSpec.ofChange trieAboveWrong)

/-- 'juratlaw16.TrieTells': WHATEVER THE INPUT: true; the input reads as it did. -/
def trieTellsSpec : ChangeSpec := { name := "trieTells", fn := fun _ => fun
  | [d1, d2] => { results := [.lit (.bool true)], args := [d1, d2] }
  | _ => none }
def trieTellsRow : OpenClaim := { program := "ytnpkbnfiadkgnaa", sum := "b1c278499d656ba0fea4604301ac6f812c2951347d6a4cb91d47aebe9b5f2cc2", func := "jurat/juratlaw16.TrieTells", spec := "trieTells", inPlace := ["internal/abi.NoEscape"], unfollowed := true, recurses := true, plainKeys := false, apart := false }
def TrieTellsSaid : Prop := trieTellsRow.holds Try.pinned (OpenSpec.ofChange trieTellsSpec)

/-- ITS FALSE NEIGHBOUR: 'it returns false'. Refute it at one input. -/
def trieTellsWrong : ChangeSpec := { name := "trieTells", fn := fun _ => fun
  | [d1, d2] => { results := [.lit (.bool false)], args := [d1, d2] }
  | _ => none }
def TrieTellsWrongFalsely : Prop := trieTellsRow.holds Try.pinned (OpenSpec.ofChange trieTellsWrong)

/-- 'juratlaw16.TrieNone': WHATEVER THE INPUT: true; the input reads as it did. -/
def trieNoneSpec : ChangeSpec := { name := "trieNone", fn := fun _ => fun
  | [d1, d2, d3, d4] => { results := [.lit (.bool true)], args := [d1, d2, d3, d4] }
  | _ => none }
def trieNoneRow : OpenClaim := { program := "ytnpkbnfiadkgnaa", sum := "b1c278499d656ba0fea4604301ac6f812c2951347d6a4cb91d47aebe9b5f2cc2", func := "jurat/juratlaw16.TrieNone", spec := "trieNone", inPlace := ["internal/abi.NoEscape"], unfollowed := true, recurses := true, plainKeys := false, apart := false }
def TrieNoneSaid : Prop := trieNoneRow.holds Try.pinned (OpenSpec.ofChange trieNoneSpec)

/-- ITS FALSE NEIGHBOUR: 'it returns false'. Refute it at one input. -/
def trieNoneWrong : ChangeSpec := { name := "trieNone", fn := fun _ => fun
  | [d1, d2, d3, d4] => { results := [.lit (.bool false)], args := [d1, d2, d3, d4] }
  | _ => none }
def TrieNoneWrongFalsely : Prop := trieNoneRow.holds Try.pinned (OpenSpec.ofChange trieNoneWrong)

/- THE SECOND FORM. 'bulk': how many values and letters a reading holds, each counted each time it is reached (what is shared counts as often as it is met; a slice's spare places count too). A statement '..UptoSaid' is the law's where the arguments, and the package variables that the reading takes, are together of bulk at most 1048576: NARROWER than '..Said'. Prove '..Said' where nothing that the law and all that it calls make is longer than what came in: it says more and counts as full. Else prove '..UptoSaid'. A law counts once. -/
mutual
def uptoBulk {H : Type} : DataW H → Nat
  | .lit (.string bytes) => bytes.length + 1
  | .lit _ => 1
  | .nil => 1
  | .ptr d => uptoBulk d + 1
  | .slice elems spare => uptoBulkAll elems + uptoBulkAll spare + 1
  | .agg parts => uptoBulkAll parts + 1
  | .iface _ d => uptoBulk d + 1
  | .map entries => uptoBulkEntries entries + 1
  | .held _ => 1
def uptoBulkAll {H : Type} : List (DataW H) → Nat
  | [] => 0
  | d :: r => uptoBulk d + uptoBulkAll r
def uptoBulkEntries {H : Type} : List (Lit × DataW H) → Nat
  | [] => 0
  | x :: r => uptoBulkEntry x + uptoBulkEntries r
def uptoBulkEntry {H : Type} : Lit × DataW H → Nat
  | (.string bytes, d) => bytes.length + uptoBulk d + 1
  | (_, d) => uptoBulk d + 1
 end
def uptoSmall : (H : Type) → List (DataW H) → Bool := fun _ ds => decide (uptoBulkAll ds ≤ 1048576)
def OpenSpec.upto (s : _root_.Go.ChangeSpec) : _root_.Go.OpenSpec := { _root_.Go.OpenSpec.ofChange s with cond := some uptoSmall }

/-- 'juratlaw12.BucketTells', WHERE WHAT IT READS IS OF BULK AT MOST 1048576: true; the input reads as it did. -/
def bucketTellsUptoRow : OpenClaim := { program := "ytnpkbnfiadkgnaa", sum := "b1c278499d656ba0fea4604301ac6f812c2951347d6a4cb91d47aebe9b5f2cc2", func := "jurat/juratlaw12.BucketTells", spec := "bucketTells", unfollowed := true, recurses := true, plainKeys := false, apart := false, narrowed := true }
def BucketTellsUptoSaid : Prop := bucketTellsUptoRow.holds Try.pinned (OpenSpec.upto bucketTellsSpec)

/-- 'juratlaw12.BucketOnce', WHERE WHAT IT READS IS OF BULK AT MOST 1048576: true; the input reads as it did. -/
def bucketOnceUptoRow : OpenClaim := { program := "ytnpkbnfiadkgnaa", sum := "b1c278499d656ba0fea4604301ac6f812c2951347d6a4cb91d47aebe9b5f2cc2", func := "jurat/juratlaw12.BucketOnce", spec := "bucketOnce", unfollowed := true, recurses := true, plainKeys := false, apart := false, narrowed := true }
def BucketOnceUptoSaid : Prop := bucketOnceUptoRow.holds Try.pinned (OpenSpec.upto bucketOnceSpec)

/-- 'juratlaw14.PairClears', WHERE WHAT IT READS IS OF BULK AT MOST 1048576: true; the input reads as it did. -/
def pairClearsUptoRow : OpenClaim := { program := "ytnpkbnfiadkgnaa", sum := "b1c278499d656ba0fea4604301ac6f812c2951347d6a4cb91d47aebe9b5f2cc2", func := "jurat/juratlaw14.PairClears", spec := "pairClears", unfollowed := true, recurses := true, plainKeys := false, apart := false, narrowed := true }
def PairClearsUptoSaid : Prop := pairClearsUptoRow.holds Try.pinned (OpenSpec.upto pairClearsSpec)

/-- 'juratlaw14.PairTells', WHERE WHAT IT READS IS OF BULK AT MOST 1048576: true; the input reads as it did. -/
def pairTellsUptoRow : OpenClaim := { program := "ytnpkbnfiadkgnaa", sum := "b1c278499d656ba0fea4604301ac6f812c2951347d6a4cb91d47aebe9b5f2cc2", func := "jurat/juratlaw14.PairTells", spec := "pairTells", unfollowed := true, recurses := true, plainKeys := false, apart := false, narrowed := true }
def PairTellsUptoSaid : Prop := pairTellsUptoRow.holds Try.pinned (OpenSpec.upto pairTellsSpec)

/-- 'juratlaw16.TrieAbove', WHERE WHAT IT READS IS OF BULK AT MOST 1048576: true; the input reads as it did. -/
def trieAboveUptoRow : OpenClaim := { program := "ytnpkbnfiadkgnaa", sum := "b1c278499d656ba0fea4604301ac6f812c2951347d6a4cb91d47aebe9b5f2cc2", func := "jurat/juratlaw16.TrieAbove", spec := "trieAbove", unfollowed := true, recurses := true, plainKeys := false, apart := false, narrowed := true }
def TrieAboveUptoSaid : Prop := trieAboveUptoRow.holds Try.pinned (OpenSpec.upto trieAboveSpec)

/-- 'juratlaw16.TrieTells', WHERE WHAT IT READS IS OF BULK AT MOST 1048576: true; the input reads as it did. -/
def trieTellsUptoRow : OpenClaim := { program := "ytnpkbnfiadkgnaa", sum := "b1c278499d656ba0fea4604301ac6f812c2951347d6a4cb91d47aebe9b5f2cc2", func := "jurat/juratlaw16.TrieTells", spec := "trieTells", inPlace := ["internal/abi.NoEscape"], unfollowed := true, recurses := true, plainKeys := false, apart := false, narrowed := true }
def TrieTellsUptoSaid : Prop := trieTellsUptoRow.holds Try.pinned (OpenSpec.upto trieTellsSpec)

/-- 'juratlaw16.TrieNone', WHERE WHAT IT READS IS OF BULK AT MOST 1048576: true; the input reads as it did. -/
def trieNoneUptoRow : OpenClaim := { program := "ytnpkbnfiadkgnaa", sum := "b1c278499d656ba0fea4604301ac6f812c2951347d6a4cb91d47aebe9b5f2cc2", func := "jurat/juratlaw16.TrieNone", spec := "trieNone", inPlace := ["internal/abi.NoEscape"], unfollowed := true, recurses := true, plainKeys := false, apart := false, narrowed := true }
def TrieNoneUptoSaid : Prop := trieNoneUptoRow.holds Try.pinned (OpenSpec.upto trieNoneSpec)

end Rows
end Go.Proofs.Ytnpkbnfiadkgnaa
