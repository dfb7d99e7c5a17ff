/-
  No cell of these rows narrows 'for every input' (looked for: loops, veiled, ifaces, maps, wideKeys, modest, calm, conditions, laid).
  DERIVED. THE GIVEN ROWS OF THIS SEAT. 10 by the template 'for every input the law returns true; each argument reads behind the call as it read before'; 0 by the template 'total and deterministic' (their statements: YtekdmkdidnnpbaaTotals.lean).
  GIVEN WITH THE SEED: the statements are not yours to turn. If you find one false, say at which input.
  Laid BY PROGRAM, IN A SANDBOX (cutbox-rows.mjs): the forced cells as the released guide's own fill.sh prints them over the translation c9110c903059f2c6… (all of the seat's roots in one cut). By AI agents, Wed Nov 11 2026. No macro, syntax, notation, axiom, sorry.
-/
import Derived.Test.YtekdmkdidnnpbaaChecked
import GoSem.Claim
import GoSem.ClaimJoined
import GoSem.ClaimMapViews
import Derived.JoinedTies
import Derived.KernelRfl
namespace Go.Proofs.Ytekdmkdidnnpbaa
/- THE CELL 'sum', in the pinned program and in every row, IS THE sha256 OF THE DUMP (.gsa) THAT YtekdmkdidnnpbaaProg.lean LOADS. Nothing in Lean hashes anything: it is a label: what it is worth is what the hold of that sum in a sandbox is worth. -/
noncomputable def Try.pinned : Pinned := { name := "ytekdmkdidnnpbaa", sum := "c9110c903059f2c6e32735b35164e71e27498ae048e9a04dae33bd7fe7c473aa", checked := Try.checked }
namespace Rows
def none {H : Type} : Left H := { results := [], args := [] }

/-- 'juratlaw15.OccOrders': WHATEVER THE INPUT: true; the input reads as it did. -/
def occOrdersSpec : ChangeSpec := { name := "occOrders", fn := fun _ => fun
  | [d1, d2, d3] => { results := [.lit (.bool true)], args := [d1, d2, d3] }
  | _ => none }
def occOrdersRow : OpenClaim := { program := "ytekdmkdidnnpbaa", sum := "c9110c903059f2c6e32735b35164e71e27498ae048e9a04dae33bd7fe7c473aa", func := "jurat/juratlaw15.OccOrders", spec := "occOrders", unfollowed := true, recurses := true, apart := false }
def OccOrdersSaid : Prop := occOrdersRow.holds Try.pinned (OpenSpec.ofChange occOrdersSpec)

/-- ITS FALSE NEIGHBOUR: 'it returns false'. Refute it at one input. -/
def occOrdersWrong : ChangeSpec := { name := "occOrders", fn := fun _ => fun
  | [d1, d2, d3] => { results := [.lit (.bool false)], args := [d1, d2, d3] }
  | _ => none }
def OccOrdersWrongFalsely : Prop := occOrdersRow.holds Try.pinned (OpenSpec.ofChange occOrdersWrong)

/-- 'juratlaw15.OccGrows': WHATEVER THE INPUT: true; the input reads as it did. -/
def occGrowsSpec : ChangeSpec := { name := "occGrows", fn := fun _ => fun
  | [d1, d2, d3] => { results := [.lit (.bool true)], args := [d1, d2, d3] }
  | _ => none }
def occGrowsRow : OpenClaim := { program := "ytekdmkdidnnpbaa", sum := "c9110c903059f2c6e32735b35164e71e27498ae048e9a04dae33bd7fe7c473aa", func := "jurat/juratlaw15.OccGrows", spec := "occGrows", unfollowed := true, recurses := true, apart := false }
def OccGrowsSaid : Prop := occGrowsRow.holds Try.pinned (OpenSpec.ofChange occGrowsSpec)

/-- ITS FALSE NEIGHBOUR: 'it returns false'. Refute it at one input. -/
def occGrowsWrong : ChangeSpec := { name := "occGrows", fn := fun _ => fun
  | [d1, d2, d3] => { results := [.lit (.bool false)], args := [d1, d2, d3] }
  | _ => none }
def OccGrowsWrongFalsely : Prop := occGrowsRow.holds Try.pinned (OpenSpec.ofChange occGrowsWrong)

/-- 'juratlaw15.OccTells': WHATEVER THE INPUT: true; the input reads as it did. -/
def occTellsSpec : ChangeSpec := { name := "occTells", fn := fun _ => fun
  | [d1, d2, d3] => { results := [.lit (.bool true)], args := [d1, d2, d3] }
  | _ => none }
def occTellsRow : OpenClaim := { program := "ytekdmkdidnnpbaa", sum := "c9110c903059f2c6e32735b35164e71e27498ae048e9a04dae33bd7fe7c473aa", func := "jurat/juratlaw15.OccTells", spec := "occTells", unfollowed := true, recurses := true, apart := false }
def OccTellsSaid : Prop := occTellsRow.holds Try.pinned (OpenSpec.ofChange occTellsSpec)

/-- ITS FALSE NEIGHBOUR: 'it returns false'. Refute it at one input. -/
def occTellsWrong : ChangeSpec := { name := "occTells", fn := fun _ => fun
  | [d1, d2, d3] => { results := [.lit (.bool false)], args := [d1, d2, d3] }
  | _ => none }
def OccTellsWrongFalsely : Prop := occTellsRow.holds Try.pinned (OpenSpec.ofChange occTellsWrong)

/-- 'juratlaw11.BookPuts': WHATEVER THE INPUT: true; the input reads as it did. -/
def bookPutsSpec : ChangeSpec := { name := "bookPuts", fn := fun _ => fun
  | [d] => { results := [.lit (.bool true)], args := [d] }
  | _ => none }
def bookPutsRow : OpenClaim := { program := "ytekdmkdidnnpbaa", sum := "c9110c903059f2c6e32735b35164e71e27498ae048e9a04dae33bd7fe7c473aa", func := "jurat/juratlaw11.BookPuts", spec := "bookPuts", inPlace := ["internal/abi.NoEscape"], unfollowed := true, recurses := true, apart := false }
def BookPutsSaid : Prop := bookPutsRow.holds Try.pinned (OpenSpec.ofChange bookPutsSpec)

/-- ITS FALSE NEIGHBOUR: 'it returns false'. Refute it at one input. -/
def bookPutsWrong : ChangeSpec := { name := "bookPuts", fn := fun _ => fun
  | [d] => { results := [.lit (.bool false)], args := [d] }
  | _ => none }
def BookPutsWrongFalsely : Prop := bookPutsRow.holds Try.pinned (OpenSpec.ofChange bookPutsWrong)

/-- 'juratlaw11.BookTakes': WHATEVER THE INPUT: true; the input reads as it did. -/
def bookTakesSpec : ChangeSpec := { name := "bookTakes", fn := fun _ => fun
  | [d] => { results := [.lit (.bool true)], args := [d] }
  | _ => none }
def bookTakesRow : OpenClaim := { program := "ytekdmkdidnnpbaa", sum := "c9110c903059f2c6e32735b35164e71e27498ae048e9a04dae33bd7fe7c473aa", func := "jurat/juratlaw11.BookTakes", spec := "bookTakes", inPlace := ["internal/abi.NoEscape"], unfollowed := true, recurses := true, apart := false }
def BookTakesSaid : Prop := bookTakesRow.holds Try.pinned (OpenSpec.ofChange bookTakesSpec)

/-- ITS FALSE NEIGHBOUR: 'it returns false'. Refute it at one input. -/
def bookTakesWrong : ChangeSpec := { name := "bookTakes", fn := fun _ => fun
  | [d] => { results := [.lit (.bool false)], args := [d] }
  | _ => none }
def BookTakesWrongFalsely : Prop := bookTakesRow.holds Try.pinned (OpenSpec.ofChange bookTakesWrong)

/-- 'juratlaw11.BookBack': WHATEVER THE INPUT: true; the input reads as it did. -/
def bookBackSpec : ChangeSpec := { name := "bookBack", fn := fun _ => fun
  | [d1, d2, d3] => { results := [.lit (.bool true)], args := [d1, d2, d3] }
  | _ => none }
def bookBackRow : OpenClaim := { program := "ytekdmkdidnnpbaa", sum := "c9110c903059f2c6e32735b35164e71e27498ae048e9a04dae33bd7fe7c473aa", func := "jurat/juratlaw11.BookBack", spec := "bookBack", inPlace := ["internal/abi.NoEscape"], unfollowed := true, recurses := true, apart := false }
def BookBackSaid : Prop := bookBackRow.holds Try.pinned (OpenSpec.ofChange bookBackSpec)

/-- ITS FALSE NEIGHBOUR: 'it returns false'. Refute it at one input. -/
def bookBackWrong : ChangeSpec := { name := "bookBack", fn := fun _ => fun
  | [d1, d2, d3] => { results := [.lit (.bool false)], args := [d1, d2, d3] }
  | _ => none }
def BookBackWrongFalsely : Prop := bookBackRow.holds Try.pinned (OpenSpec.ofChange bookBackWrong)

/-- 'juratlaw16.TrieAbove': WHATEVER THE INPUT: true; the input reads as it did. -/
def trieAboveSpec : ChangeSpec := { name := "trieAbove", fn := fun _ => fun
  | [d] => { results := [.lit (.bool true)], args := [d] }
  | _ => none }
def trieAboveRow : OpenClaim := { program := "ytekdmkdidnnpbaa", sum := "c9110c903059f2c6e32735b35164e71e27498ae048e9a04dae33bd7fe7c473aa", func := "jurat/juratlaw16.TrieAbove", spec := "trieAbove", unfollowed := true, recurses := true, apart := false }
def TrieAboveSaid : Prop := trieAboveRow.holds Try.pinned (OpenSpec.ofChange trieAboveSpec)

/-- ITS FALSE NEIGHBOUR: 'it returns false'. Refute it at one input. -/
def trieAboveWrong : ChangeSpec := { name := "trieAbove", fn := fun _ => fun
  | [d] => { results := [.lit (.bool false)], args := [d] }
  | _ => none }
def TrieAboveWrongFalsely : Prop := trieAboveRow.holds Try.pinned (OpenSpec.ofChange trieAboveWrong)

/-- 'juratlaw16.TrieTells': WHATEVER THE INPUT: true; the input reads as it did. -/
def trieTellsSpec : ChangeSpec := { name := "trieTells", fn := fun _ => fun
  | [d1, d2] => { results := [.lit (.bool true)], args := [d1, d2] }
  | _ => none }
def trieTellsRow : OpenClaim := { program := "ytekdmkdidnnpbaa", sum := "c9110c903059f2c6e32735b35164e71e27498ae048e9a04dae33bd7fe7c473aa", func := "jurat/juratlaw16.TrieTells", spec := "trieTells", inPlace := ["internal/abi.NoEscape"], unfollowed := true, recurses := true, apart := false }
def TrieTellsSaid : Prop := trieTellsRow.holds Try.pinned (OpenSpec.ofChange trieTellsSpec)

/-- ITS FALSE NEIGHBOUR: 'it returns false'. Refute it at one input. -/
def trieTellsWrong : ChangeSpec := { name := "trieTells", fn := fun _ => fun
  | [d1, d2] => { results := [.lit (.bool false)], args := [d1, d2] }
  | _ => none }
def TrieTellsWrongFalsely : Prop := trieTellsRow.holds Try.pinned (OpenSpec.ofChange trieTellsWrong)

/-- 'juratlaw16.TrieNone': WHATEVER THE INPUT: true; the input reads as it did. -/
def trieNoneSpec : ChangeSpec := { name := "trieNone", fn := fun _ => fun
  | [d1, d2, d3, d4] => { results := [.lit (.bool true)], args := [d1, d2, d3, d4] }
  | _ => none }
def trieNoneRow : OpenClaim := { program := "ytekdmkdidnnpbaa", sum := "c9110c903059f2c6e32735b35164e71e27498ae048e9a04dae33bd7fe7c473aa", func := "jurat/juratlaw16.TrieNone", spec := "trieNone", inPlace := ["internal/abi.NoEscape"], unfollowed := true, recurses := true, apart := false }
def TrieNoneSaid : Prop := trieNoneRow.holds Try.pinned (OpenSpec.ofChange trieNoneSpec)

/-- ITS FALSE NEIGHBOUR: 'it returns false'. Refute it at one input. -/
def trieNoneWrong : ChangeSpec := { name := "trieNone", fn := fun _ => fun
  | [d1, d2, d3, d4] => { results := [.lit (.bool false)], args := [d1, d2, d3, d4] }
  | _ => none }
def TrieNoneWrongFalsely : Prop := trieNoneRow.holds Try.pinned (OpenSpec.ofChange trieNoneWrong)

/-- 'juratlaw47.TallyTells': WHATEVER THE INPUT: true; the input reads as it did. -/
def tallyTellsSpec : ChangeSpec := { name := "tallyTells", fn := fun _ => fun
  | [d1, d2, d3] => { results := [.lit (.bool true)], args := [d1, d2, d3] }
  | _ => none }
def tallyTellsRow : OpenClaim := { program := "ytekdmkdidnnpbaa", sum := "c9110c903059f2c6e32735b35164e71e27498ae048e9a04dae33bd7fe7c473aa", func := "jurat/juratlaw47.TallyTells", spec := "tallyTells", inPlace := ["internal/abi.NoEscape", "internal/bytealg.MakeNoZero"], unfollowed := true, recurses := true, apart := false }
def TallyTellsSaid : Prop := tallyTellsRow.holds Try.pinned (OpenSpec.ofChange tallyTellsSpec)

/-- ITS FALSE NEIGHBOUR: 'it returns false'. Refute it at one input. -/
def tallyTellsWrong : ChangeSpec := { name := "tallyTells", fn := fun _ => fun
  | [d1, d2, d3] => { results := [.lit (.bool false)], args := [d1, d2, d3] }
  | _ => none }
def TallyTellsWrongFalsely : Prop := tallyTellsRow.holds Try.pinned (OpenSpec.ofChange tallyTellsWrong)

/- THE SECOND FORM. 'bulk': how many values and letters a reading holds, each counted each time it is reached (what is shared counts as often as it is met; a slice's spare places count too). A statement '..UptoSaid' is the law's where the arguments, and the package variables that the reading takes, are together of bulk at most 1048576: NARROWER than '..Said'. Prove '..Said' where nothing that the law and all that it calls make is longer than what came in: it says more and counts as full. Else prove '..UptoSaid'. A law counts once. -/
mutual
def uptoBulk {H : Type} : DataW H → Nat
  | .lit (.string bytes) => bytes.length + 1
  | .lit _ => 1
  | .nil => 1
  | .ptr d => uptoBulk d + 1
  | .slice elems spare => uptoBulkAll elems + uptoBulkAll spare + 1
  | .agg parts => uptoBulkAll parts + 1
  | .iface _ d => uptoBulk d + 1
  | .map entries => uptoBulkEntries entries + 1
  | .held _ => 1
def uptoBulkAll {H : Type} : List (DataW H) → Nat
  | [] => 0
  | d :: r => uptoBulk d + uptoBulkAll r
def uptoBulkEntries {H : Type} : List (Lit × DataW H) → Nat
  | [] => 0
  | x :: r => uptoBulkEntry x + uptoBulkEntries r
def uptoBulkEntry {H : Type} : Lit × DataW H → Nat
  | (.string bytes, d) => bytes.length + uptoBulk d + 1
  | (_, d) => uptoBulk d + 1
 end
def uptoSmall : (H : Type) → List (DataW H) → Bool := fun _ ds => decide (uptoBulkAll ds ≤ 1048576)
def OpenSpec.upto (s : _root_.Go.ChangeSpec) : _root_.Go.OpenSpec := { _root_.Go.OpenSpec.ofChange s with cond := some uptoSmall }

/-- 'juratlaw15.OccOrders', WHERE WHAT IT READS IS OF BULK AT MOST 1048576: true; the input reads as it did. -/
def occOrdersUptoRow : OpenClaim := { program := "ytekdmkdidnnpbaa", sum := "c9110c903059f2c6e32735b35164e71e27498ae048e9a04dae33bd7fe7c473aa", func := "jurat/juratlaw15.OccOrders", spec := "occOrders", unfollowed := true, recurses := true, apart := false, narrowed := true }
def OccOrdersUptoSaid : Prop := occOrdersUptoRow.holds Try.pinned (OpenSpec.upto occOrdersSpec)

/-- 'juratlaw15.OccGrows', WHERE WHAT IT READS IS OF BULK AT MOST 1048576: true; the input reads as it did. -/
def occGrowsUptoRow : OpenClaim := { program := "ytekdmkdidnnpbaa", sum := "c9110c903059f2c6e32735b35164e71e27498ae048e9a04dae33bd7fe7c473aa", func := "jurat/juratlaw15.OccGrows", spec := "occGrows", unfollowed := true, recurses := true, apart := false, narrowed := true }
def OccGrowsUptoSaid : Prop := occGrowsUptoRow.holds Try.pinned (OpenSpec.upto occGrowsSpec)

/-- 'juratlaw15.OccTells', WHERE WHAT IT READS IS OF BULK AT MOST 1048576: true; the input reads as it did. -/
def occTellsUptoRow : OpenClaim := { program := "ytekdmkdidnnpbaa", sum := "c9110c903059f2c6e32735b35164e71e27498ae048e9a04dae33bd7fe7c473aa", func := "jurat/juratlaw15.OccTells", spec := "occTells", unfollowed := true, recurses := true, apart := false, narrowed := true }
def OccTellsUptoSaid : Prop := occTellsUptoRow.holds Try.pinned (OpenSpec.upto occTellsSpec)

/-- 'juratlaw11.BookPuts', WHERE WHAT IT READS IS OF BULK AT MOST 1048576: true; the input reads as it did. -/
def bookPutsUptoRow : OpenClaim := { program := "ytekdmkdidnnpbaa", sum := "c9110c903059f2c6e32735b35164e71e27498ae048e9a04dae33bd7fe7c473aa", func := "jurat/juratlaw11.BookPuts", spec := "bookPuts", inPlace := ["internal/abi.NoEscape"], unfollowed := true, recurses := true, apart := false, narrowed := true }
def BookPutsUptoSaid : Prop := bookPutsUptoRow.holds Try.pinned (OpenSpec.upto bookPutsSpec)

/-- 'juratlaw11.BookTakes', WHERE WHAT IT READS IS OF BULK AT MOST 1048576: true; the input reads as it did. -/
def bookTakesUptoRow : OpenClaim := { program := "ytekdmkdidnnpbaa", sum := "c9110c903059f2c6e32735b35164e71e27498ae048e9a04dae33bd7fe7c473aa", func := "jurat/juratlaw11.BookTakes", spec := "bookTakes", inPlace := ["internal/abi.NoEscape"], unfollowed := true, recurses := true, apart := false, narrowed := true }
def BookTakesUptoSaid : Prop := bookTakesUptoRow.holds Try.pinned (OpenSpec.upto bookTakesSpec)

/-- 'juratlaw11.BookBack', WHERE WHAT IT READS IS OF BULK AT MOST 1048576: true; the input reads as it did. -/
def bookBackUptoRow : OpenClaim := { program := "ytekdmkdidnnpbaa", sum := "c9110c903059f2c6e32735b35164e71e27498ae048e9a04dae33bd7fe7c473aa", func := "jurat/juratlaw11.BookBack", spec := "bookBack", inPlace := ["internal/abi.NoEscape"], unfollowed := true, recurses := true, apart := false, narrowed := true }
def BookBackUptoSaid : Prop := bookBackUptoRow.holds Try.pinned (OpenSpec.upto bookBackSpec)

/-- 'juratlaw16.TrieAbove', WHERE WHAT IT READS IS OF BULK AT MOST 1048576: true; the input reads as it did. -/
def trieAboveUptoRow : OpenClaim := { program := "ytekdmkdidnnpbaa", sum := "c9110c903059f2c6e32735b35164e71e27498ae048e9a04dae33bd7fe7c473aa", func := "jurat/juratlaw16.TrieAbove", spec := "trieAbove", unfollowed := true, recurses := true, apart := false, narrowed := true }
def TrieAboveUptoSaid : Prop := trieAboveUptoRow.holds Try.pinned (OpenSpec.upto trieAboveSpec)

/-- 'juratlaw16.TrieTells', WHERE WHAT IT READS IS OF BULK AT MOST 1048576: true; the input reads as it did. -/
def trieTellsUptoRow : OpenClaim := { program := "ytekdmkdidnnpbaa", sum := "c9110c903059f2c6e32735b35164e71e27498ae048e9a04dae33bd7fe7c473aa", func := "jurat/juratlaw16.TrieTells", spec := "trieTells", inPlace := ["internal/abi.NoEscape"], unfollowed := true, recurses := true, apart := false, narrowed := true }
def TrieTellsUptoSaid : Prop := trieTellsUptoRow.holds Try.pinned (OpenSpec.upto trieTellsSpec)

/-- 'juratlaw16.TrieNone', WHERE WHAT IT READS IS OF BULK AT MOST 1048576: true; the input reads as it did. -/
def trieNoneUptoRow : OpenClaim := { program := "ytekdmkdidnnpbaa", sum := "c9110c903059f2c6e32735b35164e71e27498ae048e9a04dae33bd7fe7c473aa", func := "jurat/juratlaw16.TrieNone", spec := "trieNone", inPlace := ["internal/abi.NoEscape"], unfollowed := true, recurses := true, apart := false, narrowed := true }
def TrieNoneUptoSaid : Prop := trieNoneUptoRow.holds Try.pinned (OpenSpec.upto trieNoneSpec)

/-- 'juratlaw47.TallyTells', WHERE WHAT IT READS IS OF BULK AT MOST 1048576: true; the input reads as it did. -/
def tallyTellsUptoRow : OpenClaim := { program := "ytekdmkdidnnpbaa", sum := "c9110c903059f2c6e32735b35164e71e27498ae048e9a04dae33bd7fe7c473aa", func := "jurat/juratlaw47.TallyTells", spec := "tallyTells", inPlace := ["internal/abi.NoEscape", "internal/bytealg.MakeNoZero"], unfollowed := true, recurses := true, apart := false, narrowed := true }
def TallyTellsUptoSaid : Prop := tallyTellsUptoRow.holds Try.pinned (OpenSpec.upto tallyTellsSpec)

end Rows
end Go.Proofs.Ytekdmkdidnnpbaa
