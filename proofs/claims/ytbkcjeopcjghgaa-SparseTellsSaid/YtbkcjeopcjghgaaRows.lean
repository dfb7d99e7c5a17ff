/-
  No cell of these rows narrows 'for every input' (looked for: loops, veiled, ifaces, maps, wideKeys, modest, calm, conditions, laid).
  DERIVED. THE GIVEN ROWS OF THIS SEAT. 4 by the template 'for every input the law returns true; each argument reads behind the call as it read before'; 0 by the template 'total and deterministic' (their statements: YtbkcjeopcjghgaaTotals.lean).
  GIVEN WITH THE SEED: the statements are not yours to turn. If you find one false, say at which input.
  Laid BY PROGRAM, IN A SANDBOX (cutbox-rows.mjs): the forced cells as the released guide's own fill.sh prints them over the translation 8eb4d595c73c4b79… (all of the seat's roots in one cut). By AI agents, Wed Nov 11 2026. No macro, syntax, notation, axiom, sorry.
-/
import Derived.Test.YtbkcjeopcjghgaaChecked
import GoSem.Claim
import GoSem.ClaimJoined
import GoSem.ClaimMapViews
import Derived.JoinedTies
import Derived.KernelRfl
namespace Go.Proofs.Ytbkcjeopcjghgaa
/- THE CELL 'sum', in the pinned program and in every row, IS THE sha256 OF THE DUMP (.gsa) THAT YtbkcjeopcjghgaaProg.lean LOADS. Nothing in Lean hashes anything: it is a label: what it is worth is what the hold of that sum in a sandbox is worth. -/
noncomputable def Try.pinned : Pinned := { name := "ytbkcjeopcjghgaa", sum := "8eb4d595c73c4b799f6c3933041b3b64491744e1f4eb250670ba01655515ae4f", checked := Try.checked }
namespace Rows
def none {H : Type} : Left H := { results := [], args := [] }

/-- 'juratlaw19.DenseReads': WHATEVER THE INPUT: true; the input reads as it did. -/
def denseReadsSpec : ChangeSpec := { name := "denseReads", fn := fun _ => fun
  | [d1, d2, d3] => { results := [.lit (.bool true)], args := [d1, d2, d3] }
  | _ => none }
def denseReadsRow : OpenClaim := { program := "ytbkcjeopcjghgaa", sum := "8eb4d595c73c4b799f6c3933041b3b64491744e1f4eb250670ba01655515ae4f", func := "jurat/juratlaw19.DenseReads", spec := "denseReads", inPlace := ["internal/abi.NoEscape"], unfollowed := true, recurses := true, apart := false }
def DenseReadsSaid : Prop := denseReadsRow.holds Try.pinned (OpenSpec.ofChange denseReadsSpec)

/-- ITS FALSE NEIGHBOUR: 'it returns false'. Refute it at one input. -/
def denseReadsWrong : ChangeSpec := { name := "denseReads", fn := fun _ => fun
  | [d1, d2, d3] => { results := [.lit (.bool false)], args := [d1, d2, d3] }
  | _ => none }
def DenseReadsWrongFalsely : Prop := denseReadsRow.holds Try.pinned (OpenSpec.ofChange denseReadsWrong)

/-- 'juratlaw20.SparseReads': WHATEVER THE INPUT: true; the input reads as it did. -/
def sparseReadsSpec : ChangeSpec := { name := "sparseReads", fn := fun _ => fun
  | [d1, d2] => { results := [.lit (.bool true)], args := [d1, d2] }
  | _ => none }
def sparseReadsRow : OpenClaim := { program := "ytbkcjeopcjghgaa", sum := "8eb4d595c73c4b799f6c3933041b3b64491744e1f4eb250670ba01655515ae4f", func := "jurat/juratlaw20.SparseReads", spec := "sparseReads", inPlace := ["internal/abi.NoEscape"], unfollowed := true, recurses := true, apart := false }
def SparseReadsSaid : Prop := sparseReadsRow.holds Try.pinned (OpenSpec.ofChange sparseReadsSpec)

/-- ITS FALSE NEIGHBOUR: 'it returns false'. Refute it at one input. -/
def sparseReadsWrong : ChangeSpec := { name := "sparseReads", fn := fun _ => fun
  | [d1, d2] => { results := [.lit (.bool false)], args := [d1, d2] }
  | _ => none }
def SparseReadsWrongFalsely : Prop := sparseReadsRow.holds Try.pinned (OpenSpec.ofChange sparseReadsWrong)

/-- 'juratlaw20.SparseTells': WHATEVER THE INPUT: true; the input reads as it did. -/
def sparseTellsSpec : ChangeSpec := { name := "sparseTells", fn := fun _ => fun
  | [d1, d2, d3] => { results := [.lit (.bool true)], args := [d1, d2, d3] }
  | _ => none }
def sparseTellsRow : OpenClaim := { program := "ytbkcjeopcjghgaa", sum := "8eb4d595c73c4b799f6c3933041b3b64491744e1f4eb250670ba01655515ae4f", func := "jurat/juratlaw20.SparseTells", spec := "sparseTells", inPlace := ["internal/abi.NoEscape"], unfollowed := true, recurses := true, apart := false }
def SparseTellsSaid : Prop := sparseTellsRow.holds Try.pinned (OpenSpec.ofChange sparseTellsSpec)

/-- ITS FALSE NEIGHBOUR: 'it returns false'. Refute it at one input. -/
def sparseTellsWrong : ChangeSpec := { name := "sparseTells", fn := fun _ => fun
  | [d1, d2, d3] => { results := [.lit (.bool false)], args := [d1, d2, d3] }
  | _ => none }
def SparseTellsWrongFalsely : Prop := sparseTellsRow.holds Try.pinned (OpenSpec.ofChange sparseTellsWrong)

/-- 'juratlaw19.DenseTells': WHATEVER THE INPUT: true; the input reads as it did. -/
def denseTellsSpec : ChangeSpec := { name := "denseTells", fn := fun _ => fun
  | [d1, d2, d3] => { results := [.lit (.bool true)], args := [d1, d2, d3] }
  | _ => none }
def denseTellsRow : OpenClaim := { program := "ytbkcjeopcjghgaa", sum := "8eb4d595c73c4b799f6c3933041b3b64491744e1f4eb250670ba01655515ae4f", func := "jurat/juratlaw19.DenseTells", spec := "denseTells", inPlace := ["internal/abi.NoEscape"], unfollowed := true, recurses := true, apart := false }
def DenseTellsSaid : Prop := denseTellsRow.holds Try.pinned (OpenSpec.ofChange denseTellsSpec)

/-- ITS FALSE NEIGHBOUR: 'it returns false'. Refute it at one input. -/
def denseTellsWrong : ChangeSpec := { name := "denseTells", fn := fun _ => fun
  | [d1, d2, d3] => { results := [.lit (.bool false)], args := [d1, d2, d3] }
  | _ => none }
def DenseTellsWrongFalsely : Prop := denseTellsRow.holds Try.pinned (OpenSpec.ofChange denseTellsWrong)

/- THE SECOND FORM. 'bulk': how many values and letters a reading holds, each counted each time it is reached (what is shared counts as often as it is met; a slice's spare places count too). A statement '..UptoSaid' is the law's where the arguments, and the package variables that the reading takes, are together of bulk at most 1048576: NARROWER than '..Said'. Prove '..Said' where nothing that the law and all that it calls make is longer than what came in: it says more and counts as full. Else prove '..UptoSaid'. A law counts once. -/
mutual
def uptoBulk {H : Type} : DataW H → Nat
  | .lit (.string bytes) => bytes.length + 1
  | .lit _ => 1
  | .nil => 1
  | .ptr d => uptoBulk d + 1
  | .slice elems spare => uptoBulkAll elems + uptoBulkAll spare + 1
  | .agg parts => uptoBulkAll parts + 1
  | .iface _ d => uptoBulk d + 1
  | .map entries => uptoBulkEntries entries + 1
  | .held _ => 1
def uptoBulkAll {H : Type} : List (DataW H) → Nat
  | [] => 0
  | d :: r => uptoBulk d + uptoBulkAll r
def uptoBulkEntries {H : Type} : List (Lit × DataW H) → Nat
  | [] => 0
  | x :: r => uptoBulkEntry x + uptoBulkEntries r
def uptoBulkEntry {H : Type} : Lit × DataW H → Nat
  | (.string bytes, d) => bytes.length + uptoBulk d + 1
  | (_, d) => uptoBulk d + 1
 end
def uptoSmall : (H : Type) → List (DataW H) → Bool := fun _ ds => decide (uptoBulkAll ds ≤ 1048576)
def OpenSpec.upto (s : _root_.Go.ChangeSpec) : _root_.Go.OpenSpec := { _root_.Go.OpenSpec.ofChange s with cond := some uptoSmall }

/-- 'juratlaw19.DenseReads', WHERE WHAT IT READS IS OF BULK AT MOST 1048576: true; the input reads as it did. -/
def denseReadsUptoRow : OpenClaim := { program := "ytbkcjeopcjghgaa", sum := "8eb4d595c73c4b799f6c3933041b3b64491744e1f4eb250670ba01655515ae4f", func := "jurat/juratlaw19.DenseReads", spec := "denseReads", inPlace := ["internal/abi.NoEscape"], unfollowed := true, recurses := true, apart := false, narrowed := true }
def DenseReadsUptoSaid : Prop := denseReadsUptoRow.holds Try.pinned (OpenSpec.upto denseReadsSpec)

/-- 'juratlaw20.SparseReads', WHERE WHAT IT READS IS OF BULK AT MOST 1048576: true; the input reads as it did. -/
def sparseReadsUptoRow : OpenClaim := { program := "ytbkcjeopcjghgaa", sum := "8eb4d595c73c4b799f6c3933041b3b64491744e1f4eb250670ba01655515ae4f", func := "jurat/juratlaw20.SparseReads", spec := "sparseReads", inPlace := ["internal/abi.NoEscape"], unfollowed := true, recurses := true, apart := false, narrowed := true }
def SparseReadsUptoSaid : Prop := sparseReadsUptoRow.holds Try.pinned (OpenSpec.upto sparseReadsSpec)

/-- 'juratlaw20.SparseTells', WHERE WHAT IT READS IS OF BULK AT MOST 1048576: true; the input reads as it did. -/
def sparseTellsUptoRow : OpenClaim := { program := "ytbkcjeopcjghgaa", sum := "8eb4d595c73c4b799f6c3933041b3b64491744e1f4eb250670ba01655515ae4f", func := "jurat/juratlaw20.SparseTells", spec := "sparseTells", inPlace := ["internal/abi.NoEscape"], unfollowed := true, recurses := true, apart := false, narrowed := true }
def SparseTellsUptoSaid : Prop := sparseTellsUptoRow.holds Try.pinned (OpenSpec.upto sparseTellsSpec)

/-- 'juratlaw19.DenseTells', WHERE WHAT IT READS IS OF BULK AT MOST 1048576: true; the input reads as it did. -/
def denseTellsUptoRow : OpenClaim := { program := "ytbkcjeopcjghgaa", sum := "8eb4d595c73c4b799f6c3933041b3b64491744e1f4eb250670ba01655515ae4f", func := "jurat/juratlaw19.DenseTells", spec := "denseTells", inPlace := ["internal/abi.NoEscape"], unfollowed := true, recurses := true, apart := false, narrowed := true }
def DenseTellsUptoSaid : Prop := denseTellsUptoRow.holds Try.pinned (OpenSpec.upto denseTellsSpec)

end Rows
end Go.Proofs.Ytbkcjeopcjghgaa
