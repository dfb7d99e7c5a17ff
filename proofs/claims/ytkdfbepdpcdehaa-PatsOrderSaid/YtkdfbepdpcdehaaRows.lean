/-
  No cell of these rows narrows 'for every input' (looked for: loops, veiled, ifaces, maps, wideKeys, modest, calm, conditions, laid).
  DERIVED. THE GIVEN ROWS OF THIS SEAT. 3 by the template 'for every input the law returns true; each argument reads behind the call as it read before'; 0 by the template 'total and deterministic' (their statements: YtkdfbepdpcdehaaTotals.lean).
  GIVEN WITH THE SEED: the statements are not yours to turn. If you find one false, say at which input.
  Laid BY PROGRAM, IN A SANDBOX (cutbox-rows.mjs): the forced cells as the released guide's own fill.sh prints them over the translation 66fbc334237adf7d… (all of the seat's roots in one cut). By AI agents, Wed Nov 11 2026. No macro, syntax, notation, axiom, sorry.
-/
import Derived.Test.YtkdfbepdpcdehaaChecked
import GoSem.Claim
import GoSem.ClaimJoined
import GoSem.ClaimMapViews
import Derived.JoinedTies
import Derived.KernelRfl
namespace Go.Proofs.Ytkdfbepdpcdehaa
/- THE CELL 'sum', in the pinned program and in every row, IS THE sha256 OF THE DUMP (.gsa) THAT YtkdfbepdpcdehaaProg.lean LOADS. Nothing in Lean hashes anything: it is a label: what it is worth is what the hold of that sum in a sandbox is worth. -/
noncomputable def Try.pinned : Pinned := { name := "ytkdfbepdpcdehaa", sum := "66fbc334237adf7da0cbfc1dc17b842615e7df54b20f5a07a6304f1aac85a792", checked := Try.checked }
namespace Rows
def none {H : Type} : Left H := { results := [], args := [] }

/-- 'juratlaw10.PatsOrder': WHATEVER THE INPUT: true; the input reads as it did. -/
def patsOrderSpec : ChangeSpec := { name := "patsOrder", fn := fun _ => fun
  | [d1, d2] => { results := [.lit (.bool true)], args := [d1, d2] }
  | _ => none }
def patsOrderRow : OpenClaim := { program := "ytkdfbepdpcdehaa", sum := "66fbc334237adf7da0cbfc1dc17b842615e7df54b20f5a07a6304f1aac85a792", func := "jurat/juratlaw10.PatsOrder", spec := "patsOrder", unfollowed := true, recurses := true, apart := false }
def PatsOrderSaid : Prop := patsOrderRow.holds Try.pinned (OpenSpec.ofChange patsOrderSpec)

/-- ITS FALSE NEIGHBOUR: 'it returns false'. Refute it at one input. -/
def patsOrderWrong : ChangeSpec := { name := "patsOrder", fn := fun _ => fun
  | [d1, d2] => { results := [.lit (.bool false)], args := [d1, d2] }
  | _ => none }
def PatsOrderWrongFalsely : Prop := patsOrderRow.holds Try.pinned (OpenSpec.ofChange patsOrderWrong)

/-- 'juratlaw10.PatsMade': WHATEVER THE INPUT: true; the input reads as it did. -/
def patsMadeSpec : ChangeSpec := { name := "patsMade", fn := fun _ => fun
  | [d1, d2, d3] => { results := [.lit (.bool true)], args := [d1, d2, d3] }
  | _ => none }
def patsMadeRow : OpenClaim := { program := "ytkdfbepdpcdehaa", sum := "66fbc334237adf7da0cbfc1dc17b842615e7df54b20f5a07a6304f1aac85a792", func := "jurat/juratlaw10.PatsMade", spec := "patsMade", unfollowed := true, recurses := true, apart := false }
def PatsMadeSaid : Prop := patsMadeRow.holds Try.pinned (OpenSpec.ofChange patsMadeSpec)

/-- ITS FALSE NEIGHBOUR: 'it returns false'. Refute it at one input. -/
def patsMadeWrong : ChangeSpec := { name := "patsMade", fn := fun _ => fun
  | [d1, d2, d3] => { results := [.lit (.bool false)], args := [d1, d2, d3] }
  | _ => none }
def PatsMadeWrongFalsely : Prop := patsMadeRow.holds Try.pinned (OpenSpec.ofChange patsMadeWrong)

/-- 'juratlaw10.PatsLong': WHATEVER THE INPUT: true; the input reads as it did. -/
def patsLongSpec : ChangeSpec := { name := "patsLong", fn := fun _ => fun
  | [d1, d2, d3] => { results := [.lit (.bool true)], args := [d1, d2, d3] }
  | _ => none }
def patsLongRow : OpenClaim := { program := "ytkdfbepdpcdehaa", sum := "66fbc334237adf7da0cbfc1dc17b842615e7df54b20f5a07a6304f1aac85a792", func := "jurat/juratlaw10.PatsLong", spec := "patsLong", unfollowed := true, recurses := true, apart := false }
def PatsLongSaid : Prop := patsLongRow.holds Try.pinned (OpenSpec.ofChange patsLongSpec)

/-- ITS FALSE NEIGHBOUR: 'it returns false'. Refute it at one input. -/
def patsLongWrong : ChangeSpec := { name := "patsLong", fn := fun _ => fun
  | [d1, d2, d3] => { results := [.lit (.bool false)], args := [d1, d2, d3] }
  | _ => none }
def PatsLongWrongFalsely : Prop := patsLongRow.holds Try.pinned (OpenSpec.ofChange patsLongWrong)

/- THE SECOND FORM. 'bulk': how many values and letters a reading holds, each counted each time it is reached (what is shared counts as often as it is met; a slice's spare places count too). A statement '..UptoSaid' is the law's where the arguments, and the package variables that the reading takes, are together of bulk at most 1048576: NARROWER than '..Said'. Prove '..Said' where nothing that the law and all that it calls make is longer than what came in: it says more and counts as full. Else prove '..UptoSaid'. A law counts once. -/
mutual
def uptoBulk {H : Type} : DataW H → Nat
  | .lit (.string bytes) => bytes.length + 1
  | .lit _ => 1
  | .nil => 1
  | .ptr d => uptoBulk d + 1
  | .slice elems spare => uptoBulkAll elems + uptoBulkAll spare + 1
  | .agg parts => uptoBulkAll parts + 1
  | .iface _ d => uptoBulk d + 1
  | .map entries => uptoBulkEntries entries + 1
  | .held _ => 1
def uptoBulkAll {H : Type} : List (DataW H) → Nat
  | [] => 0
  | d :: r => uptoBulk d + uptoBulkAll r
def uptoBulkEntries {H : Type} : List (Lit × DataW H) → Nat
  | [] => 0
  | x :: r => uptoBulkEntry x + uptoBulkEntries r
def uptoBulkEntry {H : Type} : Lit × DataW H → Nat
  | (.string bytes, d) => bytes.length + uptoBulk d + 1
  | (_, d) => uptoBulk d + 1
 end
def uptoSmall : (H : Type) → List (DataW H) → Bool := fun _ ds => decide (uptoBulkAll ds ≤ 1048576)
def OpenSpec.upto (s : _root_.Go.ChangeSpec) : _root_.Go.OpenSpec := { _root_.Go.OpenSpec.ofChange s with cond := some uptoSmall }

/-- 'juratlaw10.PatsOrder', WHERE WHAT IT READS IS OF BULK AT MOST 1048576: true; the input reads as it did. -/
def patsOrderUptoRow : OpenClaim := { program := "ytkdfbepdpcdehaa", sum := "66fbc334237adf7da0cbfc1dc17b842615e7df54b20f5a07a6304f1aac85a792", func := "jurat/juratlaw10.PatsOrder", spec := "patsOrder", unfollowed := true, recurses := true, apart := false, narrowed := true }
def PatsOrderUptoSaid : Prop := patsOrderUptoRow.holds Try.pinned (OpenSpec.upto patsOrderSpec)

/-- 'juratlaw10.PatsMade', WHERE WHAT IT READS IS OF BULK AT MOST 1048576: true; the input reads as it did. -/
def patsMadeUptoRow : OpenClaim := { program := "ytkdfbepdpcdehaa", sum := "66fbc334237adf7da0cbfc1dc17b842615e7df54b20f5a07a6304f1aac85a792", func := "jurat/juratlaw10.PatsMade", spec := "patsMade", unfollowed := true, recurses := true, apart := false, narrowed := true }
def PatsMadeUptoSaid : Prop := patsMadeUptoRow.holds Try.pinned (OpenSpec.upto patsMadeSpec)

/-- 'juratlaw10.PatsLong', WHERE WHAT IT READS IS OF BULK AT MOST 1048576: true; the input reads as it did. -/
def patsLongUptoRow : OpenClaim := { program := "ytkdfbepdpcdehaa", sum := "66fbc334237adf7da0cbfc1dc17b842615e7df54b20f5a07a6304f1aac85a792", func := "jurat/juratlaw10.PatsLong", spec := "patsLong", unfollowed := true, recurses := true, apart := false, narrowed := true }
def PatsLongUptoSaid : Prop := patsLongUptoRow.holds Try.pinned (OpenSpec.upto patsLongSpec)

end Rows
end Go.Proofs.Ytkdfbepdpcdehaa
