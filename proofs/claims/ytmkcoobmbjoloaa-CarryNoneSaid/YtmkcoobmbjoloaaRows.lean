/-
  No cell of these rows narrows 'for every input' (looked for: loops, veiled, ifaces, maps, wideKeys, modest, calm, conditions, laid).
  DERIVED. THE GIVEN ROWS OF THIS SEAT. 14 by the template 'for every input the law returns true; each argument reads behind the call as it read before'; 0 by the template 'total and deterministic' (their statements: YtmkcoobmbjoloaaTotals.lean).
  GIVEN WITH THE SEED: the statements are not yours to turn. If you find one false, say at which input.
  Laid BY PROGRAM, IN A SANDBOX (cutbox-rows.mjs): the forced cells as the released guide's own fill.sh prints them over the translation d4dac06dd12887f8… (all of the seat's roots in one cut). By AI agents, Wed Nov 11 2026. No macro, syntax, notation, axiom, sorry.
-/
import Derived.Test.YtmkcoobmbjoloaaChecked
import GoSem.Claim
import GoSem.ClaimJoined
import GoSem.ClaimMapViews
import Derived.JoinedTies
import Derived.KernelRfl
namespace Go.Proofs.Ytmkcoobmbjoloaa
/- THE CELL 'sum', in the pinned program and in every row, IS THE sha256 OF THE DUMP (.gsa) THAT YtmkcoobmbjoloaaProg.lean LOADS. Nothing in Lean hashes anything: it is a label: what it is worth is what the hold of that sum in a sandbox is worth. -/
noncomputable def Try.pinned : Pinned := { name := "ytmkcoobmbjoloaa", sum := "d4dac06dd12887f823173b986e3d2ec15fc197889ecee5aea2318d456b6600d6", checked := Try.checked }
namespace Rows
def none {H : Type} : Left H := { results := [], args := [] }

/-- 'juratlaw06.ChunkCuts': WHATEVER THE INPUT: true; the input reads as it did. -/
def chunkCutsSpec : ChangeSpec := { name := "chunkCuts", fn := fun _ => fun
  | [d1, d2, d3] => { results := [.lit (.bool true)], args := [d1, d2, d3] }
  | _ => none }
def chunkCutsRow : OpenClaim := { program := "ytmkcoobmbjoloaa", sum := "d4dac06dd12887f823173b986e3d2ec15fc197889ecee5aea2318d456b6600d6", func := "jurat/juratlaw06.ChunkCuts", spec := "chunkCuts", apart := false }
def ChunkCutsSaid : Prop := chunkCutsRow.holds Try.pinned (OpenSpec.ofChange chunkCutsSpec)

/-- ITS FALSE NEIGHBOUR: 'it returns false'. Refute it at one input. -/
def chunkCutsWrong : ChangeSpec := { name := "chunkCuts", fn := fun _ => fun
  | [d1, d2, d3] => { results := [.lit (.bool false)], args := [d1, d2, d3] }
  | _ => none }
def ChunkCutsWrongFalsely : Prop := chunkCutsRow.holds Try.pinned (OpenSpec.ofChange chunkCutsWrong)

/-- 'juratlaw08.BorderMeets': WHATEVER THE INPUT: true; the input reads as it did. -/
def borderMeetsSpec : ChangeSpec := { name := "borderMeets", fn := fun _ => fun
  | [d1, d2] => { results := [.lit (.bool true)], args := [d1, d2] }
  | _ => none }
def borderMeetsRow : OpenClaim := { program := "ytmkcoobmbjoloaa", sum := "d4dac06dd12887f823173b986e3d2ec15fc197889ecee5aea2318d456b6600d6", func := "jurat/juratlaw08.BorderMeets", spec := "borderMeets", apart := false }
def BorderMeetsSaid : Prop := borderMeetsRow.holds Try.pinned (OpenSpec.ofChange borderMeetsSpec)

/-- ITS FALSE NEIGHBOUR: 'it returns false'. Refute it at one input. -/
def borderMeetsWrong : ChangeSpec := { name := "borderMeets", fn := fun _ => fun
  | [d1, d2] => { results := [.lit (.bool false)], args := [d1, d2] }
  | _ => none }
def BorderMeetsWrongFalsely : Prop := borderMeetsRow.holds Try.pinned (OpenSpec.ofChange borderMeetsWrong)

/-- 'juratlaw08.BorderPeriods': WHATEVER THE INPUT: true; the input reads as it did. -/
def borderPeriodsSpec : ChangeSpec := { name := "borderPeriods", fn := fun _ => fun
  | [d1, d2] => { results := [.lit (.bool true)], args := [d1, d2] }
  | _ => none }
def borderPeriodsRow : OpenClaim := { program := "ytmkcoobmbjoloaa", sum := "d4dac06dd12887f823173b986e3d2ec15fc197889ecee5aea2318d456b6600d6", func := "jurat/juratlaw08.BorderPeriods", spec := "borderPeriods", apart := false }
def BorderPeriodsSaid : Prop := borderPeriodsRow.holds Try.pinned (OpenSpec.ofChange borderPeriodsSpec)

/-- ITS FALSE NEIGHBOUR: 'it returns false'. Refute it at one input. -/
def borderPeriodsWrong : ChangeSpec := { name := "borderPeriods", fn := fun _ => fun
  | [d1, d2] => { results := [.lit (.bool false)], args := [d1, d2] }
  | _ => none }
def BorderPeriodsWrongFalsely : Prop := borderPeriodsRow.holds Try.pinned (OpenSpec.ofChange borderPeriodsWrong)

/-- 'juratlaw25.CarryParts': WHATEVER THE INPUT: true; the input reads as it did. -/
def carryPartsSpec : ChangeSpec := { name := "carryParts", fn := fun _ => fun
  | [d1, d2, d3] => { results := [.lit (.bool true)], args := [d1, d2, d3] }
  | _ => none }
def carryPartsRow : OpenClaim := { program := "ytmkcoobmbjoloaa", sum := "d4dac06dd12887f823173b986e3d2ec15fc197889ecee5aea2318d456b6600d6", func := "jurat/juratlaw25.CarryParts", spec := "carryParts", apart := false }
def CarryPartsSaid : Prop := carryPartsRow.holds Try.pinned (OpenSpec.ofChange carryPartsSpec)

/-- ITS FALSE NEIGHBOUR: 'it returns false'. Refute it at one input. -/
def carryPartsWrong : ChangeSpec := { name := "carryParts", fn := fun _ => fun
  | [d1, d2, d3] => { results := [.lit (.bool false)], args := [d1, d2, d3] }
  | _ => none }
def CarryPartsWrongFalsely : Prop := carryPartsRow.holds Try.pinned (OpenSpec.ofChange carryPartsWrong)

/-- 'juratlaw25.CarryNone': WHATEVER THE INPUT: true; the input reads as it did. -/
def carryNoneSpec : ChangeSpec := { name := "carryNone", fn := fun _ => fun
  | [d1, d2] => { results := [.lit (.bool true)], args := [d1, d2] }
  | _ => none }
def carryNoneRow : OpenClaim := { program := "ytmkcoobmbjoloaa", sum := "d4dac06dd12887f823173b986e3d2ec15fc197889ecee5aea2318d456b6600d6", func := "jurat/juratlaw25.CarryNone", spec := "carryNone", apart := false }
def CarryNoneSaid : Prop := carryNoneRow.holds Try.pinned (OpenSpec.ofChange carryNoneSpec)

/-- ITS FALSE NEIGHBOUR: 'it returns false'. Refute it at one input. -/
def carryNoneWrong : ChangeSpec := { name := "carryNone", fn := fun _ => fun
  | [d1, d2] => { results := [.lit (.bool false)], args := [d1, d2] }
  | _ => none }
def CarryNoneWrongFalsely : Prop := carryNoneRow.holds Try.pinned (OpenSpec.ofChange carryNoneWrong)

/-- 'juratlaw08.BorderTells': WHATEVER THE INPUT: true; the input reads as it did. -/
def borderTellsSpec : ChangeSpec := { name := "borderTells", fn := fun _ => fun
  | [d] => { results := [.lit (.bool true)], args := [d] }
  | _ => none }
def borderTellsRow : OpenClaim := { program := "ytmkcoobmbjoloaa", sum := "d4dac06dd12887f823173b986e3d2ec15fc197889ecee5aea2318d456b6600d6", func := "jurat/juratlaw08.BorderTells", spec := "borderTells", apart := false }
def BorderTellsSaid : Prop := borderTellsRow.holds Try.pinned (OpenSpec.ofChange borderTellsSpec)

/-- ITS FALSE NEIGHBOUR: 'it returns false'. Refute it at one input. -/
def borderTellsWrong : ChangeSpec := { name := "borderTells", fn := fun _ => fun
  | [d] => { results := [.lit (.bool false)], args := [d] }
  | _ => none }
def BorderTellsWrongFalsely : Prop := borderTellsRow.holds Try.pinned (OpenSpec.ofChange borderTellsWrong)

/-- 'juratlaw47.TallyCounts': WHATEVER THE INPUT: true; the input reads as it did. -/
def tallyCountsSpec : ChangeSpec := { name := "tallyCounts", fn := fun _ => fun
  | [d1, d2] => { results := [.lit (.bool true)], args := [d1, d2] }
  | _ => none }
def tallyCountsRow : OpenClaim := { program := "ytmkcoobmbjoloaa", sum := "d4dac06dd12887f823173b986e3d2ec15fc197889ecee5aea2318d456b6600d6", func := "jurat/juratlaw47.TallyCounts", spec := "tallyCounts", apart := false }
def TallyCountsSaid : Prop := tallyCountsRow.holds Try.pinned (OpenSpec.ofChange tallyCountsSpec)

/-- ITS FALSE NEIGHBOUR: 'it returns false'. Refute it at one input. -/
def tallyCountsWrong : ChangeSpec := { name := "tallyCounts", fn := fun _ => fun
  | [d1, d2] => { results := [.lit (.bool false)], args := [d1, d2] }
  | _ => none }
def TallyCountsWrongFalsely : Prop := tallyCountsRow.holds Try.pinned (OpenSpec.ofChange tallyCountsWrong)

/-- 'juratlaw47.TallyPlaces': WHATEVER THE INPUT: true; the input reads as it did. -/
def tallyPlacesSpec : ChangeSpec := { name := "tallyPlaces", fn := fun _ => fun
  | [d1, d2, d3] => { results := [.lit (.bool true)], args := [d1, d2, d3] }
  | _ => none }
def tallyPlacesRow : OpenClaim := { program := "ytmkcoobmbjoloaa", sum := "d4dac06dd12887f823173b986e3d2ec15fc197889ecee5aea2318d456b6600d6", func := "jurat/juratlaw47.TallyPlaces", spec := "tallyPlaces", apart := false }
def TallyPlacesSaid : Prop := tallyPlacesRow.holds Try.pinned (OpenSpec.ofChange tallyPlacesSpec)

/-- ITS FALSE NEIGHBOUR: 'it returns false'. Refute it at one input. -/
def tallyPlacesWrong : ChangeSpec := { name := "tallyPlaces", fn := fun _ => fun
  | [d1, d2, d3] => { results := [.lit (.bool false)], args := [d1, d2, d3] }
  | _ => none }
def TallyPlacesWrongFalsely : Prop := tallyPlacesRow.holds Try.pinned (OpenSpec.ofChange tallyPlacesWrong)

/-- 'juratlaw47.TallyAll': WHATEVER THE INPUT: true; the input reads as it did. -/
def tallyAllSpec : ChangeSpec := { name := "tallyAll", fn := fun _ => fun
  | [d1, d2, d3] => { results := [.lit (.bool true)], args := [d1, d2, d3] }
  | _ => none }
def tallyAllRow : OpenClaim := { program := "ytmkcoobmbjoloaa", sum := "d4dac06dd12887f823173b986e3d2ec15fc197889ecee5aea2318d456b6600d6", func := "jurat/juratlaw47.TallyAll", spec := "tallyAll", apart := false }
def TallyAllSaid : Prop := tallyAllRow.holds Try.pinned (OpenSpec.ofChange tallyAllSpec)

/-- ITS FALSE NEIGHBOUR: 'it returns false'. Refute it at one input. -/
def tallyAllWrong : ChangeSpec := { name := "tallyAll", fn := fun _ => fun
  | [d1, d2, d3] => { results := [.lit (.bool false)], args := [d1, d2, d3] }
  | _ => none }
def TallyAllWrongFalsely : Prop := tallyAllRow.holds Try.pinned (OpenSpec.ofChange tallyAllWrong)

/-- 'juratlaw06.ChunkBack': WHATEVER THE INPUT: true; the input reads as it did. -/
def chunkBackSpec : ChangeSpec := { name := "chunkBack", fn := fun _ => fun
  | [d1, d2, d3, d4] => { results := [.lit (.bool true)], args := [d1, d2, d3, d4] }
  | _ => none }
def chunkBackRow : OpenClaim := { program := "ytmkcoobmbjoloaa", sum := "d4dac06dd12887f823173b986e3d2ec15fc197889ecee5aea2318d456b6600d6", func := "jurat/juratlaw06.ChunkBack", spec := "chunkBack", inPlace := ["internal/abi.NoEscape", "internal/bytealg.MakeNoZero"], apart := false }
def ChunkBackSaid : Prop := chunkBackRow.holds Try.pinned (OpenSpec.ofChange chunkBackSpec)

/-- ITS FALSE NEIGHBOUR: 'it returns false'. Refute it at one input. -/
def chunkBackWrong : ChangeSpec := { name := "chunkBack", fn := fun _ => fun
  | [d1, d2, d3, d4] => { results := [.lit (.bool false)], args := [d1, d2, d3, d4] }
  | _ => none }
def ChunkBackWrongFalsely : Prop := chunkBackRow.holds Try.pinned (OpenSpec.ofChange chunkBackWrong)

/-- 'juratlaw06.ChunkParts': WHATEVER THE INPUT: true; the input reads as it did. -/
def chunkPartsSpec : ChangeSpec := { name := "chunkParts", fn := fun _ => fun
  | [d1, d2] => { results := [.lit (.bool true)], args := [d1, d2] }
  | _ => none }
def chunkPartsRow : OpenClaim := { program := "ytmkcoobmbjoloaa", sum := "d4dac06dd12887f823173b986e3d2ec15fc197889ecee5aea2318d456b6600d6", func := "jurat/juratlaw06.ChunkParts", spec := "chunkParts", inPlace := ["internal/abi.NoEscape", "internal/bytealg.MakeNoZero"], unfollowed := true, recurses := true, apart := false }
def ChunkPartsSaid : Prop := chunkPartsRow.holds Try.pinned (OpenSpec.ofChange chunkPartsSpec)

/-- ITS FALSE NEIGHBOUR: 'it returns false'. Refute it at one input. -/
def chunkPartsWrong : ChangeSpec := { name := "chunkParts", fn := fun _ => fun
  | [d1, d2] => { results := [.lit (.bool false)], args := [d1, d2] }
  | _ => none }
def ChunkPartsWrongFalsely : Prop := chunkPartsRow.holds Try.pinned (OpenSpec.ofChange chunkPartsWrong)

/-- 'juratlaw09.AffixOrder': WHATEVER THE INPUT: true; the input reads as it did. -/
def affixOrderSpec : ChangeSpec := { name := "affixOrder", fn := fun _ => fun
  | [d1, d2, d3, d4, d5, d6] => { results := [.lit (.bool true)], args := [d1, d2, d3, d4, d5, d6] }
  | _ => none }
def affixOrderRow : OpenClaim := { program := "ytmkcoobmbjoloaa", sum := "d4dac06dd12887f823173b986e3d2ec15fc197889ecee5aea2318d456b6600d6", func := "jurat/juratlaw09.AffixOrder", spec := "affixOrder", unfollowed := true, recurses := true, apart := false }
def AffixOrderSaid : Prop := affixOrderRow.holds Try.pinned (OpenSpec.ofChange affixOrderSpec)

/-- ITS FALSE NEIGHBOUR: 'it returns false'. Refute it at one input. -/
def affixOrderWrong : ChangeSpec := { name := "affixOrder", fn := fun _ => fun
  | [d1, d2, d3, d4, d5, d6] => { results := [.lit (.bool false)], args := [d1, d2, d3, d4, d5, d6] }
  | _ => none }
def AffixOrderWrongFalsely : Prop := affixOrderRow.holds Try.pinned (OpenSpec.ofChange affixOrderWrong)

/-- 'juratlaw09.AffixTells': WHATEVER THE INPUT: true; the input reads as it did. -/
def affixTellsSpec : ChangeSpec := { name := "affixTells", fn := fun _ => fun
  | [d1, d2] => { results := [.lit (.bool true)], args := [d1, d2] }
  | _ => none }
def affixTellsRow : OpenClaim := { program := "ytmkcoobmbjoloaa", sum := "d4dac06dd12887f823173b986e3d2ec15fc197889ecee5aea2318d456b6600d6", func := "jurat/juratlaw09.AffixTells", spec := "affixTells", unfollowed := true, recurses := true, apart := false }
def AffixTellsSaid : Prop := affixTellsRow.holds Try.pinned (OpenSpec.ofChange affixTellsSpec)

/-- ITS FALSE NEIGHBOUR: 'it returns false'. Refute it at one input. -/
def affixTellsWrong : ChangeSpec := { name := "affixTells", fn := fun _ => fun
  | [d1, d2] => { results := [.lit (.bool false)], args := [d1, d2] }
  | _ => none }
def AffixTellsWrongFalsely : Prop := affixTellsRow.holds Try.pinned (OpenSpec.ofChange affixTellsWrong)

/-- 'juratlaw09.AffixLists': WHATEVER THE INPUT: true; the input reads as it did. -/
def affixListsSpec : ChangeSpec := { name := "affixLists", fn := fun _ => fun
  | [d1, d2] => { results := [.lit (.bool true)], args := [d1, d2] }
  | _ => none }
def affixListsRow : OpenClaim := { program := "ytmkcoobmbjoloaa", sum := "d4dac06dd12887f823173b986e3d2ec15fc197889ecee5aea2318d456b6600d6", func := "jurat/juratlaw09.AffixLists", spec := "affixLists", unfollowed := true, recurses := true, apart := false }
def AffixListsSaid : Prop := affixListsRow.holds Try.pinned (OpenSpec.ofChange affixListsSpec)

/-- ITS FALSE NEIGHBOUR: 'it returns false'. Refute it at one input. -/
def affixListsWrong : ChangeSpec := { name := "affixLists", fn := fun _ => fun
  | [d1, d2] => { results := [.lit (.bool false)], args := [d1, d2] }
  | _ => none }
def AffixListsWrongFalsely : Prop := affixListsRow.holds Try.pinned (OpenSpec.ofChange affixListsWrong)

/- THE SECOND FORM. 'bulk': how many values and letters a reading holds, each counted each time it is reached (what is shared counts as often as it is met; a slice's spare places count too). A statement '..UptoSaid' is the law's where the arguments, and the package variables that the reading takes, are together of bulk at most 1048576: NARROWER than '..Said'. Prove '..Said' where nothing that the law and all that it calls make is longer than what came in: it says more and counts as full. Else prove '..UptoSaid'. A law counts once. -/
mutual
def uptoBulk {H : Type} : DataW H → Nat
  | .lit (.string bytes) => bytes.length + 1
  | .lit _ => 1
  | .nil => 1
  | .ptr d => uptoBulk d + 1
  | .slice elems spare => uptoBulkAll elems + uptoBulkAll spare + 1
  | .agg parts => uptoBulkAll parts + 1
  | .iface _ d => uptoBulk d + 1
  | .map entries => uptoBulkEntries entries + 1
  | .held _ => 1
def uptoBulkAll {H : Type} : List (DataW H) → Nat
  | [] => 0
  | d :: r => uptoBulk d + uptoBulkAll r
def uptoBulkEntries {H : Type} : List (Lit × DataW H) → Nat
  | [] => 0
  | x :: r => uptoBulkEntry x + uptoBulkEntries r
def uptoBulkEntry {H : Type} : Lit × DataW H → Nat
  | (.string bytes, d) => bytes.length + uptoBulk d + 1
  | (_, d) => uptoBulk d + 1
 end
def uptoSmall : (H : Type) → List (DataW H) → Bool := fun _ ds => decide (uptoBulkAll ds ≤ 1048576)
def OpenSpec.upto (s : _root_.Go.ChangeSpec) : _root_.Go.OpenSpec := { _root_.Go.OpenSpec.ofChange s with cond := some uptoSmall }

/-- 'juratlaw06.ChunkCuts', WHERE WHAT IT READS IS OF BULK AT MOST 1048576: true; the input reads as it did. -/
def chunkCutsUptoRow : OpenClaim := { program := "ytmkcoobmbjoloaa", sum := "d4dac06dd12887f823173b986e3d2ec15fc197889ecee5aea2318d456b6600d6", func := "jurat/juratlaw06.ChunkCuts", spec := "chunkCuts", apart := false, narrowed := true }
def ChunkCutsUptoSaid : Prop := chunkCutsUptoRow.holds Try.pinned (OpenSpec.upto chunkCutsSpec)

/-- 'juratlaw08.BorderMeets', WHERE WHAT IT READS IS OF BULK AT MOST 1048576: true; the input reads as it did. -/
def borderMeetsUptoRow : OpenClaim := { program := "ytmkcoobmbjoloaa", sum := "d4dac06dd12887f823173b986e3d2ec15fc197889ecee5aea2318d456b6600d6", func := "jurat/juratlaw08.BorderMeets", spec := "borderMeets", apart := false, narrowed := true }
def BorderMeetsUptoSaid : Prop := borderMeetsUptoRow.holds Try.pinned (OpenSpec.upto borderMeetsSpec)

/-- 'juratlaw08.BorderPeriods', WHERE WHAT IT READS IS OF BULK AT MOST 1048576: true; the input reads as it did. -/
def borderPeriodsUptoRow : OpenClaim := { program := "ytmkcoobmbjoloaa", sum := "d4dac06dd12887f823173b986e3d2ec15fc197889ecee5aea2318d456b6600d6", func := "jurat/juratlaw08.BorderPeriods", spec := "borderPeriods", apart := false, narrowed := true }
def BorderPeriodsUptoSaid : Prop := borderPeriodsUptoRow.holds Try.pinned (OpenSpec.upto borderPeriodsSpec)

/-- 'juratlaw25.CarryParts', WHERE WHAT IT READS IS OF BULK AT MOST 1048576: true; the input reads as it did. -/
def carryPartsUptoRow : OpenClaim := { program := "ytmkcoobmbjoloaa", sum := "d4dac06dd12887f823173b986e3d2ec15fc197889ecee5aea2318d456b6600d6", func := "jurat/juratlaw25.CarryParts", spec := "carryParts", apart := false, narrowed := true }
def CarryPartsUptoSaid : Prop := carryPartsUptoRow.holds Try.pinned (OpenSpec.upto carryPartsSpec)

/-- 'juratlaw25.CarryNone', WHERE WHAT IT READS IS OF BULK AT MOST 1048576: true; the input reads as it did. -/
def carryNoneUptoRow : OpenClaim := { program := "ytmkcoobmbjoloaa", sum := "d4dac06dd12887f823173b986e3d2ec15fc197889ecee5aea2318d456b6600d6", func := "jurat/juratlaw25.CarryNone", spec := "carryNone", apart := false, narrowed := true }
def CarryNoneUptoSaid : Prop := carryNoneUptoRow.holds Try.pinned (OpenSpec.upto carryNoneSpec)

/-- 'juratlaw08.BorderTells', WHERE WHAT IT READS IS OF BULK AT MOST 1048576: true; the input reads as it did. -/
def borderTellsUptoRow : OpenClaim := { program := "ytmkcoobmbjoloaa", sum := "d4dac06dd12887f823173b986e3d2ec15fc197889ecee5aea2318d456b6600d6", func := "jurat/juratlaw08.BorderTells", spec := "borderTells", apart := false, narrowed := true }
def BorderTellsUptoSaid : Prop := borderTellsUptoRow.holds Try.pinned (OpenSpec.upto borderTellsSpec)

/-- 'juratlaw47.TallyCounts', WHERE WHAT IT READS IS OF BULK AT MOST 1048576: true; the input reads as it did. -/
def tallyCountsUptoRow : OpenClaim := { program := "ytmkcoobmbjoloaa", sum := "d4dac06dd12887f823173b986e3d2ec15fc197889ecee5aea2318d456b6600d6", func := "jurat/juratlaw47.TallyCounts", spec := "tallyCounts", apart := false, narrowed := true }
def TallyCountsUptoSaid : Prop := tallyCountsUptoRow.holds Try.pinned (OpenSpec.upto tallyCountsSpec)

/-- 'juratlaw47.TallyPlaces', WHERE WHAT IT READS IS OF BULK AT MOST 1048576: true; the input reads as it did. -/
def tallyPlacesUptoRow : OpenClaim := { program := "ytmkcoobmbjoloaa", sum := "d4dac06dd12887f823173b986e3d2ec15fc197889ecee5aea2318d456b6600d6", func := "jurat/juratlaw47.TallyPlaces", spec := "tallyPlaces", apart := false, narrowed := true }
def TallyPlacesUptoSaid : Prop := tallyPlacesUptoRow.holds Try.pinned (OpenSpec.upto tallyPlacesSpec)

/-- 'juratlaw47.TallyAll', WHERE WHAT IT READS IS OF BULK AT MOST 1048576: true; the input reads as it did. -/
def tallyAllUptoRow : OpenClaim := { program := "ytmkcoobmbjoloaa", sum := "d4dac06dd12887f823173b986e3d2ec15fc197889ecee5aea2318d456b6600d6", func := "jurat/juratlaw47.TallyAll", spec := "tallyAll", apart := false, narrowed := true }
def TallyAllUptoSaid : Prop := tallyAllUptoRow.holds Try.pinned (OpenSpec.upto tallyAllSpec)

/-- 'juratlaw06.ChunkBack', WHERE WHAT IT READS IS OF BULK AT MOST 1048576: true; the input reads as it did. -/
def chunkBackUptoRow : OpenClaim := { program := "ytmkcoobmbjoloaa", sum := "d4dac06dd12887f823173b986e3d2ec15fc197889ecee5aea2318d456b6600d6", func := "jurat/juratlaw06.ChunkBack", spec := "chunkBack", inPlace := ["internal/abi.NoEscape", "internal/bytealg.MakeNoZero"], apart := false, narrowed := true }
def ChunkBackUptoSaid : Prop := chunkBackUptoRow.holds Try.pinned (OpenSpec.upto chunkBackSpec)

/-- 'juratlaw06.ChunkParts', WHERE WHAT IT READS IS OF BULK AT MOST 1048576: true; the input reads as it did. -/
def chunkPartsUptoRow : OpenClaim := { program := "ytmkcoobmbjoloaa", sum := "d4dac06dd12887f823173b986e3d2ec15fc197889ecee5aea2318d456b6600d6", func := "jurat/juratlaw06.ChunkParts", spec := "chunkParts", inPlace := ["internal/abi.NoEscape", "internal/bytealg.MakeNoZero"], unfollowed := true, recurses := true, apart := false, narrowed := true }
def ChunkPartsUptoSaid : Prop := chunkPartsUptoRow.holds Try.pinned (OpenSpec.upto chunkPartsSpec)

/-- 'juratlaw09.AffixOrder', WHERE WHAT IT READS IS OF BULK AT MOST 1048576: true; the input reads as it did. -/
def affixOrderUptoRow : OpenClaim := { program := "ytmkcoobmbjoloaa", sum := "d4dac06dd12887f823173b986e3d2ec15fc197889ecee5aea2318d456b6600d6", func := "jurat/juratlaw09.AffixOrder", spec := "affixOrder", unfollowed := true, recurses := true, apart := false, narrowed := true }
def AffixOrderUptoSaid : Prop := affixOrderUptoRow.holds Try.pinned (OpenSpec.upto affixOrderSpec)

/-- 'juratlaw09.AffixTells', WHERE WHAT IT READS IS OF BULK AT MOST 1048576: true; the input reads as it did. -/
def affixTellsUptoRow : OpenClaim := { program := "ytmkcoobmbjoloaa", sum := "d4dac06dd12887f823173b986e3d2ec15fc197889ecee5aea2318d456b6600d6", func := "jurat/juratlaw09.AffixTells", spec := "affixTells", unfollowed := true, recurses := true, apart := false, narrowed := true }
def AffixTellsUptoSaid : Prop := affixTellsUptoRow.holds Try.pinned (OpenSpec.upto affixTellsSpec)

/-- 'juratlaw09.AffixLists', WHERE WHAT IT READS IS OF BULK AT MOST 1048576: true; the input reads as it did. -/
def affixListsUptoRow : OpenClaim := { program := "ytmkcoobmbjoloaa", sum := "d4dac06dd12887f823173b986e3d2ec15fc197889ecee5aea2318d456b6600d6", func := "jurat/juratlaw09.AffixLists", spec := "affixLists", unfollowed := true, recurses := true, apart := false, narrowed := true }
def AffixListsUptoSaid : Prop := affixListsUptoRow.holds Try.pinned (OpenSpec.upto affixListsSpec)

end Rows
end Go.Proofs.Ytmkcoobmbjoloaa
